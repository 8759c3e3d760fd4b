/- Part 10 of the proof of what the last of these files says. -/
import Derived.Test.YtifnmbmijljhfaaGreatPBd9
namespace Go.Proofs.YtifnmbmijljhfaaGreat.E.Hf
open Go
set_option maxHeartbeats 1000000 in
set_option maxRecDepth 100000 in
theorem Lengths_ok (x : Value) (cs : List Int) (lim : Int) (w : World) (hx : RdE i64V w x cs) (hl0 : cs.length ≤ 1152921504606846976) (hk0 : inK .i64 lim) : Calls Tryz.prog 86 [x, .int .i64 lim].toArray w (Rt fun r w' => ∃ v rs, r = .tuple [v, .int .i64 (lenF cs lim).2].toArray ∧ SlE i64V 3 v (lenF cs lim).1 rs ∧ Mem w [] w' [rs]) := by
 have hM0 : Mem w [] w [] := Mem.nil w []
 simp only [inK] at hk0
 refine calls_vc mixed Tryz.func86 rfl C86 (by simp [Tryz.ntmps86]) <| seq fun _ h1 => mv <| mv <| h1 _ _ <| seq fun _ h2 => seq fun _ h3 => mv <| stp (v := .int .i64 (cs.length : Nat)) (o_lenR (hx.upd hM0.upd) rfl rfl) <| bn rfl rfl <| h3 _ _ <| cndP rfl (fun c4 => ?_) (fun c4 => ?_)
 ·refine seq fun _ h5 => mv <| mv <| h5 _ _ <| ⟨(.tuple [.slice none 0 0, .int .i64 2].toArray), rfl, ?_⟩
  rw [lenF_long (by omega)]; exact ⟨_, [], rfl, Sl.nil 1 3, hM0.keep (by simp)⟩
 refine h2 _ _ <| seq fun _ h6 => seq fun _ h7 => mv <| m_call (wrong_ok _ cs w (hx.upd hM0.upd) (by first | omega | (simp; done) | (simp; omega))) rfl fun v8 w8 ⟨hr8, hu8⟩ => ?_
 have hM8 : Mem _ _ w8 [] := hM0.pure hu8
 subst hr8
 refine mv <| h7 _ _ <| seq fun _ h9 => ?_
 have hE : (inB 0 1099511627776 cs = true ∧ errIf (inB 0 1099511627776 cs) 3 = 0) ∨ (inB 0 1099511627776 cs = false ∧ errIf (inB 0 1099511627776 cs) 3 = 3) := by
  cases inB 0 1099511627776 cs with
  | true => exact .inl ⟨rfl, rfl⟩
  | false => exact .inr ⟨rfl, rfl⟩
 refine mv <| bneq rfl rfl <| mv <| splitP rfl (fun c10 => ?_) (fun c10 => ?_)
 ·refine gx rfl <| gx rfl <| pkT rfl <| mv <| splitT rfl <| gx rfl <| gx rfl <| pkT rfl <| h9 _ _ <| cndT rfl <| seq fun _ h11 => mv <| mv <| h11 _ _ ?_
  refine ⟨(.tuple [.slice none 0 0, .int .i64 3].toArray), rfl, ?_⟩
  rw [lenF_arg (by omega) (by intro k; rcases hE with ⟨h1, h2⟩ | ⟨h1, h2⟩ <;> first | omega | (rw [h1] at k; exact absurd k.1 (by decide)))]; exact ⟨_, [], rfl, Sl.nil 1 3, hM8.keep (by simp)⟩
 refine gmv rfl <| gbn rfl rfl rfl <| pkF rfl <| mv <| splitP rfl (fun c12 => ?_) (fun c12 => ?_)
 ·refine gx rfl <| gx rfl <| pkT rfl <| h9 _ _ <| cndT rfl <| seq fun _ h13 => mv <| mv <| h13 _ _ <| ⟨(.tuple [.slice none 0 0, .int .i64 3].toArray), rfl, ?_⟩
  rw [lenF_arg (by omega) (by intro k; rcases hE with ⟨h1, h2⟩ | ⟨h1, h2⟩ <;> first | omega | (rw [h1] at k; exact absurd k.1 (by decide)))]; exact ⟨_, [], rfl, Sl.nil 1 3, hM8.keep (by simp)⟩
 refine gmv rfl <| gbn rfl rfl rfl <| pkF rfl <| h9 _ _ <| cndP rfl (fun c14 => ?_) (fun c14 => ?_)
 ·refine seq fun _ h15 => mv <| mv <| h15 _ _ <| ⟨(.tuple [.slice none 0 0, .int .i64 3].toArray), rfl, ?_⟩
  rw [lenF_arg (by omega) (by intro k; rcases hE with ⟨h1, h2⟩ | ⟨h1, h2⟩ <;> first | omega | (rw [h1] at k; exact absurd k.1 (by decide)))]; exact ⟨_, [], rfl, Sl.nil 1 3, hM8.keep (by simp)⟩
 refine h6 _ _ <| seq fun _ h16 => ?_
 have hpre : inB 0 1099511627776 cs = true ∧ 1 ≤ lim ∧ lim ≤ 15 := by
  rcases hE with ⟨h1, h2⟩ | ⟨h1, h2⟩
  ·exact ⟨h1, by omega, by omega⟩
  omega
 refine mv <| m_call (things_ok _ cs w8 (hx.upd hM8.upd) (by omega)) rfl fun v17 w17 ⟨rf, hs17, hm17⟩ => ?_
 have hM17 : Mem _ _ w17 [rf] := hM8.add hm17
 have htl := thF_len cs
 refine mv <| h16 _ _ <| seq fun _ h18 => mv <| stp (v := .int .i64 ((thF cs).length : Nat)) (o_lenR (hs17.rd hM17 (i := 0) rfl) rfl rfl) <| mv <| h18 _ _ <| seq fun _ h19 => seq fun _ h20 => mv <| mv <| stp (v := .int .i64 (2 ^ lim.toNat : Nat)) (o_shl rfl rfl (by omega) ((by
  have e : lim = ((lim.toNat : Nat) : Int) := by omega
  rw [e]; exact shl_one (by omega)))) ?_
 refine bn rfl rfl <| h20 _ _ <| cndP rfl (fun c21 => ?_) (fun c21 => ?_)
 ·refine seq fun _ h22 => mv <| mv <| h22 _ _ <| ⟨(.tuple [.slice none 0 0, .int .i64 41].toArray), rfl, ?_⟩
  rw [lenF_lim (by omega) hpre (by omega)]; exact ⟨_, [], rfl, Sl.nil 1 3, hM17.keep (by simp)⟩
 refine h19 _ _ <| seq fun _ h23 => mv <| stp (v := .int .i64 (cs.length : Nat)) (o_lenR (hx.upd hM17.upd) rfl rfl) <| m_mksE (E := i64V) (z := 0) (n := cs.length) (c := cs.length) rfl hM17 (v_int (by omega)) (v_int (by omega)) (by omega) (by omega) (by omega) fun v24 w24 r24 hs24 (hM24 : Mem _ _ w24 [_, r24]) => mv <| h23 _ _ <| seq fun _ h25 => seq fun _ h26 => mv <| bn rfl rfl <| h26 _ _ <| cndP rfl (fun c27 => ?_) (fun c27 => ?_)
 ·refine seq fun _ h28 => seq fun _ h29 => mv <| stp (v := .int .i64 (cs.length : Nat)) (o_lenR (hx.upd hM24.upd) rfl rfl) <| mv <| h29 _ _ <| lp (n := fun _ _ => False) (ι := (Nat) × (Value) × (List Ent)) (fun ⟨i, y9_, r9_⟩ f w' => f 46 = .int .i64 (i : Nat) ∧ f 9 = y9_ ∧ f 44 = x ∧ f 45 = .int .i64 (cs.length : Nat) ∧ Mem w [] w' [rf, r9_] ∧ (i ≤ cs.length) ∧ ((mapR cs.length fun s => if s < i then (if 0 < cs.getD s 0 then 1 else 0) else 0).length = cs.length) ∧ (SlE i64V 3 y9_ ((mapR cs.length fun s => if s < i then (if 0 < cs.getD s 0 then 1 else 0) else 0)) r9_)) (fun ⟨i, y9_, r9_⟩ => cs.length - i) (0, v24, r24) ?_ ?_
  ·exact ⟨vi, rfl, rfl, vi, hM24, by omega, mapR_len _ _, by
   have h9 := hs24
   rw [mapR_rep] at h9
   exact h9.eqL (mapR_ext fun s _ => by rw [if_neg (by omega)])⟩
  rintro ⟨i, y9_, r9_⟩ f w30 ⟨e30_46, e30_9, e30_44, e30_45, hM30, hi, hml, hy9_⟩ K31 h31
  obtain ⟨frm, rfl⟩ := re4 e30_46 e30_9 e30_44 e30_45
  refine seq fun _ h32 => bn rfl rfl <| h32 _ _ <| seq fun _ h33 => cndP rfl (fun c34 => ?_) (fun c34 => ?_)
  ·refine h33 _ _ <| seq fun _ h35 => seq fun _ h36 => mv <| m_idxE 0 (j := i) (hx.upd hM30.upd) rfl rfl (by omega) fun b37 o37 hp37 => ld (v := .int .i64 (cs.getD i 0)) rfl (hp37) <| mv <| mv <| h36 _ _ <| seq fun _ h38 => mv <| bn rfl rfl <| h38 _ _ <| cndP rfl (fun c39 => ?_) (fun c39 => ?_)
   ·refine mv <| mv <| m_set (E := i64V) (q := 1) (j := i) hM30 (i := 1) rfl hy9_ rfl rfl (by omega) (by simp) (rfl) fun w40 r40 u40 he40 hs40 (hM40 : Mem w [] w40 [rf, r40]) => h35 _ _ <| stp (v := .int .i64 ((i : Nat) + 1)) (o_bin rfl rfl (v_add64 (by omega))) <| mv <| h31 (i + 1, y9_, r40) _ _ ⟨vi, rfl, rfl, vi, hM40, by omega, mapR_len _ _, by rw [← oneR_set (by assumption)]; exact hs40⟩ (by (try dsimp only); omega)
   refine h35 _ _ <| stp (v := .int .i64 ((i : Nat) + 1)) (o_bin rfl rfl (v_add64 (by omega))) <| mv <| h31 (i + 1, y9_, r9_) _ _ ⟨vi, rfl, rfl, vi, hM30, by omega, mapR_len _ _, by rw [← oneR_no (by assumption)]; exact hy9_⟩ (by (try dsimp only); omega)
  refine h28 _ _ <| seq fun _ h41 => mv <| mv <| mv <| h41 _ _ <| ⟨(.tuple [y9_, .int .i64 0].toArray), rfl, ?_⟩
  rw [lenF_ok (by omega) hpre (by omega)]
  exact ⟨_, _, rfl, SlE.eqL (hy9_) (oneR_end (by omega) (by omega)), hM30.keep (by simp)⟩
 refine h25 _ _ <| seq fun _ h42 => mv <| mv <| h42 _ _ <| seq fun _ h43 => seq fun _ h44 => mv <| stp (v := .int .i64 (lim - 1)) (o_bin rfl rfl (v_sub64 (by omega))) <| mv <| h44 _ _ <| lp (n := fun _ _ => False) (ι := (Nat) × (Value) × (List Ent)) (fun ⟨j, xr, rr⟩ f w' => f 61 = .int .i64 (j : Nat) ∧ f 12 = xr ∧ f 7 = v17 ∧ f 8 = .int .i64 ((thF cs).length : Nat) ∧ f 9 = v24 ∧ f 60 = .int .i64 (lim - 1) ∧ Mem w [] w' [rf, r24, rr] ∧ (SubS thC xr (rowF (thF cs) j) (rf ++ rr)) ∧ (j + 1 ≤ lim.toNat)) (fun ⟨j, xr, rr⟩ => lim.toNat - j) (0, v17, []) ?_ ?_
 ·exact ⟨vi, rfl, rfl, vi, rfl, vi, hM24.addNil, (SlS.sub (hs17)).mono (by simp), by omega⟩
 rintro ⟨j, xr, rr⟩ f w45 ⟨e45_61, e45_12, e45_7, e45_8, e45_9, e45_60, hM45, hrw, hj⟩ K46 h46
 obtain ⟨frm, rfl⟩ := re6 e45_61 e45_12 e45_7 e45_8 e45_9 e45_60
 refine seq fun _ h47 => bn rfl rfl <| h47 _ _ <| seq fun _ h48 => cndP rfl (fun c49 => ?_) (fun c49 => ?_)
 ·refine h48 _ _ <| seq fun _ h50 => ?_
  have hrk := row_ok (cs := cs) (j := j) (by omega) hpre.1 (by omega)
  refine mv <| mv <| m_call (next_ok _ _ (thF cs) (rowF (thF cs) j) _ w45 (hs17.rd hM45 (i := 0) rfl) (hrw.rd _ (own2 (hM45.owned (i := 0) rfl) (hM45.owned (i := 2) rfl))) (by omega) hrk.1 (by omega) hrk.2.1 (fun k _ => Nat.le_trans (hrk.2.2 k) (by omega))) rfl fun v51 w51 ⟨rn51, hs51, hm51⟩ => ?_
  have hM51 : Mem w [] w51 [rf, r24, rr, rn51] := hM45.add hm51
  refine mv <| h50 _ _ <| stp (v := .int .i64 ((j : Nat) + 1)) (o_bin rfl rfl (v_add64 (by omega))) <| mv <| h46 (j + 1, v51, rn51) _ _ ⟨vi, rfl, rfl, vi, rfl, vi, hM51.keep (by simp), (SlS.sub (hs51)).mono (fun e he => List.mem_append_right _ he), by omega⟩ (by (try dsimp only); omega)
 refine h43 _ _ <| seq fun _ h52 => seq fun _ h53 => mv <| mv <| stp (v := .int .i64 (2 * ((thF cs).length : Nat))) (o_bin rfl rfl (v_mul64 (by omega))) <| stp (v := .int .i64 ((2 * ((thF cs).length : Nat)) - 2)) (o_bin rfl rfl (v_sub64 (by omega))) <| stp (v := .int .i64 ((2 * (thF cs).length - 2) : Nat)) (o_mm rfl rfl (v_int (by simp only [if_true]; omega))) ?_
 have hje : j = lim.toNat - 1 := by omega
 have hbig := row_big (thF cs) (lim := lim.toNat) (by omega) (by omega)
 rw [← hje] at hbig
 refine m_slcSubH (2 * (thF cs).length - 2) hrw ((own2 (hM45.owned (i := 0) rfl) (hM45.owned (i := 2) rfl))) rfl (by omega) rfl fun u54 hu54 => ?_
 have hu54' := hu54.eqL (m := (takeF cs lim.toNat)) (by
  unfold takeF
  rw [← hje]
  by_cases k0 : (thF cs).length = 0
  ·rw [row_none k0]; simp
  rw [show max (2 * (thF cs).length - 2) 1 = 2 * (thF cs).length - 2 by omega])
 have htfl : (takeF cs lim.toNat).length ≤ 512 := by
  unfold takeF
  rw [List.length_take]
  have := (row_ok (cs := cs) (j := lim.toNat - 1) (by omega) hpre.1 (by omega)).1
  omega
 refine stp (v := .int .i64 ((takeF cs lim.toNat).length : Nat)) (o_lenR (hu54'.rd _ (own2 (hM45.owned (i := 0) rfl) (hM45.owned (i := 2) rfl))) rfl rfl) <| mv <| h53 _ _ <| lp (n := fun _ _ => False) (ι := (Nat) × (Value) × (List Ent)) (fun ⟨q, y9_, r9_⟩ f w' => f 74 = .int .i64 (q : Nat) ∧ f 9 = y9_ ∧ f 72 = u54 ∧ f 73 = .int .i64 ((takeF cs lim.toNat).length : Nat) ∧ Mem w [] w' [rf, r9_, rr] ∧ (q ≤ (takeF cs lim.toNat).length) ∧ ((gatR cs.length (takeF cs lim.toNat) q 0).length = cs.length) ∧ (SlE i64V 3 y9_ (gatR cs.length (takeF cs lim.toNat) q 0) r9_)) (fun ⟨q, y9_, r9_⟩ => (takeF cs lim.toNat).length - q) (0, v24, r24) ?_ ?_
 ·exact ⟨vi, rfl, rfl, vi, hM45, by omega, gat_len _ _ _ _, by rw [← gat_zero]; exact hs24⟩
 rintro ⟨q, y9_, r9_⟩ f w55 ⟨e55_74, e55_9, e55_72, e55_73, hM55, hq, hgl, hy9_⟩ K56 h56
 obtain ⟨frm, rfl⟩ := re4 e55_74 e55_9 e55_72 e55_73
 refine seq fun _ h57 => bn rfl rfl <| h57 _ _ <| seq fun _ h58 => cndP rfl (fun c59 => ?_) (fun c59 => ?_)
 ·refine h58 _ _ <| seq fun _ h60 => seq fun _ h61 => m_idxS th0 (j := q) (hu54'.rd _ (own2 (hM55.owned (i := 0) rfl) (hM55.owned (i := 2) rfl))) rfl rfl (by omega) fun b62 o62 hp62 => ldA (cs := thC ((takeF cs lim.toNat).getD q th0)) rfl (thC_len _) (hp62.all) <| m_al hM55 fun b63 w64 (hM64 : Mem w [] w64 [rf, r9_, rr, [⟨b63, 169, (zcOf Tryz.t169)⟩]]) => m_stA (l := (thC ((takeF cs lim.toNat).getD q th0))) hM64 (i := 3) rfl rfl rfl (by simp) (thC_one _) (by simp) fun w65 hm65 => ?_
  have hM65 : Mem w [] w65 [rf, r9_, rr, [⟨b63, 169, (thC ((takeF cs lim.toNat).getD q th0))⟩]] := by
   have e : splice (zcOf Tryz.t169) 0 (thC ((takeF cs lim.toNat).getD q th0)) = (thC ((takeF cs lim.toNat).getD q th0)) := splice_full (by simp; first | done | (simp) | omega)
   rw [e] at hm65
   exact hm65
  refine h61 _ _ <| seq fun _ h66 => mv <| stp (v := .int .i64 ((gatR cs.length (takeF cs lim.toNat) q 0).length : Nat)) (o_lenR (hy9_.rd hM65 (i := 1) rfl) rfl rfl) <| mv <| h66 _ _ <| lp (n := fun _ _ => False) (ι := (Nat) × (Value) × (List Ent)) (fun ⟨i, y9_, r9_⟩ f w' => f 80 = .int .i64 (i : Nat) ∧ f 9 = y9_ ∧ f 14 = .pointer (some ⟨b63, 0, none⟩) ∧ f 72 = u54 ∧ f 73 = .int .i64 ((takeF cs lim.toNat).length : Nat) ∧ f 74 = .int .i64 (q : Nat) ∧ f 79 = .int .i64 ((gatR cs.length (takeF cs lim.toNat) q 0).length : Nat) ∧ Mem w [] w' [rf, r9_, rr, [⟨b63, 169, (thC ((takeF cs lim.toNat).getD q th0))⟩]] ∧ (i ≤ cs.length) ∧ ((gatR cs.length (takeF cs lim.toNat) q i).length = cs.length) ∧ (SlE i64V 3 y9_ (gatR cs.length (takeF cs lim.toNat) q i) r9_)) (fun ⟨i, y9_, r9_⟩ => cs.length - i) (0, y9_, r9_) ?_ ?_
  ·exact ⟨vi, rfl, rfl, rfl, vi, vi, vi, hM65, by omega, gat_len _ _ _ _, by first | exact hy9_ | simpa using hy9_⟩
  rintro ⟨i, y9_, r9_⟩ f w67 ⟨e67_80, e67_9, e67_14, e67_72, e67_73, e67_74, e67_79, hM67, hi, hgi, hy9_⟩ K68 h68
  obtain ⟨frm, rfl⟩ := re7 e67_80 e67_9 e67_14 e67_72 e67_73 e67_74 e67_79
  refine seq fun _ h69 => bn rfl rfl <| h69 _ _ <| seq fun _ h70 => cndP rfl (fun c71 => ?_) (fun c71 => ?_)
  ·refine h70 _ _ <| seq fun _ h72 => seq fun _ h73 => mv <| mv <| h73 _ _ ?_
   intro wd e1 e2 e3 e4
   have hd := Upd.same e1 e2 e3 e4 []
   have hM74 := hM67.pure hd
   clear e1 e2 e3 e4
   refine ⟨(some [b63]), ?_⟩
   show vd _ _ _ _ _ _ _
   refine dmv <| dmv <| dqp (m_idxE 0 (j := i) (hy9_.rd hM74 (i := 1) rfl) rfl rfl (by omega) fun b75 o75 hp75 => ?_)
   show vd _ _ _ _ _ _ _
   refine dmv <| dfa rfl <| dq (v := .pointer (some ⟨b63, 1 + i, none⟩)) (o_idxa rfl rfl (by omega) (v_ptr (by first | (rw [Int.toNat_natCast, Nat.mul_one]; done) | (simp; done) | omega))) <| dqld rfl (by simp [isHeld]) (v := .int .u8 (((takeF cs lim.toNat).getD q th0).f i : Nat)) (((hM74.at (i := 3) (j := 0) rfl rfl).cell _).trans (thC_cell (by omega))) ?_
   have hroom := gat_room (cs := cs) (lim := lim.toNat) (by omega) hpre.1 (by omega) (q := q) (i := i) (by omega)
   refine dq (v := .int .i64 (((takeF cs lim.toNat).getD q th0).f i : Nat)) (o_conv rfl (v_same (by simp only [inK]; omega))) <| dl (ld (v := .int .i64 ((gatR cs.length (takeF cs lim.toNat) q i).getD i 0)) rfl (hp75) <| ⟨(fun b hb => rfl), dq (v := .int .i64 (tot i ((takeF cs lim.toNat).take q) + ((takeF cs lim.toNat).getD q th0).f i : Nat)) (o_bin rfl rfl ((v_add64 (by rw [gat_get (by omega)]; omega)).trans (v_int (by rw [gat_get (by omega)]; omega)))) <| dset (m_setU (E := i64V) (q := (tot i ((takeF cs lim.toNat).take q) + ((takeF cs lim.toNat).getD q th0).f i : Nat)) (j := i) hM74 (i := 1) rfl hy9_ rfl rfl (by omega) (by simp) (rfl) fun w76 r76 u76 he76 hs76 (hM76 : Mem w [] w76 [rf, r76, rr, [⟨b63, 169, (thC ((takeF cs lim.toNat).getD q th0))⟩]]) hup76 => ?_)⟩)
   have hh76 := held_upd (wr := wd) (bs := [b63]) hup76 (fun b hb => by
    simp only [List.mem_cons, List.not_mem_nil, or_false] at hb
    rw [hb]; exact ⟨(hM74.at (i := 3) (j := 0) rfl rfl).lt, hM74.apart (i := 3) (j := 0) (k := 1) rfl rfl rfl (by decide)⟩) (fun b hb => rfl)
   refine ⟨hh76, ?_⟩
   show vd _ _ _ _ _ _ _
   refine h72 _ _ <| stp (v := .int .i64 ((i : Nat) + 1)) (o_bin rfl rfl (v_add64 (by omega))) <| mv <| h68 (i + 1, y9_, r76) _ _ ⟨vi, rfl, rfl, rfl, vi, vi, vi, hM76, by omega, gat_len _ _ _ _, by rw [← gat_set]; exact hs76⟩ (by (try dsimp only); omega)
  refine h60 _ _ <| stp (v := .int .i64 ((q : Nat) + 1)) (o_bin rfl rfl (v_add64 (by omega))) <| mv <| h56 (q + 1, y9_, r9_) _ _ ⟨vi, rfl, rfl, vi, hM67.keep (by simp), by omega, gat_len _ _ _ _, (SlE.eqL (hy9_) (by rw [show i = cs.length by omega]; exact gat_next (by omega)))⟩ (by (try dsimp only); omega)
 refine h52 _ _ <| seq fun _ h77 => mv <| mv <| mv <| h77 _ _ <| ⟨(.tuple [y9_, .int .i64 0].toArray), rfl, ?_⟩
 rw [lenF_ok (by omega) hpre (by omega)]
 exact ⟨_, _, rfl, SlE.eqL (hy9_) (gat_end rfl (by omega)), hM55.keep (by simp)⟩
theorem tot_room {R : List Th} {q i : Nat} (h : q < R.length) : tot i (R.take q) + (R.getD q th0).f i ≤ tot i R := by
 have h3 := tot_append i (R.take q) (R.drop q)
 rw [List.take_append_drop] at h3
 have h4 := tot_mem (k := i) (l := R.drop q) (t := R.getD q th0) (by rw [dropG th0 h]; exact List.mem_cons_self)
 omega
theorem gat_end2 {cs : List Int} {lim : Nat} {R : List Th} {q : Nat} (hR : R.take q = takeF cs lim) : gatR cs.length R q 0 = lensF cs lim := mapR_ext fun s _ => by rw [hR]; simp
set_option maxHeartbeats 1000000 in
set_option maxRecDepth 100000 in
theorem refLengths_ok (x : Value) (cs : List Int) (lim : Int) (w : World) (hx : RdE i64V w x cs) (hl0 : cs.length ≤ 1152921504606846976) (hk0 : inK .i64 lim) : Calls Tryz.prog 62 [x, .int .i64 lim].toArray w (Rt fun r w' => ∃ v rs, r = .tuple [v, .int .i64 (lenF cs lim).2].toArray ∧ SlE i64V 3 v (lenF cs lim).1 rs ∧ Mem w [] w' [rs]) := by
 have hM0 : Mem w [] w [] := Mem.nil w []
 simp only [inK] at hk0
 refine calls_vc mixed Tryz.func62 rfl C62 (by simp [Tryz.ntmps62]) <| seq fun _ h1 => mv <| mv <| h1 _ _ <| seq fun _ h2 => seq fun _ h3 => mv <| stp (v := .int .i64 (cs.length : Nat)) (o_lenR (hx.upd hM0.upd) rfl rfl) <| bn rfl rfl <| h3 _ _ <| cndP rfl (fun c4 => ?_) (fun c4 => ?_)
 ·refine seq fun _ h5 => mv <| mv <| h5 _ _ <| ⟨(.tuple [.slice none 0 0, .int .i64 2].toArray), rfl, ?_⟩
  rw [lenF_long (by omega)]; exact ⟨_, [], rfl, Sl.nil 1 3, hM0.keep (by simp)⟩
 refine h2 _ _ <| seq fun _ h6 => seq fun _ h7 => mv <| bn rfl rfl <| mv <| splitP rfl (fun c8 => ?_) (fun c8 => ?_)
 ·refine gx rfl <| gx rfl <| pkT rfl <| mv <| splitT rfl <| gx rfl <| gxl rfl <| gx rfl <| pkT rfl <| h7 _ _ <| cndT rfl <| seq fun _ h9 => mv <| mv ?_
  refine h9 _ _ <| ⟨(.tuple [.slice none 0 0, .int .i64 3].toArray), rfl, ?_⟩
  rw [lenF_arg (by omega) (by intro k; first | omega | (have h := (show (!inB 0 1099511627776 cs) = true by assumption); rw [k.1] at h; cases h))]; exact ⟨_, [], rfl, Sl.nil 1 3, hM0.keep (by simp)⟩
 refine gmv rfl <| gbn rfl rfl rfl <| pkF rfl <| mv <| splitP rfl (fun c10 => ?_) (fun c10 => ?_)
 ·refine gx rfl <| gxl rfl <| gx rfl <| pkT rfl <| h7 _ _ <| cndT rfl <| seq fun _ h11 => mv <| mv <| h11 _ _ <| ⟨(.tuple [.slice none 0 0, .int .i64 3].toArray), rfl, ?_⟩
  rw [lenF_arg (by omega) (by intro k; first | omega | (have h := (show (!inB 0 1099511627776 cs) = true by assumption); rw [k.1] at h; cases h))]; exact ⟨_, [], rfl, Sl.nil 1 3, hM0.keep (by simp)⟩
 refine gmv rfl <| gyesl rfl <| m_call (allCounts_ok _ cs w (hx.upd hM0.upd) (by first | omega | (simp; done) | (simp; omega))) rfl fun v12 w12 ⟨hr12, hu12⟩ => ?_
 have hM12 : Mem _ _ w12 [] := hM0.pure hu12
 subst hr12
 refine stg rfl (v := .bool (!(inB 0 1099511627776 cs))) (o_not rfl rfl) <| pkF rfl <| h7 _ _ <| cnd rfl (fun c13 => ?_) (fun c13 => ?_)
 ·refine seq fun _ h14 => mv <| mv <| h14 _ _ <| ⟨(.tuple [.slice none 0 0, .int .i64 3].toArray), rfl, ?_⟩
  rw [lenF_arg (by omega) (by intro k; first | omega | (have h := (show (!inB 0 1099511627776 cs) = true by assumption); rw [k.1] at h; cases h))]; exact ⟨_, [], rfl, Sl.nil 1 3, hM12.keep (by simp)⟩
 refine h6 _ _ <| seq fun _ h15 => ?_
 have hpre : inB 0 1099511627776 cs = true ∧ 1 ≤ lim ∧ lim ≤ 15 := by
  refine ⟨?_, by omega, by omega⟩
  have h := (show (!inB 0 1099511627776 cs) = false by assumption)
  simpa using h
 refine mv <| m_call (refThings_ok _ cs w12 (hx.upd hM12.upd) (by omega) (inB_all hpre.1)) rfl fun v16 w16 ⟨rf, hs16, hm16⟩ => ?_
 have hM16 : Mem _ _ w16 [rf] := hM12.add hm16
 have htl := thF_len cs
 refine mv <| h15 _ _ <| seq fun _ h17 => mv <| stp (v := .int .i64 ((thF cs).length : Nat)) (o_lenR (hs16.rd hM16 (i := 0) rfl) rfl rfl) <| mv <| h17 _ _ <| seq fun _ h18 => seq fun _ h19 => mv <| mv <| stp (v := .int .i64 (2 ^ lim.toNat : Nat)) (o_shl rfl rfl (by omega) ((by
  have e : lim = ((lim.toNat : Nat) : Int) := by omega
  rw [e]; exact shl_one (by omega)))) ?_
 refine bn rfl rfl <| h19 _ _ <| cndP rfl (fun c20 => ?_) (fun c20 => ?_)
 ·refine seq fun _ h21 => mv <| mv <| h21 _ _ <| ⟨(.tuple [.slice none 0 0, .int .i64 41].toArray), rfl, ?_⟩
  rw [lenF_lim (by omega) hpre (by omega)]; exact ⟨_, [], rfl, Sl.nil 1 3, hM16.keep (by simp)⟩
 refine h18 _ _ <| seq fun _ h22 => mv <| stp (v := .int .i64 (cs.length : Nat)) (o_lenR (hx.upd hM16.upd) rfl rfl) <| m_mksE (E := i64V) (z := 0) (n := cs.length) (c := cs.length) rfl hM16 (v_int (by omega)) (v_int (by omega)) (by omega) (by omega) (by omega) fun v23 w23 r23 hs23 (hM23 : Mem _ _ w23 [_, r23]) => mv <| h22 _ _ <| seq fun _ h24 => seq fun _ h25 => mv <| bn rfl rfl <| h25 _ _ <| cndP rfl (fun c26 => ?_) (fun c26 => ?_)
 ·refine seq fun _ h27 => mv <| mv <| mv <| h27 _ _ <| ⟨(.tuple [v23, .int .i64 0].toArray), rfl, ?_⟩
  rw [lenF_ok (by omega) hpre (by omega)]
  exact ⟨_, _, rfl, SlE.eqL (hs23) (by rw [mapR_rep]; exact (lens_none (by omega)).symm), hM23.keep (by simp)⟩
 refine h24 _ _ <| seq fun _ h28 => mv <| mv <| h28 _ _ <| seq fun _ h29 => seq fun _ h30 => mv <| h30 _ _ <| lp (n := fun _ _ => False) (ι := (Nat) × (Value) × (List Ent)) (fun ⟨j, xr, rr⟩ f w' => f 10 = .int .i64 ((j : Nat) + 1) ∧ f 9 = xr ∧ f 0 = x ∧ f 1 = .int .i64 lim ∧ f 6 = v16 ∧ f 7 = .int .i64 ((thF cs).length : Nat) ∧ f 8 = v23 ∧ Mem w [] w' [rf, r23, rr] ∧ (SubS pkC xr (rowF (thF cs) j) (rf ++ rr)) ∧ (j + 1 ≤ lim.toNat)) (fun ⟨j, xr, rr⟩ => lim.toNat - j) (0, v16, []) ?_ ?_
 ·exact ⟨vi, rfl, rfl, vi, rfl, vi, rfl, hM23.addNil, (SlS.sub (hs16)).mono (by simp), by omega⟩
 rintro ⟨j, xr, rr⟩ f w31 ⟨e31_10, e31_9, e31_0, e31_1, e31_6, e31_7, e31_8, hM31, hrw, hj⟩ K32 h32
 obtain ⟨frm, rfl⟩ := re7 e31_10 e31_9 e31_0 e31_1 e31_6 e31_7 e31_8
 refine seq fun _ h33 => seq fun _ h34 => mv <| mv <| bn rfl rfl <| h34 _ _ <| cndP rfl (fun c35 => ?_) (fun c35 => ?_)
 ·refine h33 _ _ <| seq fun _ h36 => ?_
  have hrk := row_ok (cs := cs) (j := j) (by omega) hpre.1 (by omega)
  refine mv <| mv <| m_call (paired_ok _ (rowF (thF cs) j) _ w31 (hrw.rd _ (own2 (hM31.owned (i := 0) rfl) (hM31.owned (i := 2) rfl))) hrk.1 (by omega) hrk.2.1 (fun k _ => Nat.le_trans (hrk.2.2 k) (by omega))) rfl fun v37 w37 ⟨rn37, hs37, hm37⟩ => ?_
  have hM37 : Mem w [] w37 [rf, r23, rr, rn37] := hM31.add hm37
  refine m_call (merged_ok _ _ (thF cs) (pairsL (rowF (thF cs) j)) w37 (hs16.rd hM37 (i := 0) rfl) (hs37.rd hM37 (i := 3) rfl) (by omega) (by rw [pairs_len]; omega)) rfl fun v38 w38 ⟨rn38, hs38, hm38⟩ => ?_
  have hM38 : Mem _ _ w38 [_, _, _, _, rn38] := hM37.add hm38
  refine mv <| h36 _ _ <| mv <| stp (v := .int .i64 (((j : Nat) + 1) + 1)) (o_bin rfl rfl (v_add64 (by omega))) <| mv <| h32 (j + 1, v38, rn38) _ _ ⟨vi, rfl, rfl, vi, rfl, vi, rfl, hM38.keep (by simp), (SlS.sub (hs38)).mono (fun e he => List.mem_append_right _ he), by omega⟩ (by (try dsimp only); omega)
 refine h29 _ _ <| seq fun _ h39 => ?_
 have hje : j = lim.toNat - 1 := by omega
 have hrk := row_ok (cs := cs) (j := j) (by omega) hpre.1 (by omega)
 have hrl : (max (2 * (thF cs).length - 2) 1) ≤ (rowF (thF cs) j).length := by rw [hje]; exact rowT_len (by omega) (by omega) (by omega)
 refine mv <| stp (v := .int .i64 (2 * ((thF cs).length : Nat))) (o_bin rfl rfl (v_mul64 (by omega))) <| stp (v := .int .i64 ((2 * ((thF cs).length : Nat)) - 2)) (o_bin rfl rfl (v_sub64 (by omega))) <| stp (v := .int .i64 ((max (2 * (thF cs).length - 2) 1) : Nat)) (o_mm rfl rfl (v_int (by simp only [if_true]; omega))) <| mv <| h39 _ _ <| seq fun _ h40 => seq fun _ h41 => mv <| h41 _ _ <| lp (n := fun _ _ => False) (ι := (Nat) × (Value) × (List Ent)) (fun ⟨q, y8_, r8_⟩ f w' => f 12 = .int .i64 (q : Nat) ∧ f 8 = y8_ ∧ f 0 = x ∧ f 9 = xr ∧ f 11 = .int .i64 ((max (2 * (thF cs).length - 2) 1) : Nat) ∧ Mem w [] w' [rf, r8_, rr] ∧ (q ≤ (max (2 * (thF cs).length - 2) 1)) ∧ ((gatR cs.length (rowF (thF cs) j) q 0).length = cs.length) ∧ (SlE i64V 3 y8_ (gatR cs.length (rowF (thF cs) j) q 0) r8_)) (fun ⟨q, y8_, r8_⟩ => (max (2 * (thF cs).length - 2) 1) - q) (0, v23, r23) ?_ ?_
 ·exact ⟨vi, rfl, rfl, rfl, vi, hM31, by omega, gat_len _ _ _ _, by rw [← gat_zero]; exact hs23⟩
 rintro ⟨q, y8_, r8_⟩ f w42 ⟨e42_12, e42_8, e42_0, e42_9, e42_11, hM42, hq, hgl, hy8_⟩ K43 h43
 obtain ⟨frm, rfl⟩ := re5 e42_12 e42_8 e42_0 e42_9 e42_11
 refine seq fun _ h44 => seq fun _ h45 => mv <| mv <| bn rfl rfl <| h45 _ _ <| cndP rfl (fun c46 => ?_) (fun c46 => ?_)
 ·refine h44 _ _ <| seq fun _ h47 => seq fun _ h48 => mv <| h48 _ _ <| lp (n := fun _ _ => False) (ι := (Nat) × (Value) × (List Ent)) (fun ⟨i, y8_, r8_⟩ f w' => f 13 = .int .i64 (i : Nat) ∧ f 8 = y8_ ∧ f 0 = x ∧ f 9 = xr ∧ f 11 = .int .i64 ((max (2 * (thF cs).length - 2) 1) : Nat) ∧ f 12 = .int .i64 (q : Nat) ∧ Mem w [] w' [rf, r8_, rr] ∧ (i ≤ cs.length) ∧ ((gatR cs.length (rowF (thF cs) j) q i).length = cs.length) ∧ (SlE i64V 3 y8_ (gatR cs.length (rowF (thF cs) j) q i) r8_)) (fun ⟨i, y8_, r8_⟩ => cs.length - i) (0, y8_, r8_) ?_ ?_
  ·exact ⟨vi, rfl, rfl, rfl, vi, vi, hM42, by omega, gat_len _ _ _ _, by first | exact hy8_ | simpa using hy8_⟩
  rintro ⟨i, y8_, r8_⟩ f w49 ⟨e49_13, e49_8, e49_0, e49_9, e49_11, e49_12, hM49, hi, hgi, hy8_⟩ K50 h50
  obtain ⟨frm, rfl⟩ := re6 e49_13 e49_8 e49_0 e49_9 e49_11 e49_12
  refine seq fun _ h51 => seq fun _ h52 => mv <| mv <| stp (v := .int .i64 (cs.length : Nat)) (o_lenR (hx.upd hM49.upd) rfl rfl) <| bn rfl rfl <| h52 _ _ <| cndP rfl (fun c53 => ?_) (fun c53 => ?_)
  ·refine h51 _ _ <| seq fun _ h54 => ?_
   intro wd e1 e2 e3 e4
   have hd := Upd.same e1 e2 e3 e4 []
   have hM55 := hM49.pure hd
   clear e1 e2 e3 e4
   refine ⟨(some [(blkV xr)]), ?_⟩
   show vd _ _ _ _ _ _ _
   refine dmv <| dmv <| dmv <| dmv <| dqp (m_idxE 0 (j := i) (hy8_.rd hM55 (i := 1) rfl) rfl rfl (by omega) fun b56 o56 hp56 => ?_)
   show vd _ _ _ _ _ _ _
   refine dmv <| dmv <| dmv <| dqp (m_idxS3 th0 (j := q) (hrw.rd _ (own2 (hM55.owned (i := 0) rfl) (hM55.owned (i := 2) rfl))) (hrw.rd _ (own2 (hM55.owned (i := 0) rfl) (hM55.owned (i := 2) rfl))) rfl rfl (by omega) fun b57 o57 hp57 hbb57 => ?_)
   show vd _ _ _ _ _ _ _
   subst hbb57
   refine dfa rfl <| dq (v := .pointer (some ⟨(blkV xr), o57 + 1 + i, none⟩)) (o_idxa rfl rfl (by omega) (v_ptr (by first | (rw [Int.toNat_natCast, Nat.mul_one]; done) | (simp; done) | omega))) <| dqld rfl (by simp [isHeld]) (v := .int .i64 (((rowF (thF cs) j).getD q th0).f i : Nat)) ((by have h9 := hp57.get (1 + i) (pkC_cell (by omega)); rw [← Nat.add_assoc] at h9; exact h9)) <| dl (ld (v := .int .i64 ((gatR cs.length (rowF (thF cs) j) q i).getD i 0)) rfl (hp56) <| ⟨(fun b hb => rfl), ?_⟩)
   have hroom := tot_room (R := rowF (thF cs) j) (q := q) (i := i) (by omega)
   have hroom2 := hrk.2.2 i
   refine dq (v := .int .i64 (tot i ((rowF (thF cs) j).take q) + ((rowF (thF cs) j).getD q th0).f i : Nat)) (o_bin rfl rfl ((v_add64 (by rw [gat_get (by omega)]; omega)).trans (v_int (by rw [gat_get (by omega)]; omega)))) <| dset (m_setU (E := i64V) (q := (tot i ((rowF (thF cs) j).take q) + ((rowF (thF cs) j).getD q th0).f i : Nat)) (j := i) hM55 (i := 1) rfl hy8_ rfl rfl (by omega) (by simp) (rfl) fun w58 r58 u58 he58 hs58 (hM58 : Mem w [] w58 [rf, r58, rr]) hup58 => ?_)
   have hh58 := held_upd (wr := wd) (bs := [(blkV xr)]) hup58 (fun b hb => by
    simp only [List.mem_cons, List.not_mem_nil, or_false] at hb
    rw [hb]; exact ⟨Rd.blkV_ltS (hrw.rd _ (own2 (hM55.owned (i := 0) rfl) (hM55.owned (i := 2) rfl))) (by omega), hrw.apart2 hM55 (i := 0) (j := 2) (k := 1) rfl rfl rfl (by decide) (by decide) (by omega)⟩) (fun b hb => rfl)
   refine ⟨hh58, ?_⟩
   show vd _ _ _ _ _ _ _
   refine h54 _ _ <| mv <| stp (v := .int .i64 ((i : Nat) + 1)) (o_bin rfl rfl (v_add64 (by omega))) <| mv <| h50 (i + 1, y8_, r58) _ _ ⟨vi, rfl, rfl, rfl, vi, vi, hM58, by omega, gat_len _ _ _ _, by rw [← gat_set]; exact hs58⟩ (by (try dsimp only); omega)
  refine h47 _ _ <| mv <| stp (v := .int .i64 ((q : Nat) + 1)) (o_bin rfl rfl (v_add64 (by omega))) <| mv <| h43 (q + 1, y8_, r8_) _ _ ⟨vi, rfl, rfl, rfl, vi, hM49.keep (by simp), by omega, gat_len _ _ _ _, (SlE.eqL (hy8_) (by rw [show i = cs.length by omega]; exact gat_next (by omega)))⟩ (by (try dsimp only); omega)
 refine h40 _ _ <| seq fun _ h59 => mv <| mv <| mv <| h59 _ _ <| ⟨(.tuple [y8_, .int .i64 0].toArray), rfl, ?_⟩
 rw [lenF_ok (by omega) hpre (by omega)]
 exact ⟨_, _, rfl, SlE.eqL (hy8_) (gat_end2 (by rw [show q = (max (2 * (thF cs).length - 2) 1) by omega, hje]; rfl)), hM42.keep (by simp)⟩
end Go.Proofs.YtifnmbmijljhfaaGreat.E.Hf
namespace Go.Proofs.YtifnmbmijljhfaaGreat.E.Hf
open Go
def cntP (t : List UInt8) : List Int := mapR 256 fun s => (((t.filter fun c => decide (c.toNat = s)).length : Nat) : Int)
@[simp] theorem cntP_len (t : List UInt8) : (cntP t).length = 256 := mapR_len _ _
theorem cntP_zero : List.replicate 256 (0 : Int) = cntP [] := by rw [mapR_rep]; rfl
theorem cntP_step {t : List UInt8} {q : Nat} (h : q < t.length) : (cntP (t.take q)).set (t.getD q 0).toNat ((cntP (t.take q)).getD (t.getD q 0).toNat 0 + 1) = cntP (t.take (q + 1)) := by
 have e : t.take (q + 1) = t.take q ++ [t.getD q 0] := by
  rw [List.take_add_one, List.getElem?_eq_getElem h, List.getD_eq_getElem?_getD, List.getElem?_eq_getElem h]; rfl
 rw [e]
 unfold cntP
 rw [mapR_set, mapR_get (t.getD q 0).toNat_lt]
 refine mapR_ext fun s hs => ?_
 rw [List.filter_append, List.length_append]
 by_cases c : s = (t.getD q 0).toNat
 ·rw [if_pos c, c, List.filter_cons, if_pos (by simp)]; rfl
 rw [if_neg c, List.filter_cons, if_neg (by simpa using fun e => c e.symm)]; rfl
theorem cntP_bd (t : List UInt8) (i : Nat) : 0 ≤ (cntP t).getD i 0 ∧ (cntP t).getD i 0 ≤ t.length := by
 rcases Nat.lt_or_ge i 256 with h | h
 ·unfold cntP
  rw [mapR_get h]
  have := List.length_filter_le (fun c : UInt8 => decide (c.toNat = i)) t
  omega
 rw [List.getD_eq_getElem?_getD, List.getElem?_eq_none (by rw [cntP_len]; omega)]
 show (0 : Int) ≤ 0 ∧ (0 : Int) ≤ _
 omega
def lnF (t : List UInt8) : List Int := lensF (cntP t) 15
theorem lnF_len (t : List UInt8) : (lnF t).length = 256 := by unfold lnF; rw [lens_len, cntP_len]
theorem cntP_room (t : List UInt8) : (thF (cntP t)).length ≤ 2 ^ 15 := by
 have := thF_len (cntP t)
 rw [cntP_len] at this
 exact Nat.le_trans this (by decide)
theorem lenF_cnt {t : List UInt8} (h : t.length ≤ 65536) : lenF (cntP t) 15 = (lnF t, 0) := by
 have hr := cntP_room t
 refine lenF_ok (by rw [cntP_len]; omega) ⟨inB_iff.2 fun i _ => ?_, by omega, by omega⟩ (by simpa using hr)
 have := cntP_bd t i
 omega
theorem lnF_codes (t : List UInt8) : usedB (lnF t) 15 ≤ 32768 ∧ codes (lnF t) = (codesL (lnF t), 0) := lens_codes (by rw [cntP_len]; omega) (fun i => (cntP_bd t i).1) (by omega) (by omega) (cntP_room t)
theorem lnF_inB (t : List UInt8) : inB 0 15 (lnF t) = true := lens_inB (by omega) (by omega)
theorem code_bdE {L : List Int} (hB : inB 0 15 L = true) (hu : usedB L 15 ≤ 32768) {s : Nat} (hs : s < L.length) : ∃ dg W : Nat, codeAt L s = ((dg : Int), (W : Int)) ∧ dg ≤ 15 ∧ W ≤ 32768 := by
 have hb := inB_iff.1 hB s hs
 unfold codeAt
 by_cases c : L.getD s 0 ≤ 0
 ·rw [if_pos c]; exact ⟨0, 0, rfl, by omega, by omega⟩
 rw [if_neg c]
 refine ⟨(L.getD s 0).toNat, firstW L (L.getD s 0).toNat + (symN L (L.getD s 0).toNat s).length, by rw [Int.toNat_of_nonneg hb.1], by omega, ?_⟩
 have h1 := word_le hu (n := (L.getD s 0).toNat) (by omega)
 have h2 : (symN L (L.getD s 0).toNat s).length ≤ cntW L (L.getD s 0).toNat := by
  unfold cntW
  rw [if_neg (by omega)]
  have : (symN L (L.getD s 0).toNat s).Sublist (symN L (L.getD s 0).toNat L.length) := by
   unfold symN
   exact List.Sublist.filter _ (List.range_sublist.2 (by omega))
  exact this.length_le
 omega
theorem codesL_get' {l : List Int} {i : Nat} (h : i < l.length) : (codesL l).getD i ((0, 0) : Int × Int) = codeAt l i := by
 unfold codesL; rw [List.getD_eq_getElem?_getD, List.getElem?_map, List.getElem?_range h]; rfl
theorem codesL_len (l : List Int) : (codesL l).length = l.length := by simp [codesL]
theorem hdrE_len (l : List Int) (hl : l.length ≤ 1000000) : ∀ n i, l.length - i ≤ n → (hdrE l i).length ≤ 10 * (l.length - i)
 | 0, i, h => by rw [hdrE_end (by omega)]; exact Nat.zero_le _
 | n + 1, i, h => by
  by_cases c : i < l.length
  ·obtain ⟨h1, h2, -, -⟩ := runK_spec c
   have ih := hdrE_len l hl n (runK l i) (by omega)
   rw [hdrE, dif_pos c]
   split
   ·exact Nat.zero_le _
   have hp := putI_len (v := ((runK l i : Nat) : Int) - (i : Nat)) (by omega)
   rw [List.length_append, List.length_append, List.length_singleton]; omega
  rw [hdrE_end c]; exact Nat.zero_le _
def encF (t : List UInt8) : List UInt8 := hdrE (lnF t) 0 ++ [0] ++ pkA (bitsF (lnF t) t) (bitsF (lnF t) t).length
def encR (t : List UInt8) : List UInt8 × Int := if 65536 < t.length then ([], 2) else (encF t, 0)
theorem encR_long {t : List UInt8} (h : 65536 < t.length) : encR t = ([], 2) := by unfold encR; rw [if_pos h]
theorem encR_ok {t : List UInt8} (h : ¬ 65536 < t.length) : encR t = (encF t, 0) := by unfold encR; rw [if_neg h]
theorem bitsF_zero (L : List Int) (t : List UInt8) : bitsF L (t.take 0) = [] := by rw [List.take_zero]; rfl
theorem bits_all {t : List UInt8} {q : Nat} (h : t.length ≤ q) (L : List Int) : (bitsF L (t.take q)).length = (bitsF L t).length := by rw [List.take_of_length_le h]
theorem lnF_bits (t : List UInt8) (q : Nat) (h : q ≤ t.length) : (bitsF (lnF t) (t.take q)).length ≤ 15 * q := bits_len_le (lnF_inB t) t (fun c => by rw [lnF_len]; exact c.toNat_lt) q h
theorem shr_at {W i : Nat} {x y : Int} (hx : x = (W : Nat)) (hy : y = (i : Nat)) (hi : i ≤ 31) : Value.int .u32 (x.fdiv (2 ^ min y.toNat IntKind.u32.bits)) = .int .u32 ((W / 2 ^ i : Nat) : Int) := by
 subst hx hy
 exact v_int (shrI_nat (k := .u32) (by simp only [IntKind.bits]; omega))
theorem and1' {a : Nat} (ha : a < 4294967296) : binI .and .u32 (a : Int) 1 = .int .u32 ((a % 2 : Nat) : Int) := by
 have := andI_nat (k := .u32) (a := a) (b := 1) ha (by decide) (by rw [show a &&& 1 = a % 2 from Nat.and_two_pow_sub_one_eq_mod a 1]; simp only [inK]; omega)
 rw [show a &&& 1 = a % 2 from Nat.and_two_pow_sub_one_eq_mod a 1] at this
 exact v_int this
set_option maxHeartbeats 1000000 in
set_option maxRecDepth 100000 in
theorem Encode_ok (x : Value) (t : List UInt8) (w : World) (hx : RdE byteV w x t) (hl : t.length ≤ 1152921504606846976) : Calls Tryz.prog 55 [x].toArray w (Rt fun r w' => ∃ v rs, r = .tuple [v, .int .i64 (encR t).2].toArray ∧ SlE byteV 5 v (encR t).1 rs ∧ Mem w [] w' [rs]) := by
 have hM0 : Mem w [] w [] := Mem.nil w []
 refine calls_vc mixed Tryz.func55 rfl C55 (by simp [Tryz.ntmps55]) <| seq fun _ h1 => mv <| mv <| h1 _ _ <| seq fun _ h2 => seq fun _ h3 => mv <| stp (v := .int .i64 (t.length : Nat)) (o_lenR (hx.upd hM0.upd) rfl rfl) <| bn rfl rfl <| h3 _ _ <| cndP rfl (fun c4 => ?_) (fun c4 => ?_)
 ·refine seq fun _ h5 => mv <| mv <| h5 _ _ <| ⟨(.tuple [.slice none 0 0, .int .i64 2].toArray), rfl, ?_⟩
  rw [encR_long (by omega)]
  exact ⟨_, [], rfl, Sl.nil 1 5, hM0.keep (by simp)⟩
 refine h2 _ _ <| seq fun _ h6 => m_mksE (E := i64V) (z := 0) (n := 256) (c := 256) rfl hM0 (v_int (by omega)) (v_int (by omega)) (by omega) (by omega) (by omega) fun v7 w7 r7 hs7 (hM7 : Mem _ _ w7 [r7]) => mv <| h6 _ _ <| seq fun _ h8 => seq fun _ h9 => mv <| stp (v := .int .i64 (t.length : Nat)) (o_lenR (hx.upd hM7.upd) rfl rfl) <| mv <| h9 _ _ <| lp (n := fun _ _ => False) (ι := (Nat) × (Value) × (List Ent)) (fun ⟨q, y4_, r4_⟩ f w' => f 24 = .int .i64 (q : Nat) ∧ f 4 = y4_ ∧ f 0 = x ∧ f 22 = x ∧ f 23 = .int .i64 (t.length : Nat) ∧ Mem w [] w' [r4_] ∧ (q ≤ t.length) ∧ (SlE i64V 2 y4_ (cntP (t.take q)) r4_)) (fun ⟨q, y4_, r4_⟩ => t.length - q) (0, v7, r7) ?_ ?_
 ·exact ⟨vi, rfl, rfl, rfl, vi, hM7, by omega, by rw [List.take_zero, ← cntP_zero]; exact hs7⟩
 rintro ⟨q, y4_, r4_⟩ f w10 ⟨e10_24, e10_4, e10_0, e10_22, e10_23, hM10, hq, hy4_⟩ K11 h11
 obtain ⟨frm, rfl⟩ := re5 e10_24 e10_4 e10_0 e10_22 e10_23
 refine seq fun _ h12 => bn rfl rfl <| h12 _ _ <| seq fun _ h13 => cndP rfl (fun c14 => ?_) (fun c14 => ?_)
 ·refine h13 _ _ <| seq fun _ h15 => seq fun _ h16 => m_idxE 0 (j := q) (hx.upd hM10.upd) rfl rfl (by omega) fun b17 o17 hp17 => ld (v := byteV (t.getD q 0)) rfl (hp17) <| mv <| h16 _ _ <| mv <| mv <| m_idxE 0 (j := (t.getD q 0).toNat) (hy4_.rd hM10 (i := 0) rfl) rfl rfl (by rw [cntP_len]; exact (t.getD q 0).toNat_lt) fun b18 o18 hp18 => ?_
  have hcb := cntP_bd (t.take q) (t.getD q 0).toNat
  have htl : (t.take q).length ≤ 65536 := by rw [List.length_take]; omega
  refine ld (v := .int .i64 ((cntP (t.take q)).getD ((t.getD q 0).toNat) 0)) rfl (hp18) <| stp (v := .int .i64 (((cntP (t.take q)).getD ((t.getD q 0).toNat) 0) + 1)) (o_bin rfl rfl (v_add64 (by omega))) <| m_set (E := i64V) (q := ((cntP (t.take q)).getD ((t.getD q 0).toNat) 0) + 1) (j := (t.getD q 0).toNat) hM10 (i := 0) rfl hy4_ rfl rfl (by rw [cntP_len]; exact (t.getD q 0).toNat_lt) (by simp) (rfl) fun w19 r19 u19 he19 hs19 (hM19 : Mem w [] w19 [r19]) => h15 _ _ <| stp (v := .int .i64 ((q : Nat) + 1)) (o_bin rfl rfl (v_add64 (by omega))) <| mv <| h11 (q + 1, y4_, r19) _ _ ⟨vi, rfl, rfl, rfl, vi, hM19, by omega, by rw [← cntP_step (by omega)]; exact hs19⟩ (by (try dsimp only); omega)
 refine h8 _ _ <| seq fun _ h20 => mv <| m_call (Lengths_ok _ (cntP (t.take q)) 15 w10 (hy4_.rd hM10 (i := 0) rfl) (by rw [cntP_len]; omega) (by simp only [inK]; omega)) rfl fun v21 w21 ⟨y21, rs21, hr21, hs21, hm21⟩ => ?_
 have hM21 : Mem w [] w21 [r4_, rs21] := hM10.add hm21
 rw [List.take_of_length_le (by omega), lenF_cnt (by omega)] at hr21 hs21
 dsimp only at hr21 hs21
 subst hr21
 refine mv <| ext rfl rfl <| ext rfl rfl <| mv <| mv <| h20 _ _ <| seq fun _ h22 => mv <| m_call (Codes_ok _ (lnF t) w21 (hs21.rd hM21 (i := 1) rfl) (by rw [lnF_len]; omega)) rfl fun v23 w23 ⟨y23, rs23, hr23, hs23, hm23⟩ => ?_
 have hM23 : Mem _ _ w23 [_, _, rs23] := hM21.add hm23
 rw [(lnF_codes t).2] at hr23 hs23
 dsimp only at hr23 hs23
 subst hr23
 refine mv <| ext rfl rfl <| ext rfl rfl <| mv <| mv <| h22 _ _ <| seq fun _ h24 => mv <| m_call (header_ok _ (lnF t) w23 (hs21.rd hM23 (i := 1) rfl) (by rw [lnF_len]; omega) (lnF_inB t)) rfl fun v25 w25 ⟨rs25, hs25, hm25⟩ => ?_
 have hM25 : Mem _ _ w25 [_, _, _, rs25] := hM23.add hm25
 have hHD : (hdrE (lnF t) 0 ++ [0]).length ≤ 1000000 := by
  have h9 := hdrE_len (lnF t) (by rw [lnF_len]; omega) 256 0 (by rw [lnF_len]; omega)
  rw [lnF_len] at h9
  rw [List.length_append, List.length_singleton]; omega
 refine m_al hM25 fun b26 w27 (hM27 : Mem _ _ w27 [_, _, _, _, [⟨b26, 31, [.slice none 0 0]⟩]]) => m_st (v := v25) hM27 (i := 4) rfl rfl rfl (Sl.one hs25) (by simp) fun w28 (hM28 : Mem _ _ w28 [_, _, _, _, [⟨b26, 31, [v25]⟩]]) => h24 _ _ <| seq fun _ h29 => m_al hM28 fun b30 w31 (hM31 : Mem _ _ w31 [_, _, _, _, _, [⟨b30, 3, [.int .i64 0]⟩]]) => m_st (v := .int .i64 0) hM31 (i := 5) rfl rfl rfl rfl (by simp) fun w32 (hM32 : Mem _ _ w32 [_, _, _, _, _, _]) => h29 _ _ <| seq fun _ h33 => stp (v := .func (.func 89) [].toArray [.pointer (some ⟨b30, 0, none⟩), .pointer (some ⟨b26, 0, none⟩)].toArray) (o_mkf rfl) <| mv <| h33 _ _ <| seq fun _ h34 => seq fun _ h35 => mv <| stp (v := .int .i64 (t.length : Nat)) (o_lenR (hx.upd hM32.upd) rfl rfl) <| mv <| h35 _ _ <| lp (n := fun _ _ => False) (ι := (Nat) × (Value) × (List Ent)) (fun ⟨q, vo, ro⟩ f w' => f 50 = .int .i64 (q : Nat) ∧ f 9 = y23 ∧ f 11 = .pointer (some ⟨b26, 0, none⟩) ∧ f 13 = .func (.func 89) [].toArray [.pointer (some ⟨b30, 0, none⟩), .pointer (some ⟨b26, 0, none⟩)].toArray ∧ f 48 = x ∧ f 49 = .int .i64 (t.length : Nat) ∧ Mem w [] w' [r4_, rs21, rs23, ro, [⟨b26, 31, [vo]⟩, ⟨b30, 3, [.int .i64 ((bitsF (lnF t) (t.take q)).length : Nat)]⟩]] ∧ (SlE byteV 5 vo ((hdrE (lnF t) 0 ++ [0]) ++ pkA (bitsF (lnF t) t) (bitsF (lnF t) (t.take q)).length) ro) ∧ (q ≤ t.length)) (fun ⟨q, vo, ro⟩ => t.length - q) (0, v25, rs25) ?_ ?_
 ·exact ⟨vi, rfl, rfl, rfl, rfl, vi, (by rw [bitsF_zero]; exact hM32.keep (by simp)), SlE.eqL hs25 (by rw [bitsF_zero]; simp [pkA]), by omega⟩
 rintro ⟨q, vo, ro⟩ f w36 ⟨e36_50, e36_9, e36_11, e36_13, e36_48, e36_49, hM36, hso, hq⟩ K37 h37
 obtain ⟨frm, rfl⟩ := re6 e36_50 e36_9 e36_11 e36_13 e36_48 e36_49
 refine seq fun _ h38 => bn rfl rfl <| h38 _ _ <| seq fun _ h39 => cndP rfl (fun c40 => ?_) (fun c40 => ?_)
 ·refine h39 _ _ <| seq fun _ h41 => seq fun _ h42 => m_idxE 0 (j := q) (hx.upd hM36.upd) rfl rfl (by omega) fun b43 o43 hp43 => ld (v := byteV (t.getD q 0)) rfl (hp43) <| mv <| h42 _ _ <| seq fun _ h44 => ?_
  have hcl : (codesL (lnF t)).length = 256 := by rw [codesL_len, lnF_len]
  have hcx := (t.getD q 0).toNat_lt
  refine mv <| mv <| m_idxS ((0, 0) : Int × Int) (j := (t.getD q 0).toNat) (hs23.rd hM36 (i := 2) rfl) rfl rfl (by omega) fun b45 o45 hp45 => ldA (cs := [.int .i64 (((codesL (lnF t)).getD ((t.getD q 0).toNat) ((0, 0) : Int × Int)).1), .int .u32 (((codesL (lnF t)).getD ((t.getD q 0).toNat) ((0, 0) : Int × Int)).2)]) rfl rfl (hp45.row (k := 0) rfl rfl) <| m_al hM36 fun b46 w47 (hM47 : Mem w [] w47 [r4_, rs21, rs23, ro, [⟨b26, 31, [vo]⟩, ⟨b30, 3, [.int .i64 ((bitsF (lnF t) (t.take q)).length : Nat)]⟩], [⟨b46, 131, [.int .i64 0, .int .u32 0]⟩]]) => m_stA (l := [.int .i64 (((codesL (lnF t)).getD ((t.getD q 0).toNat) ((0, 0) : Int × Int)).1), .int .u32 (((codesL (lnF t)).getD ((t.getD q 0).toNat) ((0, 0) : Int × Int)).2)]) hM47 (i := 5) rfl rfl rfl rfl (by simp [oneCells, Value.oneCell', byteV]) (by simp) fun w48 (hM48 : Mem _ _ w48 [_, _, _, _, _, [⟨b46, 131, [.int .i64 (((codesL (lnF t)).getD ((t.getD q 0).toNat) ((0, 0) : Int × Int)).1), .int .u32 (((codesL (lnF t)).getD ((t.getD q 0).toNat) ((0, 0) : Int × Int)).2)]⟩]]) => h44 _ _ <| seq fun _ h49 => ?_
  obtain ⟨dg, W, hcd, hdl, hW⟩ := code_bdE (lnF_inB t) (lnF_codes t).1 (s := (t.getD q 0).toNat) (by rw [lnF_len]; exact (t.getD q 0).toNat_lt)
  have hg1 : ((codesL (lnF t)).getD (t.getD q 0).toNat ((0, 0) : Int × Int)).1 = (dg : Nat) := by rw [codesL_get' (by rw [lnF_len]; exact (t.getD q 0).toNat_lt), hcd]
  have hg2 : ((codesL (lnF t)).getD (t.getD q 0).toNat ((0, 0) : Int × Int)).2 = (W : Nat) := by rw [codesL_get' (by rw [lnF_len]; exact (t.getD q 0).toNat_lt), hcd]
  have hnq := lnF_bits t q (by omega)
  have hnx := bits_next (L := (lnF t)) (t := t) (q := q) (by omega)
  rw [hcd, Int.toNat_natCast] at hnx
  refine fa rfl <| m_ld (v := .int .i64 (((codesL (lnF t)).getD ((t.getD q 0).toNat) ((0, 0) : Int × Int)).1)) hM48 (i := 5) (j := 0) rfl rfl rfl rfl <| stp (v := .int .i64 ((((codesL (lnF t)).getD ((t.getD q 0).toNat) ((0, 0) : Int × Int)).1) - 1)) (o_bin rfl rfl (v_sub64 (by omega))) <| mv <| h49 _ _ <| lp (n := fun _ _ => False) (ι := (Nat) × (Value) × (List Ent)) (fun ⟨k, v2, r2⟩ f w' => f 17 = .int .i64 ((dg : Nat) - 1 - (k : Nat)) ∧ f 9 = y23 ∧ f 11 = .pointer (some ⟨b26, 0, none⟩) ∧ f 13 = .func (.func 89) [].toArray [.pointer (some ⟨b30, 0, none⟩), .pointer (some ⟨b26, 0, none⟩)].toArray ∧ f 16 = .pointer (some ⟨b46, 0, none⟩) ∧ f 48 = x ∧ f 49 = .int .i64 (t.length : Nat) ∧ f 50 = .int .i64 (q : Nat) ∧ Mem w [] w' [r4_, rs21, rs23, r2, [⟨b26, 31, [v2]⟩, ⟨b30, 3, [.int .i64 ((bitsF (lnF t) (t.take q)).length + k : Nat)]⟩], [⟨b46, 131, [.int .i64 (((codesL (lnF t)).getD ((t.getD q 0).toNat) ((0, 0) : Int × Int)).1), .int .u32 (((codesL (lnF t)).getD ((t.getD q 0).toNat) ((0, 0) : Int × Int)).2)]⟩]] ∧ (SlE byteV 5 v2 ((hdrE (lnF t) 0 ++ [0]) ++ pkA (bitsF (lnF t) t) ((bitsF (lnF t) (t.take q)).length + k)) r2) ∧ (k ≤ dg)) (fun ⟨k, v2, r2⟩ => dg - k) (0, vo, ro) ?_ ?_
  ·exact ⟨vi, rfl, rfl, rfl, rfl, rfl, vi, vi, hM48, hso, by omega⟩
  rintro ⟨k, v2, r2⟩ f w50 ⟨e50_17, e50_9, e50_11, e50_13, e50_16, e50_48, e50_49, e50_50, hM50, hs2, hk⟩ K51 h51
  obtain ⟨frm, rfl⟩ := re8 e50_17 e50_9 e50_11 e50_13 e50_16 e50_48 e50_49 e50_50
  refine seq fun _ h52 => seq fun _ h53 => mv <| bn rfl rfl <| h53 _ _ <| cndP rfl (fun c54 => ?_) (fun c54 => ?_)
  ·refine h52 _ _ <| seq fun _ h55 => mv <| fa rfl <| m_ld (v := .int .u32 (((codesL (lnF t)).getD ((t.getD q 0).toNat) ((0, 0) : Int × Int)).2)) hM50 (i := 5) (j := 0) rfl rfl rfl rfl <| mv ?_
   have hwk : W / 2 ^ (dg - 1 - k) ≤ W := Nat.div_le_self _ _
   have hbit : (bitsF (lnF t) t).getD ((bitsF (lnF t) (t.take q)).length + k) 0 = W / 2 ^ (dg - 1 - k) % 2 := by
    have e := bits_at (L := (lnF t)) (t := t) (q := q) (k := k) (by omega) (by rw [hcd, Int.toNat_natCast]; omega)
    rw [hcd, Int.toNat_natCast, Int.toNat_natCast] at e
    exact e
   refine stp (v := .int .u32 (W / 2 ^ (dg - 1 - k) : Nat)) (o_shr rfl rfl (by omega) (shr_at hg2 (by omega) (by omega))) <| stp (v := .int .u32 (W / 2 ^ (dg - 1 - k) % 2 : Nat)) (o_bin rfl rfl (and1' (by omega))) <| m_callv rfl (by kernel_rfl) (put_ok (W / 2 ^ (dg - 1 - k) % 2) ((bitsF (lnF t) (t.take q)).length + k) b30 b26 _ r2 (hdrE (lnF t) 0 ++ [0]) (pkA (bitsF (lnF t) t) ((bitsF (lnF t) (t.take q)).length + k)) w50 hs2 (hM50.res2 4 3 rfl rfl (by decide)) (by omega) (pkA_ok bits_le _) (by omega) hHD) rfl fun v56 w56 ⟨v56, rb56, hs56, hm56⟩ => ?_
   have hM56 : Mem w [] w56 [r4_, rs21, rs23, rb56, [⟨b26, 31, [v56]⟩, ⟨b30, 3, [.int .i64 ((bitsF (lnF t) (t.take q)).length + k + 1 : Nat)]⟩], [⟨b46, 131, [.int .i64 (((codesL (lnF t)).getD ((t.getD q 0).toNat) ((0, 0) : Int × Int)).1), .int .u32 (((codesL (lnF t)).getD ((t.getD q 0).toNat) ((0, 0) : Int × Int)).2)]⟩]] := hM50.step2 4 3 rfl rfl (by decide) hm56
   refine h55 _ _ <| mv <| stp (v := .int .i64 (((dg : Nat) - 1 - (k : Nat)) - 1)) (o_bin rfl rfl (v_sub64 (by omega))) <| mv <| h51 (k + 1, v56, rb56) _ _ ⟨vi, rfl, rfl, rfl, rfl, rfl, vi, vi, hM56, (by show SlE byteV 5 _ ((hdrE (lnF t) 0 ++ [0]) ++ pk1 (pkA (bitsF (lnF t) t) ((bitsF (lnF t) (t.take q)).length + k)) ((bitsF (lnF t) (t.take q)).length + k) ((bitsF (lnF t) t).getD ((bitsF (lnF t) (t.take q)).length + k) 0)) _; rw [hbit]; exact hs56), by omega⟩ (by (try dsimp only); omega)
  refine h41 _ _ <| stp (v := .int .i64 ((q : Nat) + 1)) (o_bin rfl rfl (v_add64 (by omega))) <| mv <| h37 (q + 1, v2, r2) _ _ ⟨vi, rfl, rfl, rfl, rfl, vi, (by have e : (bitsF (lnF t) (t.take q)).length + k = (bitsF (lnF t) (t.take (q + 1))).length := (by omega); rw [← e]; exact hM50.keep (by simp)), (by rw [hnx, show dg = k by omega]; exact hs2), by omega⟩ (by (try dsimp only); omega)
 refine h34 _ _ <| seq fun _ h57 => m_ld (v := vo) hM36 (i := 4) (j := 0) rfl rfl rfl rfl <| mv <| mv <| h57 _ _ <| ⟨(.tuple [vo, .int .i64 0].toArray), rfl, ?_⟩
 rw [encR_ok (by omega)]
 exact ⟨_, _, rfl, SlE.eqL hso (by unfold encF; rw [bits_all (by omega)]), hM36.keep (by simp; repeat first | exact List.Sublist.refl _ | exact List.sublist_append_left _ _ | refine List.sublist_append_of_sublist_right ?_)⟩
end Go.Proofs.YtifnmbmijljhfaaGreat.E.Hf
namespace Go.Proofs.YtifnmbmijljhfaaGreat.E.Hf
open Go
theorem pk_T0 {l : List UInt8} {n : Nat} (h : n % 8 = 0) : l ++ [0] = pk1 l n 0 := by unfold pk1; rw [if_pos h]; rfl
theorem pk_F0 {l : List UInt8} {n : Nat} (h : ¬ n % 8 = 0) (hl : n / 8 < l.length) : l = pk1 l n 0 := by
 unfold pk1
 rw [if_neg h, Nat.zero_mul, Nat.add_zero]
 have : (l.getD (n / 8) 0).toNat.toUInt8 = l.getD (n / 8) 0 := by
  apply UInt8.toNat_inj.1
  rw [toU8 (l.getD (n / 8) 0).toNat_lt]
 rw [this, List.getD_eq_getElem?_getD, List.getElem?_eq_getElem hl]
 exact (List.set_getElem_self hl).symm
theorem pk_T1 {l : List UInt8} {n : Nat} (h : n % 8 = 0) (hl : l.length = n / 8) : (l ++ [0]).set (n / 8) (((l ++ [0]).getD (n / 8) 0).toNat + 2 ^ (n % 8)).toUInt8 = pk1 l n 1 := by
 unfold pk1
 rw [if_pos h, List.getD_eq_getElem?_getD, List.getElem?_append_right (by omega), List.set_append_right _ _ (by omega), hl, Nat.sub_self, h]
 rfl
theorem pk_F1 {l : List UInt8} {n : Nat} (h : ¬ n % 8 = 0) : l.set (n / 8) ((l.getD (n / 8) 0).toNat + 2 ^ (n % 8)).toUInt8 = pk1 l n 1 := by
 unfold pk1; rw [if_neg h, Nat.one_mul]
theorem shl8 {n : Nat} {z : Int} (hz : z = ((n % 8 : Nat) : Int)) : Value.int .u8 (IntKind.u8.wrap ((1 : Int) * 2 ^ min z.toNat IntKind.u8.bits)) = .int .u8 ((2 ^ (n % 8) : Nat) : Int) := by
 have hp := pow_lt8 (k := n % 8) (by omega)
 have := shlI_nat (k := .u8) (a := 1) (n := n % 8) (by simp only [IntKind.bits]; omega) (by rw [Nat.one_mul]; generalize 2 ^ (n % 8) = p at hp ⊢; simp only [inK]; omega)
 rw [Nat.one_mul] at this
 subst hz
 exact v_int this
theorem add8 {x : UInt8} {p : Nat} (h : x.toNat + p < 256) : binI .add .u8 (x.toNat : Int) (p : Int) = .int .u8 (((x.toNat + p).toUInt8.toNat : Nat) : Int) := by
 have : Value.int .u8 (IntKind.u8.wrap ((x.toNat : Int) + p)) = .int .u8 ((x.toNat : Int) + p) := v_same (by simp only [inK]; omega)
 refine this.trans (v_int ?_)
 rw [toU8 h]; omega
theorem low_room {l : List UInt8} {n : Nat} (h : PkI l n) (hn : ¬ n % 8 = 0) : (l.getD (n / 8) 0).toNat + 2 ^ (n % 8) < 256 := by
 have h1 := h.low hn
 have h2 := pow_lt8 (k := n % 8) (by omega)
 omega
theorem zero_room {l : List UInt8} {n : Nat} (h : n % 8 = 0) (hl : l.length = n / 8) : ((l ++ [0]).getD (n / 8) 0).toNat + 2 ^ (n % 8) < 256 := by
 rw [List.getD_eq_getElem?_getD, List.getElem?_append_right (by omega), hl, Nat.sub_self, h]
 decide
set_option maxHeartbeats 1000000 in
set_option maxRecDepth 100000 in
theorem words_ok4 (x y : Value) (t : List UInt8) (w : World) (hx : RdE byteV w x t) (hy : RdS codeC w y (codesL (lnF t))) (hl : t.length ≤ 65536) : Calls Tryz.prog 65 [x, y].toArray w (Rt fun r w' => ∃ rs, SlE byteV 5 r (pkA (bitsF (lnF t) t) (bitsF (lnF t) t).length) rs ∧ Mem w [] w' [rs]) := by
 have hM0 : Mem w [] w [] := Mem.nil w []
 refine calls_vc mixed Tryz.func65 rfl C65 (by simp [Tryz.ntmps65]) ?_
 refine seq fun K1 h1 => ?_
 refine stp (v := .slice none 0 0) (o_mv rfl) ?_
 refine h1 _ _ ?_
 clear h1
 refine seq fun K2 h2 => ?_
 refine stp (v := .slice none 0 0) (o_mv rfl) ?_
 refine h2 _ _ ?_
 clear h2
 refine seq fun K3 h3 => ?_
 refine stp (v := .int .i64 0) (o_mv rfl) ?_
 refine h3 _ _ ?_
 clear h3
 refine seq fun K4 h4 => ?_
 refine seq fun K5 h5 => ?_
 refine stp (v := .int .i64 0) (o_mv rfl) ?_
 refine h5 _ _ ?_
 clear h5
 have hM6 : Mem w [] w [[]] := hM0.addNil
 have hs6 : SlE byteV 5 (.slice none 0 0) [] [] := Sl.nil 1 5
 refine lp (n := fun _ _ => False) (ι := (Nat) × (Value) × (List Ent)) (fun ⟨q, y5_, r5_⟩ f w' => f 5 = y5_ ∧ f 6 = .int .i64 ((bitsF (lnF t) (t.take q)).length : Nat) ∧ f 7 = .int .i64 (q : Nat) ∧ f 0 = x ∧ f 1 = y ∧ Mem w [] w' [r5_] ∧ (q ≤ t.length) ∧ (SlE byteV 5 y5_ (pkA (bitsF (lnF t) t) (bitsF (lnF t) (t.take q)).length) r5_)) (fun ⟨q, y5_, r5_⟩ => t.length - q) (0, ((.slice none 0 0)), ([])) ?_ ?_
 ·exact ⟨rfl, v_int (by rw [bitsF_zero]; rfl), by first | rfl | exact v_int (by omega) | exact v_int (by simp) | exact v_int (by simp; omega), rfl, rfl, hM6, by omega, by rw [bitsF_zero]; exact hs6⟩
 rintro ⟨q, y5_, r5_⟩ f w7 ⟨e7_5, e7_6, e7_7, e7_0, e7_1, hM7, hq, hy5_⟩ K8 h8
 obtain ⟨frm, rfl⟩ : ∃ frm, f = (upd (upd (upd (upd (upd frm 5 (y5_)) 6 (.int .i64 ((bitsF (lnF t) (t.take q)).length : Nat))) 7 (.int .i64 (q : Nat))) 0 (x)) 1 (y)) := ⟨f, by rw [upd_self e7_5, upd_self e7_6, upd_self e7_7, upd_self e7_0, upd_self e7_1]⟩
 clear e7_5 e7_6 e7_7 e7_0 e7_1
 refine seq fun K9 h9 => ?_
 refine seq fun K10 h10 => ?_
 refine stp (v := .int .i64 (q : Nat)) (o_mv rfl) ?_
 refine stp (v := x) (o_mv rfl) ?_
 refine stp (v := .int .i64 (t.length : Nat)) (o_lenR (hx.upd hM7.upd) rfl rfl) ?_
 refine stp (v := .bool (decide (((q : Nat) : Int) < (t.length : Nat)))) (o_bin rfl rfl rfl) ?_
 refine h10 _ _ ?_
 clear h10
 refine cndP rfl (fun c11 => ?_) (fun c11 => ?_)
 ·refine h9 _ _ ?_
  clear h9
  refine seq fun K12 h12 => ?_
  refine seq fun K13 h13 => ?_
  have hcl : (codesL (lnF t)).length = 256 := by rw [codesL_len, lnF_len]
  have hcx := (t.getD q 0).toNat_lt
  refine stp (v := y) (o_mv rfl) ?_
  refine stp (v := x) (o_mv rfl) ?_
  refine stp (v := .int .i64 (q : Nat)) (o_mv rfl) ?_
  refine m_idxE 0 (j := q) (hx.upd hM7.upd) rfl rfl (by omega) fun b14 o14 hp14 => ?_
  refine ld (v := byteV (t.getD q 0)) rfl (hp14) ?_
  refine m_idxS ((0, 0) : Int × Int) (j := (t.getD q 0).toNat) (hy.upd hM7.upd) rfl rfl (by omega) fun b15 o15 hp15 => ?_
  refine ldA (cs := [.int .i64 (((codesL (lnF t)).getD ((t.getD q 0).toNat) ((0, 0) : Int × Int)).1), .int .u32 (((codesL (lnF t)).getD ((t.getD q 0).toNat) ((0, 0) : Int × Int)).2)]) rfl rfl (hp15.row (k := 0) rfl rfl) ?_
  refine m_al hM7 fun b16 w17 (hM17 : Mem w [] w17 [r5_, [⟨b16, 131, [.int .i64 0, .int .u32 0]⟩]]) => ?_
  refine m_stA (l := [.int .i64 (((codesL (lnF t)).getD ((t.getD q 0).toNat) ((0, 0) : Int × Int)).1), .int .u32 (((codesL (lnF t)).getD ((t.getD q 0).toNat) ((0, 0) : Int × Int)).2)]) hM17 (i := 1) rfl rfl rfl rfl (by simp [oneCells, Value.oneCell', byteV]) (by simp) fun w18 (hM18 : Mem w [] w18 [r5_, [⟨b16, 131, [.int .i64 (((codesL (lnF t)).getD ((t.getD q 0).toNat) ((0, 0) : Int × Int)).1), .int .u32 (((codesL (lnF t)).getD ((t.getD q 0).toNat) ((0, 0) : Int × Int)).2)]⟩]]) => ?_
  refine h13 _ _ ?_
  clear h13
  refine seq fun K19 h19 => ?_
  obtain ⟨dg, W, hcd, hdl, hW⟩ := code_bdE (lnF_inB t) (lnF_codes t).1 (s := (t.getD q 0).toNat) (by rw [lnF_len]; exact (t.getD q 0).toNat_lt)
  have hg1 : ((codesL (lnF t)).getD (t.getD q 0).toNat ((0, 0) : Int × Int)).1 = (dg : Nat) := by rw [codesL_get' (by rw [lnF_len]; exact (t.getD q 0).toNat_lt), hcd]
  have hg2 : ((codesL (lnF t)).getD (t.getD q 0).toNat ((0, 0) : Int × Int)).2 = (W : Nat) := by rw [codesL_get' (by rw [lnF_len]; exact (t.getD q 0).toNat_lt), hcd]
  have hnq := lnF_bits t q (by omega)
  have hnx := bits_next (L := (lnF t)) (t := t) (q := q) (by omega)
  rw [hcd, Int.toNat_natCast] at hnx
  refine stp (v := .pointer (some ⟨b16, 0, none⟩)) (o_fa rfl rfl) ?_
  refine m_ld (v := .int .i64 (((codesL (lnF t)).getD ((t.getD q 0).toNat) ((0, 0) : Int × Int)).1)) hM18 (i := 1) (j := 0) rfl rfl rfl rfl ?_
  refine stp (v := .int .i64 ((((codesL (lnF t)).getD ((t.getD q 0).toNat) ((0, 0) : Int × Int)).1) - 1)) (o_bin rfl rfl (v_sub64 (by constructor <;> omega))) ?_
  refine stp (v := .int .i64 ((((codesL (lnF t)).getD ((t.getD q 0).toNat) ((0, 0) : Int × Int)).1) - 1)) (o_mv rfl) ?_
  refine h19 _ _ ?_
  clear h19
  refine lp (n := fun _ _ => False) (ι := (Nat) × (Value) × (List Ent)) (fun ⟨k, y5_, r5_⟩ f w' => f 5 = y5_ ∧ f 6 = .int .i64 (((bitsF (lnF t) (t.take q)).length + k) : Nat) ∧ f 9 = .int .i64 ((dg : Nat) - 1 - (k : Nat)) ∧ f 0 = x ∧ f 1 = y ∧ f 7 = .int .i64 (q : Nat) ∧ f 8 = .pointer (some ⟨b16, 0, none⟩) ∧ Mem w [] w' [r5_, [⟨b16, 131, [.int .i64 (((codesL (lnF t)).getD ((t.getD q 0).toNat) ((0, 0) : Int × Int)).1), .int .u32 (((codesL (lnF t)).getD ((t.getD q 0).toNat) ((0, 0) : Int × Int)).2)]⟩]] ∧ (k ≤ dg) ∧ (SlE byteV 5 y5_ (pkA (bitsF (lnF t) t) ((bitsF (lnF t) (t.take q)).length + k)) r5_)) (fun ⟨k, y5_, r5_⟩ => dg - k) (0, y5_, r5_) ?_ ?_
  ·exact ⟨rfl, by first | rfl | exact v_int (by omega) | exact v_int (by simp) | exact v_int (by simp; omega), by first | rfl | exact v_int (by omega) | exact v_int (by simp) | exact v_int (by simp; omega), rfl, rfl, by first | rfl | exact v_int (by omega) | exact v_int (by simp) | exact v_int (by simp; omega), rfl, hM18, by omega, by first | exact hy5_ | simpa using hy5_⟩
  rintro ⟨k, y5_, r5_⟩ f w20 ⟨e20_5, e20_6, e20_9, e20_0, e20_1, e20_7, e20_8, hM20, hk, hy5_⟩ K21 h21
  obtain ⟨frm, rfl⟩ : ∃ frm, f = (upd (upd (upd (upd (upd (upd (upd frm 5 (y5_)) 6 (.int .i64 (((bitsF (lnF t) (t.take q)).length + k) : Nat))) 9 (.int .i64 ((dg : Nat) - 1 - (k : Nat)))) 0 (x)) 1 (y)) 7 (.int .i64 (q : Nat))) 8 (.pointer (some ⟨b16, 0, none⟩))) := ⟨f, by rw [upd_self e20_5, upd_self e20_6, upd_self e20_9, upd_self e20_0, upd_self e20_1, upd_self e20_7, upd_self e20_8]⟩
  clear e20_5 e20_6 e20_9 e20_0 e20_1 e20_7 e20_8
  refine seq fun K22 h22 => ?_
  refine seq fun K23 h23 => ?_
  refine stp (v := .int .i64 ((dg : Nat) - 1 - (k : Nat))) (o_mv rfl) ?_
  refine stp (v := .bool (decide ((0 : Int) ≤ ((dg : Nat) - 1 - (k : Nat) : Int)))) (o_bin rfl rfl rfl) ?_
  refine h23 _ _ ?_
  clear h23
  refine cndP rfl (fun c24 => ?_) (fun c24 => ?_)
  ·refine h22 _ _ ?_
   clear h22
   refine seq fun K25 h25 => ?_
   refine seq fun K26 h26 => ?_
   refine seq fun K27 h27 => ?_
   have hwk : W / 2 ^ (dg - 1 - k) ≤ W := Nat.div_le_self _ _
   have hbit : (bitsF (lnF t) t).getD ((bitsF (lnF t) (t.take q)).length + k) 0 = W / 2 ^ (dg - 1 - k) % 2 := by
    have e := bits_at (L := (lnF t)) (t := t) (q := q) (k := k) (by omega) (by rw [hcd, Int.toNat_natCast]; omega)
    rw [hcd, Int.toNat_natCast, Int.toNat_natCast] at e
    exact e
   have hpi := pkA_ok (bs := (bitsF (lnF t) t)) bits_le ((bitsF (lnF t) (t.take q)).length + k)
   have hpl := hpi.len
   refine stp (v := .int .i64 (((bitsF (lnF t) (t.take q)).length + k) : Nat)) (o_mv rfl) ?_
   refine stp (v := .int .i64 (((bitsF (lnF t) (t.take q)).length + k) % 8 : Nat)) (o_rem rfl rfl (by omega) ((v_rem (by omega)).trans (v_int (by omega)))) ?_
   refine stp (v := .bool (decide (((((bitsF (lnF t) (t.take q)).length + k) % 8 : Nat) : Int) = 0))) (o_bin rfl rfl rfl) ?_
   refine h27 _ _ ?_
   clear h27
   refine cndP rfl (fun c28 => ?_) (fun c28 => ?_)
   ·refine stp (v := y5_) (o_mv rfl) ?_
    refine m_app1 (E := byteV) (q := 0) hM20 (i := 0) rfl hy5_ rfl (by simp) (rfl) (by omega) (by omega) fun v29 w29 r29 u29 (hs29 : SlE byteV 5 v29 ((pkA (bitsF (lnF t) t) ((bitsF (lnF t) (t.take q)).length + k)) ++ [0]) r29) (hM29 : Mem w [] w29 [r29, [⟨b16, 131, [.int .i64 (((codesL (lnF t)).getD ((t.getD q 0).toNat) ((0, 0) : Int × Int)).1), .int .u32 (((codesL (lnF t)).getD ((t.getD q 0).toNat) ((0, 0) : Int × Int)).2)]⟩]]) => ?_
    refine stp (v := v29) (o_mv rfl) ?_
    refine h26 _ _ ?_
    clear h26
    refine seq fun K30 h30 => ?_
    refine seq fun K31 h31 => ?_
    refine stp (v := .pointer (some ⟨b16, 1, none⟩)) (o_fa rfl rfl) ?_
    refine m_ld (v := .int .u32 (((codesL (lnF t)).getD ((t.getD q 0).toNat) ((0, 0) : Int × Int)).2)) hM29 (i := 1) (j := 0) rfl rfl rfl rfl ?_
    refine stp (v := .int .i64 ((dg : Nat) - 1 - (k : Nat))) (o_mv rfl) ?_
    refine stp (v := .int .u32 (W / 2 ^ (dg - 1 - k) : Nat)) (o_shr rfl rfl (by omega) (shr_at hg2 (by omega) (by omega))) ?_
    refine stp (v := .int .u32 (W / 2 ^ (dg - 1 - k) % 2 : Nat)) (o_rem rfl rfl (by omega) ((v_rem (Int.natCast_nonneg _)).trans rfl)) ?_
    refine stp (v := .bool (decide (((W / 2 ^ (dg - 1 - k) % 2 : Nat) : Int) = 1))) (o_bin rfl rfl rfl) ?_
    refine h31 _ _ ?_
    clear h31
    refine cndP rfl (fun c32 => ?_) (fun c32 => ?_)
    ·intro wd e1 e2 e3 e4
     have hd := Upd.same e1 e2 e3 e4 []
     have hM33 := hM29.pure hd
     clear e1 e2 e3 e4
     refine ⟨(some []), ?_⟩
     show vd _ _ _ _ _ _ _
     refine dq (v := v29) (o_mv rfl) ?_
     refine dq (v := .int .i64 (((bitsF (lnF t) (t.take q)).length + k) : Nat)) (o_mv rfl) ?_
     refine dq (v := .int .i64 (((bitsF (lnF t) (t.take q)).length + k) / 8 : Nat)) (o_quo rfl rfl (by omega) ((v_quo (by omega) (by omega) (by simp only [inK]; omega)).trans (v_int (by omega)))) ?_
     refine dq (v := v29) (o_mv rfl) ?_
     refine dq (v := .int .i64 (((bitsF (lnF t) (t.take q)).length + k) : Nat)) (o_mv rfl) ?_
     refine dq (v := .int .i64 (((bitsF (lnF t) (t.take q)).length + k) / 8 : Nat)) (o_quo rfl rfl (by omega) ((v_quo (by omega) (by omega) (by simp only [inK]; omega)).trans (v_int (by omega)))) ?_
     refine dqp (m_idxE 0 (j := (((bitsF (lnF t) (t.take q)).length + k) / 8)) (hs29.rd hM33 (i := 0) rfl) rfl (v_int (by omega)) (by rw [List.length_append, List.length_singleton]; omega) fun b34 o34 hp34 => ?_)
     show vd _ _ _ _ _ _ _
     refine dq (v := .int .i64 (((bitsF (lnF t) (t.take q)).length + k) : Nat)) (o_mv rfl) ?_
     refine dq (v := .int .i64 (((bitsF (lnF t) (t.take q)).length + k) % 8 : Nat)) (o_rem rfl rfl (by omega) ((v_rem (by omega)).trans (v_int (by omega)))) ?_
     refine dq (v := .int .u8 (2 ^ (((bitsF (lnF t) (t.take q)).length + k) % 8) : Nat)) (o_shl rfl rfl (by omega) (shl8 rfl)) ?_
     refine dl (ld (v := byteV (((pkA (bitsF (lnF t) t) ((bitsF (lnF t) (t.take q)).length + k)) ++ [0]).getD (((bitsF (lnF t) (t.take q)).length + k) / 8) 0)) rfl (hp34) ?_)
     refine ⟨(fun b hb => by cases hb), ?_⟩
     refine dq (v := .int .u8 ((((((pkA (bitsF (lnF t) t) ((bitsF (lnF t) (t.take q)).length + k)) ++ [0]).getD (((bitsF (lnF t) (t.take q)).length + k) / 8) 0).toNat + 2 ^ (((bitsF (lnF t) (t.take q)).length + k) % 8)).toUInt8.toNat : Nat) : Int)) (o_bin rfl rfl (add8 (zero_room (by omega) (by omega)))) ?_
     refine dset (m_setU (E := byteV) (q := ((((pkA (bitsF (lnF t) t) ((bitsF (lnF t) (t.take q)).length + k)) ++ [0]).getD (((bitsF (lnF t) (t.take q)).length + k) / 8) 0).toNat + 2 ^ (((bitsF (lnF t) (t.take q)).length + k) % 8)).toUInt8) (j := (((bitsF (lnF t) (t.take q)).length + k) / 8)) hM33 (i := 0) rfl hs29 rfl (v_int (by omega)) (by rw [List.length_append, List.length_singleton]; omega) (by simp) (rfl) fun w35 r35 u35 he35 hs35 (hM35 : Mem w [] w35 [r35, [⟨b16, 131, [.int .i64 (((codesL (lnF t)).getD ((t.getD q 0).toNat) ((0, 0) : Int × Int)).1), .int .u32 (((codesL (lnF t)).getD ((t.getD q 0).toNat) ((0, 0) : Int × Int)).2)]⟩]]) hup35 => ?_)
     refine ⟨(fun b hb => by cases hb), ?_⟩
     show vd _ _ _ _ _ _ _
     refine h30 _ _ ?_
     clear h30
     refine stp (v := .int .i64 (((bitsF (lnF t) (t.take q)).length + k) : Nat)) (o_mv rfl) ?_
     refine stp (v := .int .i64 ((bitsF (lnF t) (t.take q)).length + (k + 1) : Nat)) (o_bin rfl rfl ((v_add64 (by omega)).trans (v_int (by omega)))) ?_
     refine stp (v := .int .i64 ((bitsF (lnF t) (t.take q)).length + (k + 1) : Nat)) (o_mv rfl) ?_
     refine h25 _ _ ?_
     clear h25
     refine stp (v := .int .i64 ((dg : Nat) - 1 - (k : Nat))) (o_mv rfl) ?_
     refine stp (v := .int .i64 (((dg : Nat) - 1 - (k : Nat)) - 1)) (o_bin rfl rfl (v_sub64 (by constructor <;> omega))) ?_
     refine stp (v := .int .i64 (((dg : Nat) - 1 - (k : Nat)) - 1)) (o_mv rfl) ?_
     refine h21 (k + 1, v29, r35) _ _ ⟨rfl, by first | rfl | exact v_int (by omega) | exact v_int (by simp) | exact v_int (by simp; omega), by first | rfl | exact v_int (by omega) | exact v_int (by simp) | exact v_int (by simp; omega), rfl, rfl, by first | rfl | exact v_int (by omega) | exact v_int (by simp) | exact v_int (by simp; omega), rfl, hM35, by omega, (by show SlE byteV 5 _ (pk1 (pkA (bitsF (lnF t) t) ((bitsF (lnF t) (t.take q)).length + k)) ((bitsF (lnF t) (t.take q)).length + k) ((bitsF (lnF t) t).getD ((bitsF (lnF t) (t.take q)).length + k) 0)) _; rw [hbit]; rw [show W / 2 ^ (dg - 1 - k) % 2 = 1 by omega, ← pk_T1 (by omega) (by omega)]; exact hs35)⟩ (by (try dsimp only); omega)
    refine h30 _ _ ?_
    clear h30
    refine stp (v := .int .i64 (((bitsF (lnF t) (t.take q)).length + k) : Nat)) (o_mv rfl) ?_
    refine stp (v := .int .i64 ((bitsF (lnF t) (t.take q)).length + (k + 1) : Nat)) (o_bin rfl rfl ((v_add64 (by omega)).trans (v_int (by omega)))) ?_
    refine stp (v := .int .i64 ((bitsF (lnF t) (t.take q)).length + (k + 1) : Nat)) (o_mv rfl) ?_
    refine h25 _ _ ?_
    clear h25
    refine stp (v := .int .i64 ((dg : Nat) - 1 - (k : Nat))) (o_mv rfl) ?_
    refine stp (v := .int .i64 (((dg : Nat) - 1 - (k : Nat)) - 1)) (o_bin rfl rfl (v_sub64 (by constructor <;> omega))) ?_
    refine stp (v := .int .i64 (((dg : Nat) - 1 - (k : Nat)) - 1)) (o_mv rfl) ?_
    refine h21 (k + 1, v29, r29) _ _ ⟨rfl, by first | rfl | exact v_int (by omega) | exact v_int (by simp) | exact v_int (by simp; omega), by first | rfl | exact v_int (by omega) | exact v_int (by simp) | exact v_int (by simp; omega), rfl, rfl, by first | rfl | exact v_int (by omega) | exact v_int (by simp) | exact v_int (by simp; omega), rfl, hM29, by omega, (by show SlE byteV 5 _ (pk1 (pkA (bitsF (lnF t) t) ((bitsF (lnF t) (t.take q)).length + k)) ((bitsF (lnF t) (t.take q)).length + k) ((bitsF (lnF t) t).getD ((bitsF (lnF t) (t.take q)).length + k) 0)) _; rw [hbit]; rw [show W / 2 ^ (dg - 1 - k) % 2 = 0 by omega, ← pk_T0 (by omega)]; exact hs29)⟩ (by (try dsimp only); omega)
   refine h26 _ _ ?_
   clear h26
   refine seq fun K36 h36 => ?_
   refine seq fun K37 h37 => ?_
   refine stp (v := .pointer (some ⟨b16, 1, none⟩)) (o_fa rfl rfl) ?_
   refine m_ld (v := .int .u32 (((codesL (lnF t)).getD ((t.getD q 0).toNat) ((0, 0) : Int × Int)).2)) hM20 (i := 1) (j := 0) rfl rfl rfl rfl ?_
   refine stp (v := .int .i64 ((dg : Nat) - 1 - (k : Nat))) (o_mv rfl) ?_
   refine stp (v := .int .u32 (W / 2 ^ (dg - 1 - k) : Nat)) (o_shr rfl rfl (by omega) (shr_at hg2 (by omega) (by omega))) ?_
   refine stp (v := .int .u32 (W / 2 ^ (dg - 1 - k) % 2 : Nat)) (o_rem rfl rfl (by omega) ((v_rem (Int.natCast_nonneg _)).trans rfl)) ?_
   refine stp (v := .bool (decide (((W / 2 ^ (dg - 1 - k) % 2 : Nat) : Int) = 1))) (o_bin rfl rfl rfl) ?_
   refine h37 _ _ ?_
   clear h37
   refine cndP rfl (fun c38 => ?_) (fun c38 => ?_)
   ·intro wd e1 e2 e3 e4
    have hd := Upd.same e1 e2 e3 e4 []
    have hM39 := hM20.pure hd
    clear e1 e2 e3 e4
    refine ⟨(some []), ?_⟩
    show vd _ _ _ _ _ _ _
    refine dq (v := y5_) (o_mv rfl) ?_
    refine dq (v := .int .i64 (((bitsF (lnF t) (t.take q)).length + k) : Nat)) (o_mv rfl) ?_
    refine dq (v := .int .i64 (((bitsF (lnF t) (t.take q)).length + k) / 8 : Nat)) (o_quo rfl rfl (by omega) ((v_quo (by omega) (by omega) (by simp only [inK]; omega)).trans (v_int (by omega)))) ?_
    refine dq (v := y5_) (o_mv rfl) ?_
    refine dq (v := .int .i64 (((bitsF (lnF t) (t.take q)).length + k) : Nat)) (o_mv rfl) ?_
    refine dq (v := .int .i64 (((bitsF (lnF t) (t.take q)).length + k) / 8 : Nat)) (o_quo rfl rfl (by omega) ((v_quo (by omega) (by omega) (by simp only [inK]; omega)).trans (v_int (by omega)))) ?_
    refine dqp (m_idxE 0 (j := (((bitsF (lnF t) (t.take q)).length + k) / 8)) (hy5_.rd hM39 (i := 0) rfl) rfl (v_int (by omega)) (by omega) fun b40 o40 hp40 => ?_)
    show vd _ _ _ _ _ _ _
    refine dq (v := .int .i64 (((bitsF (lnF t) (t.take q)).length + k) : Nat)) (o_mv rfl) ?_
    refine dq (v := .int .i64 (((bitsF (lnF t) (t.take q)).length + k) % 8 : Nat)) (o_rem rfl rfl (by omega) ((v_rem (by omega)).trans (v_int (by omega)))) ?_
    refine dq (v := .int .u8 (2 ^ (((bitsF (lnF t) (t.take q)).length + k) % 8) : Nat)) (o_shl rfl rfl (by omega) (shl8 rfl)) ?_
    refine dl (ld (v := byteV ((pkA (bitsF (lnF t) t) ((bitsF (lnF t) (t.take q)).length + k)).getD (((bitsF (lnF t) (t.take q)).length + k) / 8) 0)) rfl (hp40) ?_)
    refine ⟨(fun b hb => by cases hb), ?_⟩
    refine dq (v := .int .u8 (((((pkA (bitsF (lnF t) t) ((bitsF (lnF t) (t.take q)).length + k)).getD (((bitsF (lnF t) (t.take q)).length + k) / 8) 0).toNat + 2 ^ (((bitsF (lnF t) (t.take q)).length + k) % 8)).toUInt8.toNat : Nat) : Int)) (o_bin rfl rfl (add8 (low_room hpi (by omega)))) ?_
    refine dset (m_setU (E := byteV) (q := (((pkA (bitsF (lnF t) t) ((bitsF (lnF t) (t.take q)).length + k)).getD (((bitsF (lnF t) (t.take q)).length + k) / 8) 0).toNat + 2 ^ (((bitsF (lnF t) (t.take q)).length + k) % 8)).toUInt8) (j := (((bitsF (lnF t) (t.take q)).length + k) / 8)) hM39 (i := 0) rfl hy5_ rfl (v_int (by omega)) (by omega) (by simp) (rfl) fun w41 r41 u41 he41 hs41 (hM41 : Mem w [] w41 [r41, [⟨b16, 131, [.int .i64 (((codesL (lnF t)).getD ((t.getD q 0).toNat) ((0, 0) : Int × Int)).1), .int .u32 (((codesL (lnF t)).getD ((t.getD q 0).toNat) ((0, 0) : Int × Int)).2)]⟩]]) hup41 => ?_)
    refine ⟨(fun b hb => by cases hb), ?_⟩
    show vd _ _ _ _ _ _ _
    refine h36 _ _ ?_
    clear h36
    refine stp (v := .int .i64 (((bitsF (lnF t) (t.take q)).length + k) : Nat)) (o_mv rfl) ?_
    refine stp (v := .int .i64 ((bitsF (lnF t) (t.take q)).length + (k + 1) : Nat)) (o_bin rfl rfl ((v_add64 (by omega)).trans (v_int (by omega)))) ?_
    refine stp (v := .int .i64 ((bitsF (lnF t) (t.take q)).length + (k + 1) : Nat)) (o_mv rfl) ?_
    refine h25 _ _ ?_
    clear h25
    refine stp (v := .int .i64 ((dg : Nat) - 1 - (k : Nat))) (o_mv rfl) ?_
    refine stp (v := .int .i64 (((dg : Nat) - 1 - (k : Nat)) - 1)) (o_bin rfl rfl (v_sub64 (by constructor <;> omega))) ?_
    refine stp (v := .int .i64 (((dg : Nat) - 1 - (k : Nat)) - 1)) (o_mv rfl) ?_
    refine h21 (k + 1, y5_, r41) _ _ ⟨rfl, by first | rfl | exact v_int (by omega) | exact v_int (by simp) | exact v_int (by simp; omega), by first | rfl | exact v_int (by omega) | exact v_int (by simp) | exact v_int (by simp; omega), rfl, rfl, by first | rfl | exact v_int (by omega) | exact v_int (by simp) | exact v_int (by simp; omega), rfl, hM41, by omega, (by show SlE byteV 5 _ (pk1 (pkA (bitsF (lnF t) t) ((bitsF (lnF t) (t.take q)).length + k)) ((bitsF (lnF t) (t.take q)).length + k) ((bitsF (lnF t) t).getD ((bitsF (lnF t) (t.take q)).length + k) 0)) _; rw [hbit]; rw [show W / 2 ^ (dg - 1 - k) % 2 = 1 by omega, ← pk_F1 (by omega)]; exact hs41)⟩ (by (try dsimp only); omega)
   refine h36 _ _ ?_
   clear h36
   refine stp (v := .int .i64 (((bitsF (lnF t) (t.take q)).length + k) : Nat)) (o_mv rfl) ?_
   refine stp (v := .int .i64 ((bitsF (lnF t) (t.take q)).length + (k + 1) : Nat)) (o_bin rfl rfl ((v_add64 (by omega)).trans (v_int (by omega)))) ?_
   refine stp (v := .int .i64 ((bitsF (lnF t) (t.take q)).length + (k + 1) : Nat)) (o_mv rfl) ?_
   refine h25 _ _ ?_
   clear h25
   refine stp (v := .int .i64 ((dg : Nat) - 1 - (k : Nat))) (o_mv rfl) ?_
   refine stp (v := .int .i64 (((dg : Nat) - 1 - (k : Nat)) - 1)) (o_bin rfl rfl (v_sub64 (by constructor <;> omega))) ?_
   refine stp (v := .int .i64 (((dg : Nat) - 1 - (k : Nat)) - 1)) (o_mv rfl) ?_
   refine h21 (k + 1, y5_, r5_) _ _ ⟨rfl, by first | rfl | exact v_int (by omega) | exact v_int (by simp) | exact v_int (by simp; omega), by first | rfl | exact v_int (by omega) | exact v_int (by simp) | exact v_int (by simp; omega), rfl, rfl, by first | rfl | exact v_int (by omega) | exact v_int (by simp) | exact v_int (by simp; omega), rfl, hM20, by omega, (by show SlE byteV 5 _ (pk1 (pkA (bitsF (lnF t) t) ((bitsF (lnF t) (t.take q)).length + k)) ((bitsF (lnF t) (t.take q)).length + k) ((bitsF (lnF t) t).getD ((bitsF (lnF t) (t.take q)).length + k) 0)) _; rw [hbit]; rw [show W / 2 ^ (dg - 1 - k) % 2 = 0 by omega, ← pk_F0 (by omega) (by omega)]; exact hy5_)⟩ (by (try dsimp only); omega)
  refine h12 _ _ ?_
  clear h12
  refine stp (v := .int .i64 (q : Nat)) (o_mv rfl) ?_
  refine stp (v := .int .i64 ((q : Nat) + 1)) (o_bin rfl rfl (v_add64 (by constructor <;> omega))) ?_
  refine stp (v := .int .i64 ((q : Nat) + 1)) (o_mv rfl) ?_
  refine h8 (q + 1, y5_, r5_) _ _ ⟨rfl, by first | rfl | exact v_int (by omega) | exact v_int (by simp) | exact v_int (by simp; omega), by first | rfl | exact v_int (by omega) | exact v_int (by simp) | exact v_int (by simp; omega), rfl, rfl, hM20.keep (by simp), by omega, by rw [hnx, show dg = k by omega]; exact hy5_⟩ (by (try dsimp only); omega)
 refine h4 _ _ ?_
 clear h4
 refine seq fun K42 h42 => ?_
 refine stp (v := y5_) (o_mv rfl) ?_
 refine stp (v := y5_) (o_mv rfl) ?_
 refine h42 _ _ ?_
 clear h42
 refine ⟨y5_, rfl, ?_⟩
 exact ⟨_, SlE.eqL (hy5_) (by rw [bits_all (by omega)]), hM7.keep (by simp)⟩
set_option maxHeartbeats 1000000 in
set_option maxRecDepth 100000 in
theorem refEncode_ok (x : Value) (t : List UInt8) (w : World) (hx : RdE byteV w x t) (hl : t.length ≤ 1152921504606846976) : Calls Tryz.prog 33 [x].toArray w (Rt fun r w' => ∃ v rs, r = .tuple [v, .int .i64 (encR t).2].toArray ∧ SlE byteV 5 v (encR t).1 rs ∧ Mem w [] w' [rs]) := by
 have hM0 : Mem w [] w [] := Mem.nil w []
 refine calls_vc mixed Tryz.func33 rfl C33 (by simp [Tryz.ntmps33]) ?_
 refine seq fun K1 h1 => ?_
 refine stp (v := .slice none 0 0) (o_mv rfl) ?_
 refine stp (v := .int .i64 0) (o_mv rfl) ?_
 refine h1 _ _ ?_
 clear h1
 refine seq fun K2 h2 => ?_
 refine seq fun K3 h3 => ?_
 refine stp (v := x) (o_mv rfl) ?_
 refine stp (v := .int .i64 (t.length : Nat)) (o_lenR (hx.upd hM0.upd) rfl rfl) ?_
 refine stp (v := .bool (decide ((65536 : Int) < ((t.length : Nat) : Int)))) (o_bin rfl rfl rfl) ?_
 refine h3 _ _ ?_
 clear h3
 refine cndP rfl (fun c4 => ?_) (fun c4 => ?_)
 ·refine seq fun K5 h5 => ?_
  refine stp (v := .slice none 0 0) (o_mv rfl) ?_
  refine stp (v := .int .i64 2) (o_mv rfl) ?_
  refine h5 _ _ ?_
  clear h5
  refine ⟨(.tuple [.slice none 0 0, .int .i64 2].toArray), rfl, ?_⟩
  rw [encR_long (by omega)]
  exact ⟨_, [], rfl, Sl.nil 1 5, hM0.keep (by simp)⟩
 refine h2 _ _ ?_
 clear h2
 refine seq fun K6 h6 => ?_
 refine m_mksE (E := i64V) (z := 0) (n := 256) (c := 256) rfl hM0 (v_int (by omega)) (v_int (by omega)) (by omega) (by omega) (by omega) fun v7 w7 r7 hs7 (hM7 : Mem w [] w7 [r7]) => ?_
 refine stp (v := v7) (o_mv rfl) ?_
 refine h6 _ _ ?_
 clear h6
 refine seq fun K8 h8 => ?_
 refine seq fun K9 h9 => ?_
 refine stp (v := .int .i64 0) (o_mv rfl) ?_
 refine h9 _ _ ?_
 clear h9
 refine lp (n := fun _ _ => False) (ι := (Nat) × (Value) × (List Ent)) (fun ⟨q, y4_, r4_⟩ f w' => f 5 = .int .i64 (q : Nat) ∧ f 4 = y4_ ∧ f 0 = x ∧ Mem w [] w' [r4_] ∧ (q ≤ t.length) ∧ (SlE i64V 2 y4_ (cntP (t.take q)) r4_)) (fun ⟨q, y4_, r4_⟩ => t.length - q) (0, v7, r7) ?_ ?_
 ·exact ⟨by first | rfl | exact v_int (by omega) | exact v_int (by simp) | exact v_int (by simp; omega), rfl, rfl, hM7, by omega, by rw [List.take_zero, ← cntP_zero]; exact hs7⟩
 rintro ⟨q, y4_, r4_⟩ f w10 ⟨e10_5, e10_4, e10_0, hM10, hq, hy4_⟩ K11 h11
 obtain ⟨frm, rfl⟩ : ∃ frm, f = (upd (upd (upd frm 5 (.int .i64 (q : Nat))) 4 (y4_)) 0 (x)) := ⟨f, by rw [upd_self e10_5, upd_self e10_4, upd_self e10_0]⟩
 clear e10_5 e10_4 e10_0
 refine seq fun K12 h12 => ?_
 refine seq fun K13 h13 => ?_
 refine stp (v := .int .i64 (q : Nat)) (o_mv rfl) ?_
 refine stp (v := x) (o_mv rfl) ?_
 refine stp (v := .int .i64 (t.length : Nat)) (o_lenR (hx.upd hM10.upd) rfl rfl) ?_
 refine stp (v := .bool (decide (((q : Nat) : Int) < (t.length : Nat)))) (o_bin rfl rfl rfl) ?_
 refine h13 _ _ ?_
 clear h13
 refine cndP rfl (fun c14 => ?_) (fun c14 => ?_)
 ·refine h12 _ _ ?_
  clear h12
  refine seq fun K15 h15 => ?_
  refine stp (v := y4_) (o_mv rfl) ?_
  refine stp (v := x) (o_mv rfl) ?_
  refine stp (v := .int .i64 (q : Nat)) (o_mv rfl) ?_
  refine m_idxE 0 (j := q) (hx.upd hM10.upd) rfl rfl (by omega) fun b16 o16 hp16 => ?_
  refine ld (v := byteV (t.getD q 0)) rfl (hp16) ?_
  refine m_idxE 0 (j := (t.getD q 0).toNat) (hy4_.rd hM10 (i := 0) rfl) rfl rfl (by rw [cntP_len]; exact (t.getD q 0).toNat_lt) fun b17 o17 hp17 => ?_
  have hcb := cntP_bd (t.take q) (t.getD q 0).toNat
  have htl : (t.take q).length ≤ 65536 := by rw [List.length_take]; omega
  refine ld (v := .int .i64 ((cntP (t.take q)).getD ((t.getD q 0).toNat) 0)) rfl (hp17) ?_
  refine stp (v := .int .i64 (((cntP (t.take q)).getD ((t.getD q 0).toNat) 0) + 1)) (o_bin rfl rfl (v_add64 (by constructor <;> omega))) ?_
  refine m_set (E := i64V) (q := ((cntP (t.take q)).getD ((t.getD q 0).toNat) 0) + 1) (j := (t.getD q 0).toNat) hM10 (i := 0) rfl hy4_ rfl rfl (by rw [cntP_len]; exact (t.getD q 0).toNat_lt) (by simp) (rfl) fun w18 r18 u18 he18 hs18 (hM18 : Mem w [] w18 [r18]) => ?_
  refine h15 _ _ ?_
  clear h15
  refine stp (v := .int .i64 (q : Nat)) (o_mv rfl) ?_
  refine stp (v := .int .i64 ((q : Nat) + 1)) (o_bin rfl rfl (v_add64 (by constructor <;> omega))) ?_
  refine stp (v := .int .i64 ((q : Nat) + 1)) (o_mv rfl) ?_
  refine h11 (q + 1, y4_, r18) _ _ ⟨by first | rfl | exact v_int (by omega) | exact v_int (by simp) | exact v_int (by simp; omega), rfl, rfl, hM18, by omega, by rw [← cntP_step (by omega)]; exact hs18⟩ (by (try dsimp only); omega)
 refine h8 _ _ ?_
 clear h8
 refine seq fun K19 h19 => ?_
 refine stp (v := y4_) (o_mv rfl) ?_
 refine m_call (refLengths_ok _ (cntP (t.take q)) 15 w10 (hy4_.rd hM10 (i := 0) rfl) (by rw [cntP_len]; omega) (by simp only [inK]; omega)) rfl fun v20 w20 ⟨y20, rs20, hr20, hs20, hm20⟩ => ?_
 have hM20 : Mem w [] w20 [r4_, rs20] := hM10.add hm20
 rw [List.take_of_length_le (by omega), lenF_cnt (by omega)] at hr20 hs20
 dsimp only at hr20 hs20
 subst hr20
 refine stp (v := .tuple [y20, .int .i64 0].toArray) (o_mv rfl) ?_
 refine stp (v := y20) (o_ext rfl rfl) ?_
 refine stp (v := .int .i64 0) (o_ext rfl rfl) ?_
 refine stp (v := y20) (o_mv rfl) ?_
 refine stp (v := .int .i64 0) (o_mv rfl) ?_
 refine h19 _ _ ?_
 clear h19
 refine seq fun K21 h21 => ?_
 refine stp (v := y20) (o_mv rfl) ?_
 refine m_call (refCodes_ok _ (lnF t) w20 (hs20.rd hM20 (i := 1) rfl) (by rw [lnF_len]; omega)) rfl fun v22 w22 ⟨y22, rs22, hr22, hs22, hm22⟩ => ?_
 have hM22 : Mem w [] w22 [r4_, rs20, rs22] := hM20.add hm22
 rw [(lnF_codes t).2] at hr22 hs22
 dsimp only at hr22 hs22
 subst hr22
 refine stp (v := .tuple [y22, .int .i64 0].toArray) (o_mv rfl) ?_
 refine stp (v := y22) (o_ext rfl rfl) ?_
 refine stp (v := .int .i64 0) (o_ext rfl rfl) ?_
 refine stp (v := y22) (o_mv rfl) ?_
 refine stp (v := .int .i64 0) (o_mv rfl) ?_
 refine h21 _ _ ?_
 clear h21
 refine seq fun K23 h23 => ?_
 refine stp (v := y20) (o_mv rfl) ?_
 refine m_call (pairs_ok _ (lnF t) w22 (hs20.rd hM22 (i := 1) rfl) (by rw [lnF_len]; omega) (lnF_inB t)) rfl fun v24 w24 ⟨rs24, hs24, hm24⟩ => ?_
 have hM24 : Mem w [] w24 [r4_, rs20, rs22, rs24] := hM22.add hm24
 refine stp (v := v24) (o_mv rfl) ?_
 refine h23 _ _ ?_
 clear h23
 refine seq fun K25 h25 => ?_
 have hHD : (hdrE (lnF t) 0 ++ [0]).length ≤ 1000000 := by
  have h9 := hdrE_len (lnF t) (by rw [lnF_len]; omega) 256 0 (by rw [lnF_len]; omega)
  rw [lnF_len] at h9
  rw [List.length_append, List.length_singleton]; omega
 have hpk := (pkA_ok (bs := (bitsF (lnF t) t)) bits_le (bitsF (lnF t) t).length).len
 have hbl := lnF_bits t t.length (Nat.le_refl _)
 rw [List.take_length] at hbl
 refine stp (v := v24) (o_mv rfl) ?_
 refine stp (v := x) (o_mv rfl) ?_
 refine stp (v := y22) (o_mv rfl) ?_
 refine m_call (words_ok4 _ _ t w24 (hx.upd hM24.upd) (hs22.rd hM24 (i := 2) rfl) (by omega)) rfl fun v26 w26 ⟨rs26, hs26, hm26⟩ => ?_
 have hM26 : Mem w [] w26 [r4_, rs20, rs22, rs24, rs26] := hM24.add hm26
 refine m_appE hM26 (i := 3) rfl hs24 rfl rfl (hs26.rd hM26 (i := 4) rfl) (by first | omega | (simp; omega)) (by omega) fun v27 w27 r27 (hs27 : SlE byteV 5 v27 ((hdrE (lnF t) 0 ++ [0]) ++ (pkA (bitsF (lnF t) t) (bitsF (lnF t) t).length)) r27) (hM27 : Mem w [] w27 [r4_, rs20, rs22, r27, rs26]) => ?_
 refine stp (v := v27) (o_mv rfl) ?_
 refine stp (v := .int .i64 0) (o_mv rfl) ?_
 refine h25 _ _ ?_
 clear h25
 refine ⟨(.tuple [v27, .int .i64 0].toArray), rfl, ?_⟩
 rw [encR_ok (by omega)]
 exact ⟨_, _, rfl, hs27, hM27.keep (by simp; repeat first | exact List.Sublist.refl _ | exact List.sublist_append_left _ _ | refine List.sublist_append_of_sublist_right ?_)⟩
end Go.Proofs.YtifnmbmijljhfaaGreat.E.Hf
namespace Go.Proofs.YtifnmbmijljhfaaGreat.E
open Go
theorem o_idxv {f : Fr} {v : Value} {n s : Nat} {x i : Operand} {cs : Array Value} {k : IntKind} {j : Int} (hx : ev f x = .agg cs) (hi : ev f i = .int k j) (hj : 0 ≤ j ∧ j < (n : Int)) (hv : Value.agg (cs.extract (j.toNat * s) (j.toNat * s + s)) = v) : PeV (.idxv n s true x i) f v := fun K h => by
 show kagg (ev f x) _; rw [hx]; show anyint (ev f i) _; rw [hi]; refine ⟨hj, ?_⟩; show K _; rw [hv]; exact h
theorem huff_len {t : List UInt8} (h : t.length ≤ 65536) : (Hf.encR t).1.length ≤ 200000 ∧ (Hf.encR t).2 = 0 := by
 rw [Hf.encR_ok (by omega)]
 refine ⟨?_, rfl⟩
 show (Hf.encF t).length ≤ _
 have h1 := Hf.hdrE_len (Hf.lnF t) (by rw [Hf.lnF_len]; omega) 256 0 (by rw [Hf.lnF_len]; omega)
 have h2 := (Hf.pkA_ok (bs := Hf.bitsF (Hf.lnF t) t) Hf.bits_le (Hf.bitsF (Hf.lnF t) t).length).len
 have h3 := Hf.lnF_bits t t.length (Nat.le_refl _)
 rw [List.take_of_length_le (Nat.le_refl _)] at h3
 rw [Hf.lnF_len] at h1
 unfold Hf.encF
 simp only [List.length_append, List.length_singleton]
 omega
theorem lz_len {t : List UInt8} (h : t.length ≤ 65536) : (Lz.encF t).1.length ≤ 65541 ∧ (Lz.encF t).2 = 0 := ⟨Lz.enc_len, by rw [Lz.encF_ok h]⟩
def cand (T : List UInt8) (k : Nat) : List UInt8 := if k = 0 then T else if k = 1 then (Lz.encF T).1 else (Hf.encR T).1
def bestS (T : List UInt8) (b : List UInt8 × Int) (k : Nat) : List UInt8 × Int := if T.length ≤ 64 * (cand T k).length ∧ (b.2 < 0 ∨ (cand T k).length < b.1.length) then (cand T k, (k : Int)) else b
def bestF (T : List UInt8) : Nat → List UInt8 × Int
 | 0 => ([], -1)
 | k + 1 => bestS T (bestF T k) k
def startsF (st : List Int) : List UInt8 := (st.map fun a => fixedI a 4).flatten
def rawB (R : Nat) (raw : List UInt8) (st : List Int) (n : Nat) : List UInt8 := raw ++ startsF st ++ fixedI (R : Nat) 4 ++ fixedI (n : Nat) 4
theorem starts_succ {st : List Int} {i : Nat} (h : i < st.length) : startsF (st.take (i + 1)) = startsF (st.take i) ++ fixedI (st.getD i 0) 4 := by
 unfold startsF
 rw [List.take_add_one, List.getElem?_eq_getElem h, List.map_append, List.flatten_append]
 simp [List.getD_eq_getElem?_getD, List.getElem?_eq_getElem h]
theorem starts_len (st : List Int) : (startsF st).length = 4 * st.length := by
 unfold startsF
 induction st with
 | nil => rfl
 | cons a r ih => rw [List.map_cons, List.flatten_cons, List.length_append, ih, fixedI_some (by omega), fixed_length]; simp only [List.length_cons]; omega
theorem fix4_len (v : Int) : (fixedI v 4).length = 4 := by rw [fixedI_some (by omega), fixed_length]; rfl
theorem conv_u64 {a : Int} (h0 : 0 ≤ a) (h : a ≤ 9223372036854775807) : Value.int .u64 (IntKind.u64.wrap a) = .int .u64 a := by rw [wrap_u64, Int.emod_eq_of_lt h0 (by omega)]
theorem Size_ok (bb R M : Nat) (raw : List UInt8) (st : List Int) (last : List UInt8) (n : Nat) (r0 : List Ent) (w : World) (hB : BldS bb R M raw st last n r0) (hr : Res w r0) (hR : 1 ≤ R ∧ R ≤ 64) (hl : raw.length ≤ 65536 ∧ n ≤ 65536) : Calls Tryz.prog 9 [.pointer (some ⟨bb, 0, none⟩)].toArray w (Rt fun r w' => r = .int .i64 ((szB R raw.length n : Nat) : Int) ∧ Upd [] w w') := by
 obtain ⟨vr, vs, rr, rs, rfl, hvr, hvs⟩ := hB
 have ho := (Mem.res1 hr).1
 have hM0 : Mem w [] w [] := Mem.nil w []
 refine calls_vc mixed Tryz.func9 rfl C9 (by simp [Tryz.ntmps9]) <| seq fun _ h1 => mv <| h1 _ _ <| seq fun _ h2 => seq fun _ h3 => mv <| stp (v := .bool false) (o_isnil rfl rfl) <| h3 _ _ <| cndF rfl <| h2 _ _ <| seq fun _ h4 => ?_
 intro wd e1 e2 e3 e4
 have hd := Upd.same e1 e2 e3 e4 []
 have hM5 := hM0.pure hd
 clear e1 e2 e3 e4
 refine ⟨(some [bb]), ?_⟩
 show vd _ _ _ _ _ _ _
 refine dmv <| dmv <| dq (v := .pointer (some ⟨bb, 0, none⟩)) (o_nilchk rfl rfl) <| dfa rfl <| dmv <| dq (v := .pointer (some ⟨bb, 0, none⟩)) (o_nilchk rfl rfl) <| dfa rfl <| dqld rfl (by simp [isHeld]) (v := .int .i64 (n : Nat)) ((ho.upd hM5.upd (by simp)).cell 5) <| dl (ld (v := vr) rfl ((ho.upd hM5.upd (by simp)).cell 2) <| ⟨(fun b hb => rfl), dq (v := .int .i64 (raw.length : Nat)) (o_lenR ((hvr.rdOwn fun e he => ((Mem.res1 hr).2 e (List.mem_append_left _ he)).upd hM5.upd (by simp))) rfl rfl) <| dl (m_call (size_ok bb R _ (raw.length) (n) wd (ho.upd hM5.upd (by simp)) hR (by omega) (by omega)) rfl fun v6 w6 ⟨hr6, hu6⟩ => ?_)⟩)
 have hM6 : Mem w [] w6 [] := hM5.pure hu6
 subst hr6
 have hh6 := held_upd (wr := wd) (bs := [bb]) hu6 (fun b hb => by
  simp only [List.mem_cons, List.not_mem_nil, or_false] at hb
  rw [hb]; exact ⟨(ho.upd hM5.upd (by simp)).lt, by simp⟩) (fun b hb => rfl)
 refine ⟨hh6, dmv <| h4 _ _ <| ⟨(.int .i64 (szB R (raw.length) (n) : Nat)), rfl, ⟨rfl, hM6.upd⟩⟩⟩
theorem BLen_ok (bb R M : Nat) (raw : List UInt8) (st : List Int) (last : List UInt8) (n : Nat) (r0 : List Ent) (w : World) (hB : BldS bb R M raw st last n r0) (hr : Res w r0) : Calls Tryz.prog 11 [.pointer (some ⟨bb, 0, none⟩)].toArray w (Rt fun r w' => r = .int .i64 (n : Nat) ∧ Upd [] w w') := by
 obtain ⟨vr, vs, rr, rs, rfl, hvr, hvs⟩ := hB
 have ho := (Mem.res1 hr).1
 have hM0 : Mem w [] w [] := Mem.nil w []
 refine calls_vc mixed Tryz.func11 rfl C11 (by simp [Tryz.ntmps11]) <| seq fun _ h1 => mv <| h1 _ _ <| seq fun _ h2 => seq fun _ h3 => mv <| stp (v := .bool false) (o_isnil rfl rfl) <| h3 _ _ <| cndF rfl <| h2 _ _ <| seq fun _ h4 => mv <| nilchk rfl ?_
 refine fa rfl <| ld (v := .int .i64 (n : Nat)) rfl ((ho.upd hM0.upd (by simp)).cell 5) <| mv <| h4 _ _ <| ⟨(.int .i64 (n : Nat)), rfl, ⟨rfl, hM0.upd⟩⟩
end Go.Proofs.YtifnmbmijljhfaaGreat.E
namespace Go.Proofs.YtifnmbmijljhfaaGreat.E
open Go
theorem best_0 {T : List UInt8} : bestF T 1 = (T, 0) := by
 show bestS T ([], -1) 0 = _
 unfold bestS
 rw [if_pos ⟨by show T.length ≤ 64 * T.length; omega, .inl (by show (-1 : Int) < 0; omega)⟩]; rfl
theorem best_fl {T : List UInt8} : ∀ k, 0 < k → 0 ≤ (bestF T k).2
 | 0, h => absurd h (by omega)
 | 1, _ => by rw [best_0]; exact Int.le_refl _
 | k + 2, _ => by
  show 0 ≤ (bestS T (bestF T (k + 1)) (k + 1)).2
  unfold bestS
  split
  ·show 0 ≤ ((k + 1 : Nat) : Int); omega
  exact best_fl (k + 1) (by omega)
theorem best_yes {T : List UInt8} {k : Nat} (h : T.length ≤ 64 * (cand T k).length) (h2 : (bestF T k).2 < 0 ∨ (cand T k).length < (bestF T k).1.length) : bestF T (k + 1) = (cand T k, (k : Int)) := by
 show bestS _ _ _ = _; unfold bestS; rw [if_pos ⟨h, h2⟩]
theorem best_no {T : List UInt8} {k : Nat} (h : ¬ (T.length ≤ 64 * (cand T k).length ∧ ((bestF T k).2 < 0 ∨ (cand T k).length < (bestF T k).1.length))) : bestF T (k + 1) = bestF T k := by
 show bestS _ _ _ = _; unfold bestS; rw [if_neg h]
set_option maxRecDepth 100000 in
theorem codes_ok (w : World) : Calls Tryz.prog 29 [].toArray w (Rt fun r w' => r = .agg ([.func (.func 51) [].toArray [].toArray, .func (.func 52) [].toArray [].toArray, .func (.func 53) [].toArray [].toArray, .func (.func 54) [].toArray [].toArray, .func (.func 55) [].toArray [].toArray, .func (.func 56) [].toArray [].toArray] : List Value).toArray ∧ Upd [] w w') := by
 have hM0 : Mem w [] w [] := Mem.nil w []
 refine calls_vc mixed Tryz.func29 rfl C29 (by simp [Tryz.ntmps29]) <| seq fun _ h1 => m_al hM0 fun b2 w3 (hM3 : Mem _ _ w3 [[⟨b2, 65, [.nilFunc, .nilFunc, .nilFunc, .nilFunc, .nilFunc, .nilFunc]⟩]]) => h1 _ _ <| seq fun _ h4 => stp (v := .agg ([.func (.func 51) [].toArray [].toArray, .func (.func 52) [].toArray [].toArray] : List Value).toArray) (o_bld rfl rfl) <| stp (v := .agg ([.func (.func 53) [].toArray [].toArray, .func (.func 54) [].toArray [].toArray] : List Value).toArray) (o_bld rfl rfl) <| stp (v := .agg ([.func (.func 55) [].toArray [].toArray, .func (.func 56) [].toArray [].toArray] : List Value).toArray) (o_bld rfl rfl) <| stp (v := .agg ([.func (.func 51) [].toArray [].toArray, .func (.func 52) [].toArray [].toArray, .func (.func 53) [].toArray [].toArray, .func (.func 54) [].toArray [].toArray, .func (.func 55) [].toArray [].toArray, .func (.func 56) [].toArray [].toArray] : List Value).toArray) (o_bld rfl rfl) <| m_stA (l := [.func (.func 51) [].toArray [].toArray, .func (.func 52) [].toArray [].toArray, .func (.func 53) [].toArray [].toArray, .func (.func 54) [].toArray [].toArray, .func (.func 55) [].toArray [].toArray, .func (.func 56) [].toArray [].toArray]) hM3 (i := 0) rfl rfl rfl rfl (by simp [oneCells, Value.oneCell', byteV]) (by simp) fun w5 (hM5 : Mem _ _ w5 [[⟨b2, 65, [.func (.func 51) [].toArray [].toArray, .func (.func 52) [].toArray [].toArray, .func (.func 53) [].toArray [].toArray, .func (.func 54) [].toArray [].toArray, .func (.func 55) [].toArray [].toArray, .func (.func 56) [].toArray [].toArray]⟩]]) => h4 _ _ ?_
 show resV _ _ _ _ _
 refine res_cell (s := some 6) (by kernel_rfl) <| vl_ldA (cs := [.func (.func 51) [].toArray [].toArray, .func (.func 52) [].toArray [].toArray, .func (.func 53) [].toArray [].toArray, .func (.func 54) [].toArray [].toArray, .func (.func 55) [].toArray [].toArray, .func (.func 56) [].toArray [].toArray]) rfl rfl ((hM5.at (i := 0) (j := 0) rfl rfl).agg rfl rfl) <| ⟨(.agg ([.func (.func 51) [].toArray [].toArray, .func (.func 52) [].toArray [].toArray, .func (.func 53) [].toArray [].toArray, .func (.func 54) [].toArray [].toArray, .func (.func 55) [].toArray [].toArray, .func (.func 56) [].toArray [].toArray] : List Value).toArray), rfl, ⟨rfl, hM5.upd⟩⟩
theorem code1_ok (x : Value) (w : World) : Calls Tryz.prog 51 [x].toArray w (Rt fun r w' => r = .tuple [x, .int .i64 0].toArray ∧ Upd [] w w') := by
 have hM0 : Mem w [] w [] := Mem.nil w []
 refine calls_vc mixed Tryz.func51 rfl C51 (by simp [Tryz.ntmps51]) <| seq fun _ h1 => mv <| mv <| h1 _ _ <| seq fun _ h2 => mv <| mv <| mv <| h2 _ _ <| ⟨(.tuple [x, .int .i64 0].toArray), rfl, ⟨rfl, hM0.upd⟩⟩
end Go.Proofs.YtifnmbmijljhfaaGreat.E
namespace Go.Proofs.YtifnmbmijljhfaaGreat.E
open Go
theorem best_lt {T : List UInt8} : ∀ k, (bestF T k).2 < (k : Nat)
 | 0 => by show (-1 : Int) < 0; omega
 | k + 1 => by
  have ih := best_lt (T := T) k
  show (bestS T (bestF T k) k).2 < _
  unfold bestS
  split
  ·show (k : Int) < _; omega
  omega
theorem cand_len {T : List UInt8} (h : T.length ≤ 65536) (k : Nat) : (cand T k).length ≤ 200000 := by
 unfold cand
 split
 ·omega
 split
 ·have := (lz_len h).1; omega
 exact (huff_len h).1
theorem best_len {T : List UInt8} (h : T.length ≤ 65536) : ∀ k, (bestF T k).1.length ≤ 200000
 | 0 => Nat.zero_le _
 | k + 1 => by
  have ih := best_len h k
  show (bestS T (bestF T k) k).1.length ≤ _
  unfold bestS
  split
  ·exact cand_len h k
  exact ih
theorem best_yes1 {T bl : List UInt8} {k : Nat} (hbl : bl = (bestF T k).1) (h : T.length ≤ 64 * (cand T k).length) (h2 : (cand T k).length < bl.length) : cand T k = (bestF T (k + 1)).1 ∧ (k : Int) = (bestF T (k + 1)).2 := by
 subst hbl
 rw [best_yes h (.inr h2)]; exact ⟨rfl, rfl⟩
theorem best_no1 {T bl : List UInt8} {k : Nat} {fl : Int} (hk : 0 < k) (hbl : bl = (bestF T k).1) (hfl : fl = (bestF T k).2) (h : ¬ (T.length ≤ 64 * (cand T k).length ∧ (cand T k).length < bl.length)) : bl = (bestF T (k + 1)).1 ∧ fl = (bestF T (k + 1)).2 := by
 subst hbl; subst hfl
 rw [best_no fun q => h ⟨q.1, q.2.resolve_left (by have := best_fl (T := T) k hk; omega)⟩]; exact ⟨rfl, rfl⟩
theorem seal_len (l : List UInt8) : (sealF l).length = l.length + 4 := by unfold sealF; rw [List.length_append, fixed_length]
theorem Finish_ok (bb R M : Nat) (raw : List UInt8) (st : List Int) (last : List UInt8) (n : Nat) (r0 : List Ent) (w : World) (hB : BldS bb R M raw st last n r0) (hr : Res w r0) (hR : 1 ≤ R ∧ R ≤ 64) (hn : 0 < n ∧ n ≤ 65536) (hl : (rawB R raw st n).length ≤ 65536) (hst : ∀ j, j < st.length → 0 ≤ st.getD j 0 ∧ st.getD j 0 ≤ 65536) : Calls Tryz.prog 13 [.pointer (some ⟨bb, 0, none⟩)].toArray w (Rt fun r w' => ∃ v rb rt, r = .tuple [v, .int .i64 ((rawB R raw st n).length : Nat), .int .i64 0].toArray ∧ SlE byteV 5 v (sealF ((bestF (rawB R raw st n) 3).1 ++ [(bestF (rawB R raw st n) 3).2.toNat.toUInt8])) rt ∧ BldS bb R M [] [] [] 0 rb ∧ Mem w (ids r0) w' [rb, rt]) := by
 obtain ⟨vr, vs, rr, rs, rfl, hvr, hvs⟩ := hB
 have hM0 : Mem w (ids (⟨bb, 53, [.int .i64 (R : Nat), .int .i64 (M : Nat), vr, vs, .string (str last), .int .i64 (n : Nat)]⟩ :: (rr ++ rs))) w [[⟨bb, 53, [.int .i64 (R : Nat), .int .i64 (M : Nat), vr, vs, .string (str last), .int .i64 (n : Nat)]⟩], rr, rs] := (Mem.start hr).keep (by simp)
 have hsl := starts_len st
 have hlen : (rawB R raw st n).length = raw.length + 4 * st.length + 8 := by unfold rawB; rw [List.length_append, List.length_append, List.length_append, fix4_len, fix4_len, starts_len]
 obtain ⟨hz1, hz⟩ := lz_len hl
 obtain ⟨hy1, hy⟩ := huff_len hl
 refine calls_vc mixed Tryz.func13 rfl C13 (by simp [Tryz.ntmps13]) <| seq fun _ h1 => mv <| mv <| mv <| h1 _ _ <| seq fun _ h2 => seq fun _ h3 => mv <| stp (v := .bool false) (o_isnil rfl rfl) <| h3 _ _ <| cndF rfl <| h2 _ _ <| seq fun _ h4 => ?_
 refine seq fun _ h5 => mv <| nilchk rfl <| fa rfl <| m_ld (v := .int .i64 (n : Nat)) hM0 (i := 0) (j := 0) rfl rfl rfl rfl <| bn rfl rfl <| h5 _ _ <| cndP rfl (fun c6 => absurd c6 (by omega)) (fun c6 => h4 _ _ <| seq fun _ h7 => m_bs hM0 rfl fun b8 w9 (hM9 : Mem _ _ w9 [_, _, _, [⟨b8, 5, []⟩]]) => mv <| nilchk rfl <| fa rfl ?_)
 refine m_ld (v := vr) hM9 (i := 0) (j := 0) rfl rfl rfl rfl ?_
 have hs10 : SlE byteV 5 (.slice (some ⟨b8, 0, none⟩) 0 0) [] [⟨b8, 5, []⟩] := SlE.lit (l := []) rfl
 refine m_appE hM9 (i := 3) rfl hs10 rfl rfl (hvr.rd hM9 (i := 1) rfl) (by first | omega | (simp; omega)) (by omega) fun v11 w11 r11 (hs11 : SlE byteV 5 v11 (raw) r11) (hM11 : Mem _ _ w11 [_, _, _, r11]) => mv <| h7 _ _ <| seq fun _ h12 => seq fun _ h13 => mv <| nilchk rfl <| fa rfl <| m_ld (v := vs) hM11 (i := 0) (j := 0) rfl rfl rfl rfl <| stp (v := .int .i64 (st.length : Nat)) (o_lenR (hvs.rd hM11 (i := 2) rfl) rfl rfl) <| mv <| h13 _ _ <| lp (n := fun _ _ => False) (ι := (Nat) × (Value) × (List Ent)) (fun ⟨j, y5_, r5_⟩ f w' => f 5 = y5_ ∧ f 33 = .int .i64 (j : Nat) ∧ f 0 = .pointer (some ⟨bb, 0, none⟩) ∧ f 31 = vs ∧ f 32 = .int .i64 (st.length : Nat) ∧ Mem w (ids (⟨bb, 53, [.int .i64 (R : Nat), .int .i64 (M : Nat), vr, vs, .string (str last), .int .i64 (n : Nat)]⟩ :: (rr ++ rs))) w' [[⟨bb, 53, [.int .i64 (R : Nat), .int .i64 (M : Nat), vr, vs, .string (str last), .int .i64 (n : Nat)]⟩], rr, rs, r5_] ∧ (j ≤ st.length) ∧ (SlE byteV 5 y5_ (raw ++ startsF (st.take j)) r5_)) (fun ⟨j, y5_, r5_⟩ => st.length - j) (0, v11, r11) ?_ ?_
 ·exact ⟨rfl, vi, rfl, rfl, vi, hM11.keep (by simp), by omega, by simpa [startsF] using hs11⟩
 rintro ⟨j, y5_, r5_⟩ f w14 ⟨e14_5, e14_33, e14_0, e14_31, e14_32, hM14, hj, hy5_⟩ K15 h15
 obtain ⟨frm, rfl⟩ := re5 e14_5 e14_33 e14_0 e14_31 e14_32
 refine seq fun _ h16 => bn rfl rfl <| h16 _ _ <| seq fun _ h17 => cndP rfl (fun c18 => ?_) (fun c18 => ?_)
 ·refine h17 _ _ <| seq fun _ h19 => seq fun _ h20 => m_idxE 0 (j := j) (hvs.rd hM14 (i := 2) rfl) rfl rfl (by omega) fun b21 o21 hp21 => ?_
  have hsj := starts_len (st.take j)
  rw [List.length_take] at hsj
  have hgj := hst j (by omega)
  have hla : (raw ++ startsF (st.take j)).length = raw.length + 4 * min j st.length := by rw [List.length_append, hsj]
  refine ld (v := .int .i64 (st.getD j 0)) rfl (hp21) <| mv <| h20 _ _ <| mv <| mv <| stp (v := .int .u64 (st.getD j 0)) (o_conv rfl (conv_u64 (hst j (by omega)).1 (by have := (hst j (by omega)).2; omega))) <| m_call (Fixed_ok (st.getD j 0) 4 (by simp only [inK]; omega) (by simp only [inK]; omega) w14) rfl fun v22 w22 ⟨rs22, hs22, hm22⟩ => ?_
  have hM22 : Mem w (ids (⟨bb, 53, [.int .i64 (R : Nat), .int .i64 (M : Nat), vr, vs, .string (str last), .int .i64 (n : Nat)]⟩ :: (rr ++ rs))) w22 [[⟨bb, 53, [.int .i64 (R : Nat), .int .i64 (M : Nat), vr, vs, .string (str last), .int .i64 (n : Nat)]⟩], rr, rs, r5_, rs22] := hM14.add hm22
  have hn22 := fixedI_len (v := (st.getD j 0)) (n := 4)
  refine m_appE hM22 (i := 3) rfl hy5_ rfl rfl (hs22.rd hM22 (i := 4) rfl) (by first | omega | (simp; omega)) (by omega) fun v23 w23 r23 (hs23 : SlE byteV 5 v23 ((raw ++ startsF (st.take j)) ++ (fixedI (st.getD j 0) 4)) r23) (hM23 : Mem _ _ w23 [_, _, _, r23, _]) => mv <| h19 _ _ <| stp (v := .int .i64 ((j : Nat) + 1)) (o_bin rfl rfl (v_add64 (by omega))) <| mv <| h15 (j + 1, v23, r23) _ _ ⟨rfl, vi, rfl, rfl, vi, hM23.keep (by simp), by omega, by rw [starts_succ (by omega), ← List.append_assoc]; exact hs23⟩ (by (try dsimp only); omega)
 refine h12 _ _ <| seq fun _ h24 => ?_
 have hzj : startsF (st.take j) = startsF st := by rw [List.take_of_length_le (by omega)]
 rw [hzj] at hy5_
 have hlb : (raw ++ startsF st).length = raw.length + 4 * st.length := by rw [List.length_append, hsl]
 have hlc : (raw ++ startsF st ++ fixedI (R : Nat) 4).length = raw.length + 4 * st.length + 4 := by rw [List.length_append, hlb, fix4_len]
 have hld : (raw ++ startsF st ++ fixedI (R : Nat) 4 ++ fixedI (n : Nat) 4).length = (rawB R raw st n).length := rfl
 refine mv <| mv <| nilchk rfl <| fa rfl <| m_ld (v := .int .i64 (R : Nat)) hM14 (i := 0) (j := 0) rfl rfl rfl rfl <| stp (v := .int .u64 (R : Nat)) (o_conv rfl (conv_u64 (by omega) (by omega))) <| m_call (Fixed_ok (R : Nat) 4 (by simp only [inK]; omega) (by simp only [inK]; omega) w14) rfl fun v25 w25 ⟨rs25, hs25, hm25⟩ => ?_
 have hM25 : Mem w (ids (⟨bb, 53, [.int .i64 (R : Nat), .int .i64 (M : Nat), vr, vs, .string (str last), .int .i64 (n : Nat)]⟩ :: (rr ++ rs))) w25 [[⟨bb, 53, [.int .i64 (R : Nat), .int .i64 (M : Nat), vr, vs, .string (str last), .int .i64 (n : Nat)]⟩], rr, rs, r5_, rs25] := hM14.add hm25
 have hn25 := fixedI_len (v := (R : Nat)) (n := 4)
 refine m_appE hM25 (i := 3) rfl hy5_ rfl rfl (hs25.rd hM25 (i := 4) rfl) (by first | omega | (simp; omega)) (by omega) fun v26 w26 r26 (hs26 : SlE byteV 5 v26 ((raw ++ startsF st) ++ (fixedI (R : Nat) 4)) r26) (hM26 : Mem _ _ w26 [_, _, _, r26, _]) => mv <| h24 _ _ <| seq fun _ h27 => mv <| mv <| nilchk rfl <| fa rfl <| m_ld (v := .int .i64 (n : Nat)) hM26 (i := 0) (j := 0) rfl rfl rfl rfl <| stp (v := .int .u64 (n : Nat)) (o_conv rfl (conv_u64 (by omega) (by omega))) <| m_call (Fixed_ok (n : Nat) 4 (by simp only [inK]; omega) (by simp only [inK]; omega) w26) rfl fun v28 w28 ⟨rs28, hs28, hm28⟩ => ?_
 have hM28 : Mem _ _ w28 [_, _, _, _, _, rs28] := hM26.add hm28
 have hn28 := fixedI_len (v := (n : Nat)) (n := 4)
 refine m_appE hM28 (i := 3) rfl hs26 rfl rfl (hs28.rd hM28 (i := 5) rfl) (by first | omega | (simp; omega)) (by omega) fun v29 w29 r29 (hs29 : SlE byteV 5 v29 (((raw ++ startsF st) ++ (fixedI (R : Nat) 4)) ++ (fixedI (n : Nat) 4)) r29) (hM29 : Mem _ _ w29 [_, _, _, r29, _, _]) => mv <| h27 _ _ <| seq fun _ h30 => mv <| h30 _ _ <| seq fun _ h31 => mv <| h31 _ _ <| seq fun _ h32 => seq fun _ h33 => m_call (codes_ok w29) rfl fun v34 w34 ⟨hr34, hu34⟩ => ?_
 have hM34 : Mem _ _ w34 [_, _, _, _, _, _] := hM29.pure hu34
 subst hr34
 refine mv <| h33 _ _ <| lp (n := fun _ _ => False) (ι := (Nat) × (Value) × (List UInt8) × (Int) × (List Ent)) (fun ⟨k, x8, bl, fl, re⟩ f w' => f 60 = .int .i64 (k : Nat) ∧ f 8 = x8 ∧ f 9 = .int .i64 fl ∧ f 0 = .pointer (some ⟨bb, 0, none⟩) ∧ f 5 = v29 ∧ f 59 = .agg ([.func (.func 51) [].toArray [].toArray, .func (.func 52) [].toArray [].toArray, .func (.func 53) [].toArray [].toArray, .func (.func 54) [].toArray [].toArray, .func (.func 55) [].toArray [].toArray, .func (.func 56) [].toArray [].toArray] : List Value).toArray ∧ Mem w (ids (⟨bb, 53, [.int .i64 (R : Nat), .int .i64 (M : Nat), vr, vs, .string (str last), .int .i64 (n : Nat)]⟩ :: (rr ++ rs))) w' [[⟨bb, 53, [.int .i64 (R : Nat), .int .i64 (M : Nat), vr, vs, .string (str last), .int .i64 (n : Nat)]⟩], rr, rs, r29, re] ∧ (k ≤ 3) ∧ (∀ w2, (∀ e ∈ r29, Own w2 e) → (∀ e ∈ re, Own w2 e) → RdE byteV w2 x8 bl) ∧ (bl = (bestF (rawB R raw st n) k).1) ∧ (fl = (bestF (rawB R raw st n) k).2)) (fun ⟨k, x8, bl, fl, re⟩ => 3 - k) (0, .slice none 0 0, [], (-1), []) ?_ ?_
 ·exact ⟨vi, rfl, vi, rfl, rfl, by first | rfl | simp [upd], hM34.keep (by simp), by omega, fun _ _ _ => Rd.nilE byteV _, rfl, rfl⟩
 rintro ⟨k, x8, bl, fl, re⟩ f w35 ⟨e35_60, e35_8, e35_9, e35_0, e35_5, e35_59, hM35, hk, hb, hbl, hfl⟩ K36 h36
 obtain ⟨frm, rfl⟩ := re6 e35_60 e35_8 e35_9 e35_0 e35_5 e35_59
 refine seq fun _ h37 => bn rfl rfl <| h37 _ _ <| seq fun _ h38 => cndP rfl (fun c39 => ?_) (fun c39 => ?_)
 ·refine h38 _ _ <| seq fun _ h40 => seq fun _ h41 => ?_
  rcases (by omega : k = 0 ∨ k = 1 ∨ k = 2) with rfl | rfl | rfl
  ·refine mv <| stp (v := .agg ([.func (.func 51) [].toArray [].toArray, .func (.func 52) [].toArray [].toArray] : List Value).toArray) (o_idxv rfl rfl (by omega) rfl) <| m_al hM35 fun b42 w43 (hM43 : Mem w (ids (⟨bb, 53, [.int .i64 (R : Nat), .int .i64 (M : Nat), vr, vs, .string (str last), .int .i64 (n : Nat)]⟩ :: (rr ++ rs))) w43 [[⟨bb, 53, [.int .i64 (R : Nat), .int .i64 (M : Nat), vr, vs, .string (str last), .int .i64 (n : Nat)]⟩], rr, rs, r29, re, [⟨b42, 64, [.nilFunc, .nilFunc]⟩]]) => mv <| m_stA (l := [.func (.func 51) [].toArray [].toArray, .func (.func 52) [].toArray [].toArray]) hM43 (i := 5) rfl rfl rfl rfl (by simp [oneCells, Value.oneCell', byteV]) (by simp) fun w44 (hM44 : Mem _ _ w44 [_, _, _, _, _, [⟨b42, 64, [.func (.func 51) [].toArray [].toArray, .func (.func 52) [].toArray [].toArray]⟩]]) => h41 _ _ <| seq fun _ h45 => fa rfl <| m_ld (v := .func (.func 51) [].toArray [].toArray) hM44 (i := 5) (j := 0) rfl rfl rfl rfl <| mv <| m_callv rfl (by kernel_rfl) (code1_ok v29 w44) rfl fun v46 w46 ⟨hr46, hu46⟩ => ?_
   have hM46 : Mem _ _ w46 [_, _, _, _, _, _] := hM44.pure hu46
   subst hr46
   refine mv <| ext rfl rfl <| ext rfl rfl <| mv <| mv <| h45 _ _ <| seq fun _ h47 => mv <| stp (v := .bool true) (o_bin rfl rfl v_eqT) <| mv <| splitT rfl <| gmv rfl <| stg rfl (v := .int .i64 ((((raw ++ startsF st) ++ (fixedI (R : Nat) 4)) ++ (fixedI (n : Nat) 4)).length : Nat)) (o_lenR (hs29.rd hM46 (i := 3) rfl) rfl rfl) <| stg rfl (v := .int .i64 (64 * ((((raw ++ startsF st) ++ (fixedI (R : Nat) 4)) ++ (fixedI (n : Nat) 4)).length : Nat))) (o_bin rfl rfl (v_mul64 (by omega))) ?_
   refine gmv rfl <| stg rfl (v := .int .i64 ((((raw ++ startsF st) ++ (fixedI (R : Nat) 4)) ++ (fixedI (n : Nat) 4)).length : Nat)) (o_lenR (hs29.rd hM46 (i := 3) rfl) rfl rfl) <| gbn rfl rfl rfl <| pkT rfl <| mv <| splitP rfl (fun c48 => ?_) (fun c48 => (c48 (by omega)).elim)
   refine gmv rfl <| gbn rfl rfl rfl <| gmv rfl <| splitP rfl (fun c49 => ?_) (fun c49 => (c49 (by rw [hfl]; show (-1 : Int) < 0; omega)).elim)
   refine gx rfl <| gx rfl <| gx rfl <| gx rfl <| gx rfl <| gpkT rfl rfl <| pkT rfl <| h47 _ _ <| cndT rfl <| mv <| mv <| mv <| mv <| h40 _ _ ?_
   refine stp (v := .int .i64 ((0 : Nat) + 1)) (o_bin rfl rfl (v_add64 (by omega))) <| mv <| h36 (0 + 1, v29, (rawB R raw st n), 0, re) _ _ ⟨vi, rfl, vi, rfl, rfl, by first | rfl | simp [upd], hM46.keep (by simp), by omega, fun w2 h1 _ => (hs29).rdOwn h1, by rw [best_0], by rw [best_0]⟩ (by (try dsimp only); omega)
  ·refine mv <| stp (v := .agg ([.func (.func 53) [].toArray [].toArray, .func (.func 54) [].toArray [].toArray] : List Value).toArray) (o_idxv rfl rfl (by omega) rfl) <| m_al hM35 fun b50 w51 (hM51 : Mem w (ids (⟨bb, 53, [.int .i64 (R : Nat), .int .i64 (M : Nat), vr, vs, .string (str last), .int .i64 (n : Nat)]⟩ :: (rr ++ rs))) w51 [[⟨bb, 53, [.int .i64 (R : Nat), .int .i64 (M : Nat), vr, vs, .string (str last), .int .i64 (n : Nat)]⟩], rr, rs, r29, re, [⟨b50, 64, [.nilFunc, .nilFunc]⟩]]) => mv <| m_stA (l := [.func (.func 53) [].toArray [].toArray, .func (.func 54) [].toArray [].toArray]) hM51 (i := 5) rfl rfl rfl rfl (by simp [oneCells, Value.oneCell', byteV]) (by simp) fun w52 (hM52 : Mem _ _ w52 [_, _, _, _, _, [⟨b50, 64, [.func (.func 53) [].toArray [].toArray, .func (.func 54) [].toArray [].toArray]⟩]]) => h41 _ _ <| seq fun _ h53 => fa rfl <| m_ld (v := .func (.func 53) [].toArray [].toArray) hM52 (i := 5) (j := 0) rfl rfl rfl rfl <| mv <| m_callv rfl (by kernel_rfl) (Lz.Encode_ok _ (rawB R raw st n) w52 (hs29.rd hM52 (i := 3) rfl) (by omega)) rfl fun v54 w54 ⟨y54, rs54, hr54, hs54, hm54⟩ => ?_
   have hM54 : Mem _ _ w54 [_, _, _, _, _, _, rs54] := hM52.add hm54
   subst hr54
   refine mv <| ext rfl rfl <| ext rfl rfl <| mv <| mv <| h53 _ _ <| seq fun _ h55 => mv <| bn rfl rfl <| mv <| splitP rfl (fun c56 => ?_) (fun c56 => (c56 (by omega)).elim)
   refine gmv rfl <| stg rfl (v := .int .i64 (((Lz.encF (rawB R raw st n)).1).length : Nat)) (o_lenR (hs54.rd hM54 (i := 6) rfl) rfl rfl) <| stg rfl (v := .int .i64 (64 * (((Lz.encF (rawB R raw st n)).1).length : Nat))) (o_bin rfl rfl (v_mul64 (by omega))) <| gmv rfl <| stg rfl (v := .int .i64 ((((raw ++ startsF st) ++ (fixedI (R : Nat) 4)) ++ (fixedI (n : Nat) 4)).length : Nat)) (o_lenR (hs29.rd hM54 (i := 3) rfl) rfl rfl) <| gbn rfl rfl rfl <| pkT rfl <| mv <| splitP rfl (fun c57 => ?_) (fun c57 => ?_)
   ·refine gmv rfl <| gbn rfl rfl rfl <| gmv rfl <| splitP rfl (fun c58 => absurd c58 (by have := best_fl (T := (rawB R raw st n)) 1 (by omega); omega)) (fun c58 => gmv rfl <| stg rfl (v := .int .i64 (((Lz.encF (rawB R raw st n)).1).length : Nat)) (o_lenR (hs54.rd hM54 (i := 6) rfl) rfl rfl) <| gmv rfl <| stg rfl (v := .int .i64 (bl.length : Nat)) (o_lenR (hb _ (hM54.res (i := 3) rfl).1 (hM54.res (i := 4) rfl).1) rfl rfl) <| gbn rfl rfl rfl <| gpkF rfl rfl <| pkT rfl <| h55 _ _ <| cndP rfl (fun c59 => ?_) (fun c59 => ?_))
    ·refine mv <| mv <| mv <| mv <| h40 _ _ <| stp (v := .int .i64 ((1 : Nat) + 1)) (o_bin rfl rfl (v_add64 (by omega))) <| mv <| h36 (1 + 1, y54, (Lz.encF (rawB R raw st n)).1, 1, re ++ rs54) _ _ ⟨vi, rfl, vi, rfl, rfl, by first | rfl | simp [upd], hM54.keep (by simp), by omega, fun w2 _ h2 => (hs54).rdOwn fun e he => h2 e (List.mem_append_right _ he), (best_yes1 (k := 1) hbl (by show _ ≤ 64 * (Lz.encF (rawB R raw st n)).1.length; omega) (by show (Lz.encF (rawB R raw st n)).1.length < _; omega)).1, (best_yes1 (k := 1) hbl (by show _ ≤ 64 * (Lz.encF (rawB R raw st n)).1.length; omega) (by show (Lz.encF (rawB R raw st n)).1.length < _; omega)).2⟩ (by (try dsimp only); omega)
    refine h40 _ _ <| stp (v := .int .i64 ((1 : Nat) + 1)) (o_bin rfl rfl (v_add64 (by omega))) <| mv <| h36 (1 + 1, x8, bl, fl, re) _ _ ⟨vi, rfl, vi, rfl, rfl, by first | rfl | simp [upd], hM54.keep (by simp), by omega, hb, (best_no1 (k := 1) (by omega) hbl hfl (by show ¬ (_ ≤ 64 * (Lz.encF (rawB R raw st n)).1.length ∧ (Lz.encF (rawB R raw st n)).1.length < _); omega)).1, (best_no1 (k := 1) (by omega) hbl hfl (by show ¬ (_ ≤ 64 * (Lz.encF (rawB R raw st n)).1.length ∧ (Lz.encF (rawB R raw st n)).1.length < _); omega)).2⟩ (by (try dsimp only); omega)
   refine gx rfl <| gx rfl <| gx rfl <| splitU rfl <| gnou rfl <| gnou rfl <| gnou rfl <| gnou rfl <| gnou rfl <| gx rfl <| pkF rfl <| h55 _ _ <| cndF rfl <| h40 _ _ <| stp (v := .int .i64 ((1 : Nat) + 1)) (o_bin rfl rfl (v_add64 (by omega))) <| mv <| h36 (1 + 1, x8, bl, fl, re) _ _ ⟨vi, rfl, vi, rfl, rfl, by first | rfl | simp [upd], hM54.keep (by simp), by omega, hb, (best_no1 (k := 1) (by omega) hbl hfl (by show ¬ (_ ≤ 64 * (Lz.encF (rawB R raw st n)).1.length ∧ (Lz.encF (rawB R raw st n)).1.length < _); omega)).1, (best_no1 (k := 1) (by omega) hbl hfl (by show ¬ (_ ≤ 64 * (Lz.encF (rawB R raw st n)).1.length ∧ (Lz.encF (rawB R raw st n)).1.length < _); omega)).2⟩ (by (try dsimp only); omega)
  refine mv <| stp (v := .agg ([.func (.func 55) [].toArray [].toArray, .func (.func 56) [].toArray [].toArray] : List Value).toArray) (o_idxv rfl rfl (by omega) rfl) <| m_al hM35 fun b60 w61 (hM61 : Mem w (ids (⟨bb, 53, [.int .i64 (R : Nat), .int .i64 (M : Nat), vr, vs, .string (str last), .int .i64 (n : Nat)]⟩ :: (rr ++ rs))) w61 [[⟨bb, 53, [.int .i64 (R : Nat), .int .i64 (M : Nat), vr, vs, .string (str last), .int .i64 (n : Nat)]⟩], rr, rs, r29, re, [⟨b60, 64, [.nilFunc, .nilFunc]⟩]]) => mv <| m_stA (l := [.func (.func 55) [].toArray [].toArray, .func (.func 56) [].toArray [].toArray]) hM61 (i := 5) rfl rfl rfl rfl (by simp [oneCells, Value.oneCell', byteV]) (by simp) fun w62 (hM62 : Mem _ _ w62 [_, _, _, _, _, [⟨b60, 64, [.func (.func 55) [].toArray [].toArray, .func (.func 56) [].toArray [].toArray]⟩]]) => h41 _ _ <| seq fun _ h63 => fa rfl <| m_ld (v := .func (.func 55) [].toArray [].toArray) hM62 (i := 5) (j := 0) rfl rfl rfl rfl <| mv <| m_callv rfl (by kernel_rfl) (Hf.Encode_ok _ (rawB R raw st n) w62 (hs29.rd hM62 (i := 3) rfl) (by omega)) rfl fun v64 w64 ⟨y64, rs64, hr64, hs64, hm64⟩ => ?_
  have hM64 : Mem _ _ w64 [_, _, _, _, _, _, rs64] := hM62.add hm64
  subst hr64
  refine mv <| ext rfl rfl <| ext rfl rfl <| mv <| mv <| h63 _ _ <| seq fun _ h65 => mv <| bn rfl rfl <| mv <| splitP rfl (fun c66 => ?_) (fun c66 => (c66 (by omega)).elim)
  refine gmv rfl <| stg rfl (v := .int .i64 (((Hf.encR (rawB R raw st n)).1).length : Nat)) (o_lenR (hs64.rd hM64 (i := 6) rfl) rfl rfl) <| stg rfl (v := .int .i64 (64 * (((Hf.encR (rawB R raw st n)).1).length : Nat))) (o_bin rfl rfl (v_mul64 (by omega))) <| gmv rfl <| stg rfl (v := .int .i64 ((((raw ++ startsF st) ++ (fixedI (R : Nat) 4)) ++ (fixedI (n : Nat) 4)).length : Nat)) (o_lenR (hs29.rd hM64 (i := 3) rfl) rfl rfl) <| gbn rfl rfl rfl <| pkT rfl <| mv <| splitP rfl (fun c67 => ?_) (fun c67 => ?_)
  ·refine gmv rfl <| gbn rfl rfl rfl <| gmv rfl <| splitP rfl (fun c68 => absurd c68 (by have := best_fl (T := (rawB R raw st n)) 2 (by omega); omega)) (fun c68 => gmv rfl <| stg rfl (v := .int .i64 (((Hf.encR (rawB R raw st n)).1).length : Nat)) (o_lenR (hs64.rd hM64 (i := 6) rfl) rfl rfl) <| gmv rfl <| stg rfl (v := .int .i64 (bl.length : Nat)) (o_lenR (hb _ (hM64.res (i := 3) rfl).1 (hM64.res (i := 4) rfl).1) rfl rfl) <| gbn rfl rfl rfl <| gpkF rfl rfl <| pkT rfl <| h65 _ _ <| cndP rfl (fun c69 => ?_) (fun c69 => ?_))
   ·refine mv <| mv <| mv <| mv <| h40 _ _ <| stp (v := .int .i64 ((2 : Nat) + 1)) (o_bin rfl rfl (v_add64 (by omega))) <| mv <| h36 (2 + 1, y64, (Hf.encR (rawB R raw st n)).1, 2, re ++ rs64) _ _ ⟨vi, rfl, vi, rfl, rfl, by first | rfl | simp [upd], hM64.keep (by simp), by omega, fun w2 _ h2 => (hs64).rdOwn fun e he => h2 e (List.mem_append_right _ he), (best_yes1 (k := 2) hbl (by show _ ≤ 64 * (Hf.encR (rawB R raw st n)).1.length; omega) (by show (Hf.encR (rawB R raw st n)).1.length < _; omega)).1, (best_yes1 (k := 2) hbl (by show _ ≤ 64 * (Hf.encR (rawB R raw st n)).1.length; omega) (by show (Hf.encR (rawB R raw st n)).1.length < _; omega)).2⟩ (by (try dsimp only); omega)
   refine h40 _ _ <| stp (v := .int .i64 ((2 : Nat) + 1)) (o_bin rfl rfl (v_add64 (by omega))) <| mv <| h36 (2 + 1, x8, bl, fl, re) _ _ ⟨vi, rfl, vi, rfl, rfl, by first | rfl | simp [upd], hM64.keep (by simp), by omega, hb, (best_no1 (k := 2) (by omega) hbl hfl (by show ¬ (_ ≤ 64 * (Hf.encR (rawB R raw st n)).1.length ∧ (Hf.encR (rawB R raw st n)).1.length < _); omega)).1, (best_no1 (k := 2) (by omega) hbl hfl (by show ¬ (_ ≤ 64 * (Hf.encR (rawB R raw st n)).1.length ∧ (Hf.encR (rawB R raw st n)).1.length < _); omega)).2⟩ (by (try dsimp only); omega)
  refine gx rfl <| gx rfl <| gx rfl <| splitU rfl <| gnou rfl <| gnou rfl <| gnou rfl <| gnou rfl <| gnou rfl <| gx rfl <| pkF rfl <| h65 _ _ <| cndF rfl <| h40 _ _ <| stp (v := .int .i64 ((2 : Nat) + 1)) (o_bin rfl rfl (v_add64 (by omega))) <| mv <| h36 (2 + 1, x8, bl, fl, re) _ _ ⟨vi, rfl, vi, rfl, rfl, by first | rfl | simp [upd], hM64.keep (by simp), by omega, hb, (best_no1 (k := 2) (by omega) hbl hfl (by show ¬ (_ ≤ 64 * (Hf.encR (rawB R raw st n)).1.length ∧ (Hf.encR (rawB R raw st n)).1.length < _); omega)).1, (best_no1 (k := 2) (by omega) hbl hfl (by show ¬ (_ ≤ 64 * (Hf.encR (rawB R raw st n)).1.length ∧ (Hf.encR (rawB R raw st n)).1.length < _); omega)).2⟩ (by (try dsimp only); omega)
 refine h32 _ _ <| seq fun _ h70 => ?_
 obtain rfl : k = 3 := by omega
 have hbn := best_len hl 3
 rw [← hbl] at hbn
 have hf0 := best_fl (T := (rawB R raw st n)) 3 (by omega)
 have hf1 := best_lt (T := (rawB R raw st n)) 3
 rw [← hfl] at hf0 hf1
 refine m_bs hM35 rfl fun b71 w72 (hM72 : Mem w (ids (⟨bb, 53, [.int .i64 (R : Nat), .int .i64 (M : Nat), vr, vs, .string (str last), .int .i64 (n : Nat)]⟩ :: (rr ++ rs))) w72 [[⟨bb, 53, [.int .i64 (R : Nat), .int .i64 (M : Nat), vr, vs, .string (str last), .int .i64 (n : Nat)]⟩], rr, rs, r29, re, [⟨b71, 5, []⟩]]) => mv ?_
 have hs73 : SlE byteV 5 (.slice (some ⟨b71, 0, none⟩) 0 0) [] [⟨b71, 5, []⟩] := SlE.lit (l := []) rfl
 refine m_appE hM72 (i := 5) rfl hs73 rfl rfl (hb _ (hM72.res (i := 3) rfl).1 (hM72.res (i := 4) rfl).1) (by first | omega | (simp; omega)) (by omega) fun v74 w74 r74 (hs74 : SlE byteV 5 v74 (bl) r74) (hM74 : Mem _ _ w74 [_, _, _, _, _, r74]) => mv <| stp (v := .int .u8 (fl % 256)) (o_conv rfl (v_u8 _)) <| m_app1 (E := byteV) (q := (fl % 256).toNat.toUInt8) hM74 (i := 5) rfl hs74 rfl (by simp) (byteV_of (by omega) (by omega)) (by omega) (by omega) fun v75 w75 r75 u75 (hs75 : SlE byteV 5 v75 (bl ++ [(fl % 256).toNat.toUInt8]) r75) (hM75 : Mem _ _ w75 [_, _, _, _, _, r75]) => m_call (pSeal_ok _ (bl ++ [(fl % 256).toNat.toUInt8]) w75 (hs75.rd hM75 (i := 5) rfl) (by first | omega | (simp only [List.length_append, List.length_singleton]; omega))) rfl fun v76 w76 ⟨rs76, hs76, hm76⟩ => ?_
 have hM76 : Mem _ _ w76 [_, _, _, _, _, _, rs76] := hM75.add hm76
 have hsl76 := seal_len (bl ++ [(fl % 256).toNat.toUInt8])
 refine mv <| h70 _ _ <| seq fun _ h77 => ?_
 intro wd e1 e2 e3 e4
 have hd := Upd.same e1 e2 e3 e4 []
 have hM78 := hM76.pure hd
 clear e1 e2 e3 e4
 refine ⟨(some []), ?_⟩
 show vd _ _ _ _ _ _ _
 refine dmv <| dmv <| dq (v := .pointer (some ⟨bb, 0, none⟩)) (o_nilchk rfl rfl) <| dfa rfl <| dmv <| dq (v := .pointer (some ⟨bb, 0, none⟩)) (o_nilchk rfl rfl) <| dfa rfl ?_
 show _ ∧ _
 refine ⟨?_, ?_⟩
 ·show vd _ _ _ _ _ _ _
  refine dl (m_ld (v := .int .i64 (R : Nat)) hM78 (i := 0) (j := 0) rfl rfl rfl rfl <| ⟨(fun b hb => by cases hb), dl (m_ld (v := .int .i64 (M : Nat)) hM78 (i := 0) (j := 0) rfl rfl rfl rfl <| ⟨(fun b hb => by cases hb), dq (v := .agg ([.int .i64 (R : Nat), .int .i64 (M : Nat), .slice none 0 0, .slice none 0 0, .string (str ([])), .int .i64 0] : List Value).toArray) (o_bld rfl rfl) <| dq (v := .pointer (some ⟨bb, 0, none⟩)) (o_nilchk rfl rfl) <| dl (m_stA (l := [.int .i64 (R : Nat), .int .i64 (M : Nat), .slice none 0 0, .slice none 0 0, .string (str ([])), .int .i64 0]) hM78 (i := 0) rfl rfl rfl rfl (by simp [oneCells, Value.oneCell', byteV]) (by simp) fun w79 (hM79 : Mem w (ids (⟨bb, 53, [.int .i64 (R : Nat), .int .i64 (M : Nat), vr, vs, .string (str last), .int .i64 (n : Nat)]⟩ :: (rr ++ rs))) w79 [[⟨bb, 53, [.int .i64 (R : Nat), .int .i64 (M : Nat), .slice none 0 0, .slice none 0 0, .string (str ([])), .int .i64 0]⟩], rr, rs, r29, re, r75, rs76]) => ⟨(fun b hb => by cases hb), h77 _ _ <| seq fun _ h80 => mv <| mv <| stp (v := .int .i64 ((((raw ++ startsF st) ++ (fixedI (R : Nat) 4)) ++ (fixedI (n : Nat) 4)).length : Nat)) (o_lenR (hs29.rd hM79 (i := 3) rfl) rfl rfl) <| mv ?_⟩)⟩)⟩)
  refine mv <| mv <| h80 _ _ <| ⟨(.tuple [v76, .int .i64 ((((raw ++ startsF st) ++ (fixedI (R : Nat) 4)) ++ (fixedI (n : Nat) 4)).length : Nat), .int .i64 0].toArray), rfl, ?_⟩
  have hfm : fl % 256 = fl := by omega
  rw [hfm, hbl, hfl] at hs76
  exact ⟨_, _, _, rfl, hs76, ⟨_, _, [], [], rfl, Sl.nil 1 5, Sl.nil 1 3⟩, hM79.keep (by simp; repeat first | exact List.Sublist.refl _ | refine List.Sublist.trans ?_ (List.sublist_append_right _ _))⟩
 show vd _ _ _ _ _ _ _
 refine dl (m_ld (v := .int .i64 (M : Nat)) hM78 (i := 0) (j := 0) rfl rfl rfl rfl <| ⟨(fun b hb => by cases hb), dl (m_ld (v := .int .i64 (R : Nat)) hM78 (i := 0) (j := 0) rfl rfl rfl rfl <| ⟨(fun b hb => by cases hb), dq (v := .agg ([.int .i64 (R : Nat), .int .i64 (M : Nat), .slice none 0 0, .slice none 0 0, .string (str ([])), .int .i64 0] : List Value).toArray) (o_bld rfl rfl) <| dq (v := .pointer (some ⟨bb, 0, none⟩)) (o_nilchk rfl rfl) <| dl (m_stA (l := [.int .i64 (R : Nat), .int .i64 (M : Nat), .slice none 0 0, .slice none 0 0, .string (str ([])), .int .i64 0]) hM78 (i := 0) rfl rfl rfl rfl (by simp [oneCells, Value.oneCell', byteV]) (by simp) fun w81 (hM81 : Mem w (ids (⟨bb, 53, [.int .i64 (R : Nat), .int .i64 (M : Nat), vr, vs, .string (str last), .int .i64 (n : Nat)]⟩ :: (rr ++ rs))) w81 [[⟨bb, 53, [.int .i64 (R : Nat), .int .i64 (M : Nat), .slice none 0 0, .slice none 0 0, .string (str ([])), .int .i64 0]⟩], rr, rs, r29, re, r75, rs76]) => ⟨(fun b hb => by cases hb), h77 _ _ <| seq fun _ h82 => mv <| mv <| stp (v := .int .i64 ((((raw ++ startsF st) ++ (fixedI (R : Nat) 4)) ++ (fixedI (n : Nat) 4)).length : Nat)) (o_lenR (hs29.rd hM81 (i := 3) rfl) rfl rfl) <| mv <| mv <| mv <| h82 _ _ <| ⟨(.tuple [v76, .int .i64 ((((raw ++ startsF st) ++ (fixedI (R : Nat) 4)) ++ (fixedI (n : Nat) 4)).length : Nat), .int .i64 0].toArray), rfl, ?_⟩⟩)⟩)⟩)
 have hfm : fl % 256 = fl := by omega
 rw [hfm, hbl, hfl] at hs76
 exact ⟨_, _, _, rfl, hs76, ⟨_, _, [], [], rfl, Sl.nil 1 5, Sl.nil 1 3⟩, hM81.keep (by simp; repeat first | exact List.Sublist.refl _ | refine List.Sublist.trans ?_ (List.sublist_append_right _ _))⟩
end Go.Proofs.YtifnmbmijljhfaaGreat.E
namespace Go.Proofs.YtifnmbmijljhfaaGreat.E
open Go
abbrev Pr2 := List UInt8 × List UInt8
def pairC (x : Pr2) : List Value := [.string (str x.1), .string (str x.2)]
instance : Enc pairC 2 := ⟨fun _ => rfl, by omega, fun c => by intro v hv; simp only [pairC, List.mem_cons, List.not_mem_nil, or_false] at hv; rcases hv with rfl | rfl <;> rfl⟩
end Go.Proofs.YtifnmbmijljhfaaGreat.E
namespace Go.Proofs.YtifnmbmijljhfaaGreat.E
open Go
structure Bd where
 raw : List UInt8
 st : List Int
 last : List UInt8
 n : Nat
def Bd.z : Bd := ⟨[], [], [], 0⟩
def Bd.add (R : Nat) (s : Bd) (x : Pr2) : Bd := ⟨s.raw ++ wrB (ahd R s.n s.last) x.1 x.2, if s.n % R = 0 then s.st ++ [(s.raw.length : Int)] else s.st, x.1, s.n + 1⟩
def bldF (R : Nat) (es : List Pr2) : Bd := es.foldl (Bd.add R) .z
def okB (es : List Pr2) : Prop := ∀ i, i < es.length → (es.getD i ([], [])).1.length ≤ 1024 ∧ (es.getD i ([], [])).2.length ≤ 1024 ∧ (0 < i → 0 ≤ cmp (es.getD i ([], [])).1 (es.getD (i - 1) ([], [])).1)
def Blk (R : Nat) (es : List Pr2) (raw : List UInt8) : Prop := (1 ≤ R ∧ R ≤ 64) ∧ 0 < es.length ∧ okB es ∧ raw = rawB R (bldF R es).raw (bldF R es).st es.length
def lastK (es : List Pr2) : List UInt8 := (es.getD (es.length - 1) ([], [])).1
theorem bld_snoc (R : Nat) (es : List Pr2) (x : Pr2) : bldF R (es ++ [x]) = (bldF R es).add R x := by unfold bldF; rw [List.foldl_append]; rfl
theorem getD_snoc {α : Type} (z : α) (es : List α) (x : α) : (es ++ [x]).getD es.length z = x := by simp [List.getD_eq_getElem?_getD]
theorem getD_lt {α : Type} (z : α) (es : List α) (x : α) {i : Nat} (h : i < es.length) : (es ++ [x]).getD i z = es.getD i z := by simp [List.getD_eq_getElem?_getD, List.getElem?_append_left h]
theorem rev_ind {P : List Pr2 → Prop} (h0 : P []) (h1 : ∀ es x, P es → P (es ++ [x])) : ∀ es, P es := by
 intro es
 rw [← List.reverse_reverse es]
 induction es.reverse with
 | nil => exact h0
 | cons a r ih => rw [List.reverse_cons]; exact h1 _ _ ih
theorem bld_n (R : Nat) : ∀ es, (bldF R es).n = es.length := rev_ind rfl fun es x ih => by rw [bld_snoc]; show (bldF R es).n + 1 = _; rw [ih, List.length_append]; rfl
theorem bld_last (R : Nat) : ∀ es, (bldF R es).last = lastK es := rev_ind rfl fun es x _ => by
 rw [bld_snoc]
 show x.1 = _
 unfold lastK
 rw [List.length_append, List.length_singleton, Nat.add_sub_cancel, getD_snoc]
def cdiv (R n : Nat) : Nat := (n + R - 1) / R
theorem cdiv_succ {R n : Nat} (hR : 1 ≤ R) : cdiv R (n + 1) = if n % R = 0 then cdiv R n + 1 else cdiv R n := by
 unfold cdiv
 have hd := Nat.div_add_mod n R
 have hm := Nat.mod_lt n (show 0 < R by omega)
 split
 ·rename_i h
  have e1 : n = R * (n / R) := by omega
  have h1 : (n + 1 + R - 1) / R = n / R + 1 := by
   rw [show n + 1 + R - 1 = n + R by omega, Nat.add_div_right _ (by omega)]
  have h2 : (n + R - 1) / R = n / R := by
   rw [show n + R - 1 = R - 1 + R * (n / R) by omega, Nat.add_mul_div_left _ _ (by omega), Nat.div_eq_of_lt (by omega)]; omega
  rw [h1, h2]
 rename_i h
 have h1 : (n + 1 + R - 1) / R = n / R + 1 := by
  rw [show n + 1 + R - 1 = n + R by omega, Nat.add_div_right _ (by omega)]
 have h2 : (n + R - 1) / R = n / R + 1 := by
  rw [show n + R - 1 = (n % R - 1) + R * (n / R + 1) by rw [Nat.mul_add]; omega, Nat.add_mul_div_left _ _ (by omega), Nat.div_eq_of_lt (by omega)]; omega
 rw [h1, h2]
theorem cdiv_0 {R : Nat} (hR : 1 ≤ R) : cdiv R 0 = 0 := by unfold cdiv; exact Nat.div_eq_of_lt (by omega)
theorem bld_st (R : Nat) (hR : 1 ≤ R) : ∀ es, (bldF R es).st.length = cdiv R es.length := rev_ind (by rw [show ([] : List Pr2).length = 0 from rfl, cdiv_0 hR]; rfl) fun es x ih => by
 rw [bld_snoc, List.length_append, List.length_singleton, cdiv_succ hR]
 show (if (bldF R es).n % R = 0 then _ else _ : List Int).length = _
 rw [bld_n]
 split
 ·rw [List.length_append, ih]; rfl
 exact ih
theorem bld_raw {R : Nat} : ∀ es, okB es → 3 * es.length ≤ (bldF R es).raw.length := rev_ind (fun _ => Nat.zero_le _) fun es x ih h => by
 have ho : okB es := fun i hi => by
  have := h i (by rw [List.length_append]; omega)
  rw [getD_lt _ _ _ hi] at this
  refine ⟨this.1, this.2.1, fun h0 => ?_⟩
  have q := this.2.2 h0
  rwa [getD_lt _ _ _ (by omega)] at q
 have hx := h es.length (by simp)
 rw [getD_snoc] at hx
 have := (wrB_len (a := ahd R (bldF R es).n (bldF R es).last) hx.1 hx.2.1).2
 have := ih ho
 rw [bld_snoc]
 show _ ≤ ((bldF R es).raw ++ _).length
 rw [List.length_append, List.length_append, List.length_singleton]; omega
theorem bld_ext (R : Nat) (es : List Pr2) : ∀ l, ∃ r s, (bldF R (es ++ l)).raw = (bldF R es).raw ++ r ∧ (bldF R (es ++ l)).st = (bldF R es).st ++ s := rev_ind ⟨[], [], by simp, by simp⟩ fun l x ⟨r, s, h1, h2⟩ => by
 rw [← List.append_assoc, bld_snoc]
 refine ⟨r ++ wrB (ahd R (bldF R (es ++ l)).n (bldF R (es ++ l)).last) x.1 x.2, if (bldF R (es ++ l)).n % R = 0 then s ++ [((bldF R (es ++ l)).raw.length : Int)] else s, ?_, ?_⟩
 ·show (bldF R (es ++ l)).raw ++ _ = _
  rw [← List.append_assoc, ← h1]
 show (if _ then (bldF R (es ++ l)).st ++ _ else (bldF R (es ++ l)).st) = _
 split
 ·rw [h2, List.append_assoc]
 exact h2
end Go.Proofs.YtifnmbmijljhfaaGreat.E
namespace Go.Proofs.YtifnmbmijljhfaaGreat.E
open Go
theorem add_fit {R M : Nat} {tk : List Pr2} {k v : List UInt8} (hR : 1 ≤ R ∧ R ≤ 64) (hM : M ≤ 65536) (ho : okB tk) (h : addE R M (bldF R tk).raw (bldF R tk).last (bldF R tk).n k v = 0) : okB (tk ++ [(k, v)]) ∧ szB R (bldF R (tk ++ [(k, v)])).raw.length (tk.length + 1) ≤ 65536 := by
 have hn := bld_n R tk
 have hla := bld_last R tk
 unfold addE at h
 split at h
 ·omega
 rename_i c1
 split at h
 ·omega
 rename_i c2
 split at h
 ·omega
 rename_i c3
 have hraw : (bldF R (tk ++ [(k, v)])).raw = (bldF R tk).raw ++ wrB (ahd R (bldF R tk).n (bldF R tk).last) k v := by rw [bld_snoc]; rfl
 constructor
 ·intro j hj
  rw [List.length_append, List.length_singleton] at hj
  by_cases hje : j = tk.length
  ·subst hje
   rw [getD_snoc]
   refine ⟨by dsimp only; omega, by dsimp only; omega, fun h0 => ?_⟩
   rw [getD_lt _ _ _ (by omega)]
   show 0 ≤ cmp k (tk.getD (tk.length - 1) ([], [])).1
   have : (tk.getD (tk.length - 1) ([], [])).1 = (bldF R tk).last := hla.symm
   rw [this]; omega
  have := ho j (by omega)
  rw [getD_lt _ _ _ (by omega)]
  refine ⟨this.1, this.2.1, fun h0 => ?_⟩
  rw [getD_lt _ _ _ (by omega)]; exact this.2.2 h0
 have hw := (wrB_len (a := ahd R (bldF R tk).n (bldF R tk).last) (k := k) (v := v) (by omega) (by omega)).1
 by_cases h0 : 0 < tk.length
 ·rw [hraw, List.length_append, ← hn]; omega
 have ht : tk = [] := List.eq_nil_of_length_eq_zero (by omega)
 subst ht
 rw [hraw, List.length_append]
 show szB R (0 + _) 1 ≤ _
 unfold szB
 rw [if_neg (by omega), show (1 + R - 1) / R = 1 by rw [show 1 + R - 1 = R by omega]; exact Nat.div_self (by omega)]
 omega
theorem raw_sz {R : Nat} {tk : List Pr2} (hR : 1 ≤ R) (h0 : 0 < tk.length) : (rawB R (bldF R tk).raw (bldF R tk).st tk.length).length = szB R (bldF R tk).raw.length tk.length := by
 have hst := bld_st R hR tk
 unfold rawB szB
 rw [List.length_append, List.length_append, List.length_append, fix4_len, fix4_len, starts_len, hst, if_neg (by omega)]
 unfold cdiv
 omega
theorem st_bd (R : Nat) : ∀ tk, ∀ j, j < (bldF R tk).st.length → 0 ≤ (bldF R tk).st.getD j 0 ∧ (bldF R tk).st.getD j 0 ≤ ((bldF R tk).raw.length : Nat) := rev_ind (fun j hj => absurd hj (Nat.not_lt_zero _)) fun tk x ih j hj => by
 rw [bld_snoc] at hj ⊢
 have hr : ((bldF R tk).add R x).raw.length = (bldF R tk).raw.length + (wrB (ahd R (bldF R tk).n (bldF R tk).last) x.1 x.2).length := by show ((bldF R tk).raw ++ _).length = _; rw [List.length_append]
 rw [hr]
 have key : ((bldF R tk).add R x).st = if (bldF R tk).n % R = 0 then (bldF R tk).st ++ [((bldF R tk).raw.length : Int)] else (bldF R tk).st := rfl
 rw [key] at hj ⊢
 split at hj
 ·rename_i c
  rw [if_pos c]
  rw [List.length_append, List.length_singleton] at hj
  by_cases hje : j = (bldF R tk).st.length
  ·subst hje; rw [getD_snoc]; omega
  rw [getD_lt _ _ _ (by omega)]; have := ih j (by omega); omega
 rename_i c
 rw [if_neg c]; have := ih j hj; omega
end Go.Proofs.YtifnmbmijljhfaaGreat.E
namespace Go.Proofs.YtifnmbmijljhfaaGreat.E
open Go
def OKT (R : Nat) (tk : List Pr2) : Prop := okB tk ∧ (0 < tk.length → szB R (bldF R tk).raw.length tk.length ≤ 65536)
def BldT (bb R M : Nat) (tk : List Pr2) (r : List Ent) : Prop := BldS bb R M (bldF R tk).raw (bldF R tk).st (bldF R tk).last (bldF R tk).n r
def rawT (R : Nat) (tk : List Pr2) : List UInt8 := rawB R (bldF R tk).raw (bldF R tk).st tk.length
def tileT (R : Nat) (tk : List Pr2) : List UInt8 := sealF ((bestF (rawT R tk) 3).1 ++ [(bestF (rawT R tk) 3).2.toNat.toUInt8])
theorem OKT.nil (R : Nat) : OKT R [] := ⟨fun i hi => absurd hi (Nat.not_lt_zero _), fun h => absurd h (Nat.lt_irrefl _)⟩
theorem OKT.bd {R : Nat} {tk : List Pr2} (hR : 1 ≤ R) (h : OKT R tk) : (bldF R tk).raw.length ≤ 65536 ∧ (bldF R tk).n ≤ 65536 ∧ (bldF R tk).st.length ≤ 65536 ∧ (bldF R tk).last.length ≤ 1024 := by
 have hst := bld_st R hR tk
 have hn := bld_n R tk
 have hr := bld_raw (R := R) tk h.1
 rw [bld_last]
 by_cases h0 : 0 < tk.length
 ·have hs := h.2 h0
  have hz := raw_sz hR h0
  unfold rawB at hz
  rw [List.length_append, List.length_append, List.length_append, fix4_len, fix4_len, starts_len] at hz
  exact ⟨by omega, by omega, by omega, (h.1 _ (by omega)).1⟩
 have ht : tk = [] := List.eq_nil_of_length_eq_zero (by omega)
 subst ht
 exact ⟨Nat.zero_le _, Nat.zero_le _, Nat.zero_le _, Nat.zero_le _⟩
theorem OKT.keyl {R : Nat} {tk : List Pr2} (h : OKT R tk) (j : Nat) : (tk.getD j ([], [])).1.length ≤ 1024 := by
 by_cases hj : j < tk.length
 ·exact (h.1 j hj).1
 rw [List.getD_eq_getElem?_getD, List.getElem?_eq_none (by omega)]; exact Nat.zero_le _
theorem OKT.len {R : Nat} {tk : List Pr2} (hR : 1 ≤ R) (h : OKT R tk) : tk.length ≤ 65536 := by
 have := h.bd hR
 have h2 := bld_n R tk
 omega
theorem OKT.raw {R : Nat} {tk : List Pr2} (hR : 1 ≤ R) (h : OKT R tk) (h0 : 0 < tk.length) : (rawT R tk).length ≤ 65536 := by
 unfold rawT; rw [raw_sz hR h0]; exact h.2 h0
theorem OKT.blk {R : Nat} {tk : List Pr2} (hR : 1 ≤ R ∧ R ≤ 64) (h : OKT R tk) (h0 : 0 < tk.length) : Blk R tk (rawT R tk) := ⟨hR, h0, h.1, rfl⟩
theorem AddT_ok (bb R M : Nat) (tk : List Pr2) (k v : List UInt8) (r0 : List Ent) (w : World) (hB : BldT bb R M tk r0) (hr : Res w r0) (hR : 1 ≤ R ∧ R ≤ 64) (hM : M ≤ 65536) (ho : OKT R tk) (hk : k.length ≤ 140737488355328) (hv : v.length ≤ 140737488355328) : Calls Tryz.prog 7 [.pointer (some ⟨bb, 0, none⟩), .string (str k), .string (str v)].toArray w (Rt fun r w' => ∃ e tk' r', r = .int .i64 e ∧ e = addE R M (bldF R tk).raw (bldF R tk).last (bldF R tk).n k v ∧ BldT bb R M tk' r' ∧ ((e = 0 ∧ tk' = tk ++ [(k, v)]) ∨ (¬ e = 0 ∧ tk' = tk)) ∧ OKT R tk' ∧ Mem w (ids r0) w' [r']) := by
 refine (Add_ok bb R M (bldF R tk).raw (bldF R tk).st (bldF R tk).last (bldF R tk).n k v r0 w hB hr hR hM (ho.bd hR.1) hk hv).mono fun en w2 h => h.elim fun v2 h => ⟨v2, h.1, ?_⟩
 obtain ⟨r', h1, h2, h3, h4⟩ := h.2
 by_cases he : addE R M (bldF R tk).raw (bldF R tk).last (bldF R tk).n k v = 0
 ·refine ⟨_, tk ++ [(k, v)], r', h1, rfl, ?_, .inl ⟨he, rfl⟩, ?_, h4⟩
  ·have h5 := h3 he
   unfold BldT
   rw [bld_snoc]
   exact h5
  have hf := add_fit hR hM ho.1 he
  exact ⟨hf.1, fun _ => by rw [List.length_append]; exact hf.2⟩
 exact ⟨_, tk, r', h1, rfl, h2 he, .inr ⟨he, rfl⟩, ho, h4⟩
theorem FinishT_ok (bb R M : Nat) (tk : List Pr2) (r0 : List Ent) (w : World) (hB : BldT bb R M tk r0) (hr : Res w r0) (hR : 1 ≤ R ∧ R ≤ 64) (ho : OKT R tk) (h0 : 0 < tk.length) : Calls Tryz.prog 13 [.pointer (some ⟨bb, 0, none⟩)].toArray w (Rt fun r w' => ∃ v rb rt, r = .tuple [v, .int .i64 ((rawT R tk).length : Nat), .int .i64 0].toArray ∧ SlE byteV 5 v (tileT R tk) rt ∧ BldT bb R M [] rb ∧ Mem w (ids r0) w' [rb, rt]) := by
 have hn := bld_n R tk
 have hb := ho.bd hR.1
 have hl := ho.raw hR.1 h0
 have e : rawT R tk = rawB R (bldF R tk).raw (bldF R tk).st (bldF R tk).n := by rw [hn]; rfl
 have h := Finish_ok bb R M (bldF R tk).raw (bldF R tk).st (bldF R tk).last (bldF R tk).n r0 w hB hr hR (by omega) (by rw [← e]; exact hl) (fun j hj => by have := st_bd R tk j hj; omega)
 rw [← e] at h
 exact h
end Go.Proofs.YtifnmbmijljhfaaGreat.E
namespace Go.Proofs.YtifnmbmijljhfaaGreat.E
open Go
def RbT (rb R M : Nat) (tk : List Pr2) (r : List Ent) : Prop := ∃ v rl, r = ⟨rb, 55, [.int .i64 (R : Nat), .int .i64 (M : Nat), v, .int .i64 ((bldF R tk).raw.length : Nat)]⟩ :: rl ∧ SlS pairC 2 35 v tk rl
def addT (R M : Nat) (tk : List Pr2) (k v : List UInt8) : List Pr2 := if addE R M (bldF R tk).raw (bldF R tk).last (bldF R tk).n k v = 0 then tk ++ [(k, v)] else tk
theorem refCompare_ok (a b : List UInt8) (w : World) (hla : a.length ≤ 1152921504606846976) (hlb : b.length ≤ 1152921504606846976) : Calls Tryz.prog 25 [.string (str a), .string (str b)].toArray w (Rt fun r w' => r = .int .i64 (cmp a b) ∧ Upd [] w w') := by
 have hM0 : Mem w [] w [] := Mem.nil w []
 obtain ⟨n1, n2, n3, n4⟩ := common_le a b
 refine calls_vc mixed Tryz.func25 rfl C25 (by simp [Tryz.ntmps25]) <| seq fun _ h1 => mv <| h1 _ _ <| seq fun _ h2 => mv <| mv <| m_call (refCommon_ok a b w (by first | omega | (simp; done) | (simp; omega)) (by first | omega | (simp; done) | (simp; omega))) rfl fun v3 w3 ⟨hr3, hu3⟩ => ?_
 have hM3 : Mem _ _ w3 [] := hM0.pure hu3
 subst hr3
 refine mv <| h2 _ _ <| seq fun _ h4 => seq fun _ h5 => mv <| mv <| stp (v := .int .i64 (a.length : Nat)) (o_lens rfl rfl) <| bn rfl rfl <| mv <| splitP rfl (fun c6 => ?_) (fun c6 => ?_)
 ·refine gmv rfl <| gmv rfl <| stg rfl (v := .int .i64 (b.length : Nat)) (o_lens rfl rfl) <| gbn rfl rfl rfl <| pkT rfl <| mv <| h5 _ _ <| cndP rfl (fun c7 => ?_) (fun c7 => ?_)
  ·refine seq fun _ h8 => mv <| h8 _ _ <| ⟨(.int .i64 0), rfl, ⟨by rw [cmp_same n3 (by omega) (by omega)], hM3.upd⟩⟩
  refine seq fun _ h9 => mv <| mv <| stp (v := .int .i64 (a.length : Nat)) (o_lens rfl rfl) <| bn rfl rfl <| mv <| h9 _ _ <| cndP rfl (fun c10 => ?_) (fun c10 => (c10 (by omega)).elim)
  refine seq fun _ h11 => mv <| h11 _ _ <| ⟨(.int .i64 (-1)), rfl, ⟨by rw [cmp_short n3 (by omega) (by omega)], hM3.upd⟩⟩
 refine gx rfl <| gx rfl <| gx rfl <| gx rfl <| pkF rfl <| mv <| h5 _ _ <| cndF rfl <| seq fun _ h12 => mv <| mv <| stp (v := .int .i64 (a.length : Nat)) (o_lens rfl rfl) <| bn rfl rfl <| mv <| h12 _ _ <| cndP rfl (fun c13 => absurd c13 (by omega)) (fun c13 => seq fun _ h14 => mv <| mv <| stp (v := .int .i64 (b.length : Nat)) (o_lens rfl rfl) <| bn rfl rfl <| mv <| h14 _ _ <| cndP rfl (fun c15 => ?_) (fun c15 => ?_))
 ·refine seq fun _ h16 => mv <| h16 _ _ <| ⟨(.int .i64 1), rfl, ⟨by rw [cmp_long n3 (by omega) (by omega)], hM3.upd⟩⟩
 refine seq fun _ h17 => ?_
 intro wd e1 e2 e3 e4
 have hd := Upd.same e1 e2 e3 e4 []
 have hM18 := hM3.pure hd
 clear e1 e2 e3 e4
 refine ⟨none, ?_⟩
 show vd _ _ _ _ _ _ _
 refine dmv <| dmv <| dq (v := byteV (a.getD (common a b) 0)) (o_idxs rfl rfl (by omega) rfl) <| dmv <| dmv <| dq (v := byteV (b.getD (common a b) 0)) (o_idxs rfl rfl (by omega) rfl) <| dbn rfl rfl <| dmv <| h17 _ _ <| cndP rfl (fun c19 => ?_) (fun c19 => ?_)
 ·refine seq fun _ h20 => mv <| h20 _ _ <| ⟨(.int .i64 (-1)), rfl, ⟨by rw [cmp_lt n3 (by omega) (by omega) (by omega)], hM18.upd⟩⟩
 refine h4 _ _ <| seq fun _ h21 => mv <| h21 _ _ <| ⟨(.int .i64 1), rfl, ⟨by rw [cmp_gt n3 (by omega) (by omega) (gt_of n4 (by omega) (by omega) (by omega))], hM18.upd⟩⟩
theorem RNew_ok (R M : Nat) (w : World) (hR : 1 ≤ R ∧ R ≤ 64) (hM : 64 ≤ M ∧ M ≤ 65536) : Calls Tryz.prog 6 [.int .i64 (R : Nat), .int .i64 (M : Nat)].toArray w (Rt fun r w' => ∃ bb rs, r = .tuple #[.pointer (some ⟨bb, 0, none⟩), .int .i64 0] ∧ RbT bb R M [] rs ∧ Mem w [] w' [rs]) := by
 have hM0 : Mem w [] w [] := Mem.nil w []
 refine calls_vc mixed Tryz.func6 rfl C6 (by simp [Tryz.ntmps6]) <| seq fun _ h1 => mv <| mv <| h1 _ _ <| seq fun _ h2 => seq fun _ h3 => mv <| bn rfl rfl <| mv <| splitP rfl (fun c4 => absurd c4 (by omega)) (fun c4 => gmv rfl <| gbn rfl rfl rfl <| pkF rfl ?_)
 refine mv <| splitP rfl (fun c5 => absurd c5 (by omega)) (fun c5 => gmv rfl <| gbn rfl rfl rfl <| pkF rfl <| mv <| splitP rfl (fun c6 => absurd c6 (by omega)) (fun c6 => gmv rfl <| gbn rfl rfl rfl <| pkF rfl <| h3 _ _ <| cndP rfl (fun c7 => absurd c7 (by omega)) (fun c7 => h2 _ _ <| seq fun _ h8 => ?_)))
 refine mv <| mv <| stp (v := .agg ([.int .i64 (R : Nat), .int .i64 (M : Nat), .slice none 0 0, .int .i64 0] : List Value).toArray) (o_bld rfl rfl) <| m_bx (v := .agg ([.int .i64 (R : Nat), .int .i64 (M : Nat), .slice none 0 0, .int .i64 0] : List Value).toArray) hM0 rfl rfl fun b9 w10 (hM10 : Mem _ _ w10 [[⟨b9, 55, [.int .i64 (R : Nat), .int .i64 (M : Nat), .slice none 0 0, .int .i64 0]⟩]]) => mv <| mv <| h8 _ _ <| ⟨(.tuple [.pointer (some ⟨b9, 0, none⟩), .int .i64 0].toArray), rfl, ?_⟩
 unfold RbT
 rw [show (bldF R []).raw.length = 0 from rfl]
 exact ⟨_, _, rfl, ⟨_, [], rfl, Sl.nil 2 35⟩, hM10.keep (by simp)⟩
theorem RNew_no (R M : Int) (w : World) (hR : inK .i64 R) (hM : inK .i64 M) (h : ¬ ((1 ≤ R ∧ R ≤ 64) ∧ (64 ≤ M ∧ M ≤ 65536))) : Calls Tryz.prog 6 [.int .i64 R, .int .i64 M].toArray w (Rt fun r w' => r = .tuple #[.pointer none, .int .i64 3] ∧ Upd [] w w') := by
 have hM0 : Mem w [] w [] := Mem.nil w []
 refine calls_vc mixed Tryz.func6 rfl C6 (by simp [Tryz.ntmps6]) <| seq fun _ h1 => mv <| mv <| h1 _ _ <| seq fun _ h2 => seq fun _ h3 => mv <| bn rfl rfl <| mv <| splitP rfl (fun c4 => ?_) (fun c4 => ?_)
 ·refine gx rfl <| gx rfl <| pkT rfl <| mv <| splitT rfl <| gx rfl <| gx rfl <| pkT rfl <| mv <| splitT rfl <| gx rfl <| gx rfl <| pkT rfl <| h3 _ _ ?_
  refine cndT rfl <| seq fun _ h5 => mv <| mv <| h5 _ _ <| ⟨(.tuple [.pointer none, .int .i64 3].toArray), rfl, ⟨rfl, hM0.upd⟩⟩
 refine gmv rfl <| gbn rfl rfl rfl <| pkF rfl <| mv <| splitP rfl (fun c6 => ?_) (fun c6 => ?_)
 ·refine gx rfl <| gx rfl <| pkT rfl <| mv <| splitT rfl <| gx rfl <| gx rfl <| pkT rfl <| h3 _ _ <| cndT rfl <| seq fun _ h7 => mv <| mv <| h7 _ _ ?_
  refine ⟨(.tuple [.pointer none, .int .i64 3].toArray), rfl, ⟨rfl, hM0.upd⟩⟩
 refine gmv rfl <| gbn rfl rfl rfl <| pkF rfl <| mv <| splitP rfl (fun c8 => ?_) (fun c8 => ?_)
 ·refine gx rfl <| gx rfl <| pkT rfl <| h3 _ _ <| cndT rfl <| seq fun _ h9 => mv <| mv <| h9 _ _ <| ⟨(.tuple [.pointer none, .int .i64 3].toArray), rfl, ⟨rfl, hM0.upd⟩⟩
 refine gmv rfl <| gbn rfl rfl rfl <| pkF rfl <| h3 _ _ <| cndP rfl (fun c10 => ?_) (fun c10 => ?_)
 ·refine seq fun _ h11 => mv <| mv <| h11 _ _ <| ⟨(.tuple [.pointer none, .int .i64 3].toArray), rfl, ⟨rfl, hM0.upd⟩⟩
 refine h2 _ _ <| seq fun _ h12 => mv <| mv <| stp (v := .agg ([.int .i64 R, .int .i64 M, .slice none 0 0, .int .i64 0] : List Value).toArray) (o_bld rfl rfl) <| m_bx (v := .agg ([.int .i64 R, .int .i64 M, .slice none 0 0, .int .i64 0] : List Value).toArray) hM0 rfl rfl fun b13 w14 (hM14 : Mem _ _ w14 [[⟨b13, 55, [.int .i64 R, .int .i64 M, .slice none 0 0, .int .i64 0]⟩]]) => mv <| mv <| h12 _ _ <| ⟨(.tuple [.pointer (some ⟨b13, 0, none⟩), .int .i64 0].toArray), rfl, ?_⟩
 exfalso
 omega
theorem NewBuilder_no (R M : Int) (w : World) (hR : inK .i64 R) (hM : inK .i64 M) (h : ¬ ((1 ≤ R ∧ R ≤ 64) ∧ (64 ≤ M ∧ M ≤ 65536))) : Calls Tryz.prog 5 [.int .i64 R, .int .i64 M].toArray w (Rt fun r w' => r = .tuple #[.pointer none, .int .i64 3] ∧ Upd [] w w') := by
 have hM0 : Mem w [] w [] := Mem.nil w []
 refine calls_vc mixed Tryz.func5 rfl C5 (by simp [Tryz.ntmps5]) <| seq fun _ h1 => mv <| mv <| h1 _ _ <| seq fun _ h2 => seq fun _ h3 => mv <| bn rfl rfl <| mv <| splitP rfl (fun c4 => ?_) (fun c4 => ?_)
 ·refine gx rfl <| gx rfl <| pkT rfl <| mv <| splitT rfl <| gx rfl <| gx rfl <| pkT rfl <| mv <| splitT rfl <| gx rfl <| gx rfl <| pkT rfl <| h3 _ _ ?_
  refine cndT rfl <| seq fun _ h5 => mv <| mv <| h5 _ _ <| ⟨(.tuple [.pointer none, .int .i64 3].toArray), rfl, ⟨rfl, hM0.upd⟩⟩
 refine gmv rfl <| gbn rfl rfl rfl <| pkF rfl <| mv <| splitP rfl (fun c6 => ?_) (fun c6 => ?_)
 ·refine gx rfl <| gx rfl <| pkT rfl <| mv <| splitT rfl <| gx rfl <| gx rfl <| pkT rfl <| h3 _ _ <| cndT rfl <| seq fun _ h7 => mv <| mv <| h7 _ _ ?_
  refine ⟨(.tuple [.pointer none, .int .i64 3].toArray), rfl, ⟨rfl, hM0.upd⟩⟩
 refine gmv rfl <| gbn rfl rfl rfl <| pkF rfl <| mv <| splitP rfl (fun c8 => ?_) (fun c8 => ?_)
 ·refine gx rfl <| gx rfl <| pkT rfl <| h3 _ _ <| cndT rfl <| seq fun _ h9 => mv <| mv <| h9 _ _ <| ⟨(.tuple [.pointer none, .int .i64 3].toArray), rfl, ⟨rfl, hM0.upd⟩⟩
 refine gmv rfl <| gbn rfl rfl rfl <| pkF rfl <| h3 _ _ <| cndP rfl (fun c10 => ?_) (fun c10 => ?_)
 ·refine seq fun _ h11 => mv <| mv <| h11 _ _ <| ⟨(.tuple [.pointer none, .int .i64 3].toArray), rfl, ⟨rfl, hM0.upd⟩⟩
 refine h2 _ _ <| seq fun _ h12 => mv <| mv <| stp (v := .agg ([.int .i64 R, .int .i64 M, .slice none 0 0, .slice none 0 0, .string (str ([])), .int .i64 0] : List Value).toArray) (o_bld rfl rfl) <| m_bx (v := .agg ([.int .i64 R, .int .i64 M, .slice none 0 0, .slice none 0 0, .string (str ([])), .int .i64 0] : List Value).toArray) hM0 rfl rfl fun b13 w14 (hM14 : Mem _ _ w14 [[⟨b13, 53, [.int .i64 R, .int .i64 M, .slice none 0 0, .slice none 0 0, .string (str ([])), .int .i64 0]⟩]]) => mv <| mv <| h12 _ _ <| ⟨(.tuple [.pointer (some ⟨b13, 0, none⟩), .int .i64 0].toArray), rfl, ?_⟩
 exfalso
 omega
theorem Add_nil (k v : List UInt8) (w : World) : Calls Tryz.prog 7 [.pointer none, .string (str k), .string (str v)].toArray w (Rt fun r w' => r = .int .i64 1 ∧ Upd [] w w') := by
 have hM0 : Mem w [] w [] := Mem.nil w []
 refine calls_vc mixed Tryz.func7 rfl C7 (by simp [Tryz.ntmps7]) <| seq fun _ h1 => mv <| h1 _ _ <| seq fun _ h2 => seq fun _ h3 => mv <| stp (v := .bool true) (o_isnil rfl rfl) <| h3 _ _ <| cndT rfl <| seq fun _ h4 => mv <| h4 _ _ <| ⟨(.int .i64 1), rfl, ?_⟩
 exact ⟨rfl, hM0.upd⟩
theorem RAdd_nil (k v : List UInt8) (w : World) : Calls Tryz.prog 8 [.pointer none, .string (str k), .string (str v)].toArray w (Rt fun r w' => r = .int .i64 1 ∧ Upd [] w w') := by
 have hM0 : Mem w [] w [] := Mem.nil w []
 refine calls_vc mixed Tryz.func8 rfl C8 (by simp [Tryz.ntmps8]) <| seq fun _ h1 => mv <| h1 _ _ <| seq fun _ h2 => seq fun _ h3 => mv <| stp (v := .bool true) (o_isnil rfl rfl) <| h3 _ _ <| cndT rfl <| seq fun _ h4 => mv <| h4 _ _ <| ⟨(.int .i64 1), rfl, ?_⟩
 exact ⟨rfl, hM0.upd⟩
theorem Size_nil (w : World) : Calls Tryz.prog 9 [.pointer none].toArray w (Rt fun r w' => r = .int .i64 0 ∧ Upd [] w w') := by
 have hM0 : Mem w [] w [] := Mem.nil w []
 refine calls_vc mixed Tryz.func9 rfl C9 (by simp [Tryz.ntmps9]) <| seq fun _ h1 => mv <| h1 _ _ <| seq fun _ h2 => seq fun _ h3 => mv <| stp (v := .bool true) (o_isnil rfl rfl) <| h3 _ _ <| cndT rfl <| seq fun _ h4 => mv <| h4 _ _ <| ⟨(.int .i64 0), rfl, ?_⟩
 exact ⟨rfl, hM0.upd⟩
theorem RSize_nil (w : World) : Calls Tryz.prog 10 [.pointer none].toArray w (Rt fun r w' => r = .int .i64 0 ∧ Upd [] w w') := by
 have hM0 : Mem w [] w [] := Mem.nil w []
 refine calls_vc mixed Tryz.func10 rfl C10 (by simp [Tryz.ntmps10]) <| seq fun _ h1 => mv <| h1 _ _ <| seq fun _ h2 => seq fun _ h3 => mv <| stp (v := .bool true) (o_isnil rfl rfl) <| mv <| splitT rfl <| gx rfl <| gx rfl <| gx rfl <| gxl rfl ?_
 refine gx rfl <| gx rfl <| pkT rfl <| h3 _ _ <| cndT rfl <| seq fun _ h4 => mv <| h4 _ _ <| ⟨(.int .i64 0), rfl, ⟨rfl, hM0.upd⟩⟩
theorem Len_nil (w : World) : Calls Tryz.prog 11 [.pointer none].toArray w (Rt fun r w' => r = .int .i64 0 ∧ Upd [] w w') := by
 have hM0 : Mem w [] w [] := Mem.nil w []
 refine calls_vc mixed Tryz.func11 rfl C11 (by simp [Tryz.ntmps11]) <| seq fun _ h1 => mv <| h1 _ _ <| seq fun _ h2 => seq fun _ h3 => mv <| stp (v := .bool true) (o_isnil rfl rfl) <| h3 _ _ <| cndT rfl <| seq fun _ h4 => mv <| h4 _ _ <| ⟨(.int .i64 0), rfl, ?_⟩
 exact ⟨rfl, hM0.upd⟩
theorem RLen_nil (w : World) : Calls Tryz.prog 12 [.pointer none].toArray w (Rt fun r w' => r = .int .i64 0 ∧ Upd [] w w') := by
 have hM0 : Mem w [] w [] := Mem.nil w []
 refine calls_vc mixed Tryz.func12 rfl C12 (by simp [Tryz.ntmps12]) <| seq fun _ h1 => mv <| h1 _ _ <| seq fun _ h2 => seq fun _ h3 => mv <| stp (v := .bool true) (o_isnil rfl rfl) <| h3 _ _ <| cndT rfl <| seq fun _ h4 => mv <| h4 _ _ <| ⟨(.int .i64 0), rfl, ?_⟩
 exact ⟨rfl, hM0.upd⟩
theorem Finish_nil (w : World) : Calls Tryz.prog 13 [.pointer none].toArray w (Rt fun r w' => r = .tuple #[.slice none 0 0, .int .i64 0, .int .i64 1] ∧ Upd [] w w') := by
 have hM0 : Mem w [] w [] := Mem.nil w []
 refine calls_vc mixed Tryz.func13 rfl C13 (by simp [Tryz.ntmps13]) <| seq fun _ h1 => mv <| mv <| mv <| h1 _ _ <| seq fun _ h2 => seq fun _ h3 => mv <| stp (v := .bool true) (o_isnil rfl rfl) <| h3 _ _ <| cndT rfl <| seq fun _ h4 => mv ?_
 refine mv <| mv <| h4 _ _ <| ⟨(.tuple [.slice none 0 0, .int .i64 0, .int .i64 1].toArray), rfl, ⟨rfl, hM0.upd⟩⟩
theorem RFinish_nil (w : World) : Calls Tryz.prog 14 [.pointer none].toArray w (Rt fun r w' => r = .tuple #[.slice none 0 0, .int .i64 0, .int .i64 1] ∧ Upd [] w w') := by
 have hM0 : Mem w [] w [] := Mem.nil w []
 refine calls_vc mixed Tryz.func14 rfl C14 (by simp [Tryz.ntmps14]) <| seq fun _ h1 => mv <| mv <| mv <| h1 _ _ <| seq fun _ h2 => seq fun _ h3 => mv <| stp (v := .bool true) (o_isnil rfl rfl) <| h3 _ _ <| cndT rfl <| seq fun _ h4 => mv ?_
 refine mv <| mv <| h4 _ _ <| ⟨(.tuple [.slice none 0 0, .int .i64 0, .int .i64 1].toArray), rfl, ⟨rfl, hM0.upd⟩⟩
theorem Rlength_ok (rb R M : Nat) (tk : List Pr2) (r0 : List Ent) (w : World) (hB : RbT rb R M tk r0) (hr : Res w r0) (hR : 1 ≤ R ∧ R ≤ 64) (ho : OKT R tk) (k v : List UInt8) (hk : k.length ≤ 1024) (hv : v.length ≤ 1024) : Calls Tryz.prog 26 [.pointer (some ⟨rb, 0, none⟩), .string (str k), .string (str v)].toArray w (Rt fun r w' => r = .int .i64 ((wrB (ahd R tk.length (lastK tk)) k v).length : Nat) ∧ Mem w (ids r0) w' [r0]) := by
 obtain ⟨vL, rl, rfl, hvL⟩ := hB
 have hM0 : Mem w (ids (⟨rb, 55, [.int .i64 (R : Nat), .int .i64 (M : Nat), vL, .int .i64 ((bldF R tk).raw.length : Nat)]⟩ :: rl)) w [[⟨rb, 55, [.int .i64 (R : Nat), .int .i64 (M : Nat), vL, .int .i64 ((bldF R tk).raw.length : Nat)]⟩], rl] := (Mem.start hr).keep (by simp)
 have hbd := ho.bd hR.1
 have htn := OKT.len hR.1 ho
 obtain ⟨a, ha⟩ : ∃ a, a = (ahd R tk.length (lastK tk)) := ⟨_, rfl⟩
 have hcl := common_le a k
 have hwl : (wrB a k v).length = (putI (common a k : Nat)).length + (putI ((k.length : Nat) - (common a k : Nat) : Int)).length + (putI (v.length : Nat)).length + (k.length - common a k) + v.length := by
  unfold wrB
  simp only [List.length_append, List.length_drop]
 rw [← ha]
 have hkl := OKT.keyl ho (tk.length - 1)
 refine calls_vc mixed Tryz.func26 rfl C26 (by simp [Tryz.ntmps26]) <| seq fun _ h1 => mv <| h1 _ _ <| seq fun _ h2 => mv <| nilchk rfl <| fa rfl <| m_ld (v := vL) hM0 (i := 0) (j := 0) rfl rfl rfl rfl <| stp (v := .int .i64 (tk.length : Nat)) (o_lenR (hvL.rd hM0 (i := 1) rfl) rfl rfl) <| mv <| h2 _ _ <| seq fun _ h3 => mv ?_
 refine h3 _ _ <| seqc (fun f w' => ∃ (c : Nat), f 8 = .int .i64 (c : Nat) ∧ f 1 = .string (str k) ∧ f 2 = .string (str v) ∧ Mem w (ids (⟨rb, 55, [.int .i64 (R : Nat), .int .i64 (M : Nat), vL, .int .i64 ((bldF R tk).raw.length : Nat)]⟩ :: rl)) w' [[⟨rb, 55, [.int .i64 (R : Nat), .int .i64 (M : Nat), vL, .int .i64 ((bldF R tk).raw.length : Nat)]⟩], rl] ∧ (c = common a k)) ?_ ?_
 ·intro K4 h4
  refine seq fun _ h6 => mv <| mv <| nilchk rfl <| fa rfl <| m_ld (v := .int .i64 (R : Nat)) hM0 (i := 0) (j := 0) rfl rfl rfl rfl <| stp (v := .int .i64 (tk.length % R : Nat)) (o_rem rfl rfl (by omega) ((v_rem (Int.natCast_nonneg _)).trans rfl)) <| bneq rfl rfl <| h6 _ _ <| cndP rfl (fun c7 => ?_) (fun c7 => ?_)
  ·refine mv <| nilchk rfl <| fa rfl <| m_ld (v := vL) hM0 (i := 0) (j := 0) rfl rfl rfl rfl <| mv <| stp (v := .int .i64 ((tk.length : Nat) - 1)) (o_bin rfl rfl (v_sub64 (by omega))) ?_
   have h0 : 0 < tk.length := Nat.pos_of_ne_zero fun q => by
    have q2 : tk.length % R = 0 := by rw [q]; exact Nat.zero_mod R
    omega
   refine m_idxS ([], []) (j := (tk.length - 1)) (hvL.rd hM0 (i := 1) rfl) rfl (v_int (by omega)) (by omega) fun b8 o8 hp8 => fa rfl <| ld (v := .string (str ((tk.getD (tk.length - 1) ([], [])).1))) rfl (hp8.get 0 rfl) <| mv <| m_call (refCommon_ok ((tk.getD (tk.length - 1) ([], [])).1) k w (by first | omega | (simp; done) | (simp; omega)) (by first | omega | (simp; done) | (simp; omega))) rfl fun v9 w9 ⟨hr9, hu9⟩ => ?_
   have hM9 : Mem _ _ w9 [_, _] := hM0.pure hu9
   subst hr9
   refine mv <| h4 _ _ ⟨(common (tk.getD (tk.length - 1) ([], [])).1 k), vi, by first | rfl | simp [upd], by first | rfl | simp [upd], hM9, by rw [ha]; unfold ahd; rw [if_neg (by omega)]; rfl⟩
  refine h4 _ _ ⟨0, vi, by first | rfl | simp [upd], by first | rfl | simp [upd], hM0, by rw [ha]; unfold ahd; rw [if_pos (by omega)]; cases k <;> rfl⟩
 rintro f w5 ⟨c, e5_8, e5_1, e5_2, hM5, hc⟩
 obtain ⟨frm, rfl⟩ := re3 e5_8 e5_1 e5_2
 refine seq fun _ h10 => mv <| m_call (refPut_ok (c : Nat) (by simp only [inK]; omega) w5) rfl fun v11 w11 ⟨rs11, hs11, hm11⟩ => ?_
 have hM11 : Mem w (ids (⟨rb, 55, [.int .i64 (R : Nat), .int .i64 (M : Nat), vL, .int .i64 ((bldF R tk).raw.length : Nat)]⟩ :: rl)) w11 [[⟨rb, 55, [.int .i64 (R : Nat), .int .i64 (M : Nat), vL, .int .i64 ((bldF R tk).raw.length : Nat)]⟩], rl, rs11] := hM5.add hm11
 have hn11 := putI_len (v := (c : Nat)) (by omega)
 refine mv <| h10 _ _ <| seq fun _ h12 => mv <| stp (v := .int .i64 (k.length : Nat)) (o_lens rfl rfl) <| mv <| stp (v := .int .i64 ((k.length : Nat) - (c : Nat))) (o_bin rfl rfl (v_sub64 (by omega))) <| m_call (refPut_ok ((k.length : Nat) - (c : Nat)) (by simp only [inK]; omega) w11) rfl fun v13 w13 ⟨rs13, hs13, hm13⟩ => ?_
 have hM13 : Mem _ _ w13 [_, _, _, rs13] := hM11.add hm13
 have hn13 := putI_len (v := (k.length : Nat) - (c : Nat)) (by omega)
 refine mv <| h12 _ _ <| seq fun _ h14 => mv <| stp (v := .int .i64 (v.length : Nat)) (o_lens rfl rfl) <| m_call (refPut_ok (v.length : Nat) (by simp only [inK]; omega) w13) rfl fun v15 w15 ⟨rs15, hs15, hm15⟩ => ?_
 have hM15 : Mem _ _ w15 [_, _, _, _, rs15] := hM13.add hm15
 have hn15 := putI_len (v := (v.length : Nat)) (by omega)
 refine mv <| h14 _ _ <| seq fun _ h16 => mv <| stp (v := .int .i64 ((putI (c : Nat)).length : Nat)) (o_lenR (hs11.rd hM15 (i := 2) rfl) rfl rfl) <| mv <| stp (v := .int .i64 ((putI ((k.length : Nat) - (c : Nat))).length : Nat)) (o_lenR (hs13.rd hM15 (i := 3) rfl) rfl rfl) <| stp (v := .int .i64 (((putI (c : Nat)).length : Nat) + ((putI ((k.length : Nat) - (c : Nat))).length : Nat))) (o_bin rfl rfl (v_add64 (by omega))) <| mv <| stp (v := .int .i64 ((putI (v.length : Nat)).length : Nat)) (o_lenR (hs15.rd hM15 (i := 4) rfl) rfl rfl) <| stp (v := .int .i64 ((((putI (c : Nat)).length : Nat) + ((putI ((k.length : Nat) - (c : Nat))).length : Nat)) + ((putI (v.length : Nat)).length : Nat))) (o_bin rfl rfl (v_add64 (by omega))) <| mv <| stp (v := .int .i64 (k.length : Nat)) (o_lens rfl rfl) <| stp (v := .int .i64 (((((putI (c : Nat)).length : Nat) + ((putI ((k.length : Nat) - (c : Nat))).length : Nat)) + ((putI (v.length : Nat)).length : Nat)) + (k.length : Nat))) (o_bin rfl rfl (v_add64 (by omega))) <| mv <| stp (v := .int .i64 ((((((putI (c : Nat)).length : Nat) + ((putI ((k.length : Nat) - (c : Nat))).length : Nat)) + ((putI (v.length : Nat)).length : Nat)) + (k.length : Nat)) - (c : Nat))) (o_bin rfl rfl (v_sub64 (by omega))) <| mv <| stp (v := .int .i64 (v.length : Nat)) (o_lens rfl rfl) <| stp (v := .int .i64 (((((((putI (c : Nat)).length : Nat) + ((putI ((k.length : Nat) - (c : Nat))).length : Nat)) + ((putI (v.length : Nat)).length : Nat)) + (k.length : Nat)) - (c : Nat)) + (v.length : Nat))) (o_bin rfl rfl (v_add64 (by omega))) <| mv <| h16 _ _ <| ⟨(.int .i64 (((((((putI (c : Nat)).length : Nat) + ((putI ((k.length : Nat) - (c : Nat))).length : Nat)) + ((putI (v.length : Nat)).length : Nat)) + (k.length : Nat)) - (c : Nat)) + (v.length : Nat))), rfl, ?_⟩
 subst hc
 exact ⟨v_int (by rw [hwl]; omega), hM15.keep (by simp)⟩
theorem Rwhole_ok (rb R : Nat) (cs : List Value) (n bytes : Nat) (w : World) (ho : Own w ⟨rb, 55, .int .i64 (R : Nat) :: cs⟩) (hR : 1 ≤ R ∧ R ≤ 64) (hb : bytes ≤ 1000000) (hn : 0 < n ∧ n ≤ 1000000) : Calls Tryz.prog 27 [.pointer (some ⟨rb, 0, none⟩), .int .i64 (n : Nat), .int .i64 (bytes : Nat)].toArray w (Rt fun r w' => r = .int .i64 ((szB R bytes n : Nat) : Int) ∧ Upd [] w w') := by
 have hM0 : Mem w [] w [] := Mem.nil w []
 obtain ⟨q, hqe⟩ : ∃ q, q = (n + R - 1) / R := ⟨_, rfl⟩
 have hq : q ≤ n + R - 1 := by rw [hqe]; exact Nat.div_le_self _ _
 refine calls_vc mixed Tryz.func27 rfl C27 (by simp [Tryz.ntmps27]) <| seq fun _ h1 => mv <| h1 _ _ <| seq fun _ h2 => ?_
 intro wd e1 e2 e3 e4
 have hd := Upd.same e1 e2 e3 e4 []
 have hM3 := hM0.pure hd
 clear e1 e2 e3 e4
 refine ⟨none, ?_⟩
 show vd _ _ _ _ _ _ _
 refine dmv <| dmv <| dmv <| dq (v := .pointer (some ⟨rb, 0, none⟩)) (o_nilchk rfl rfl) <| dfa rfl <| dmv <| dq (v := .pointer (some ⟨rb, 0, none⟩)) (o_nilchk rfl rfl) <| dfa rfl <| dqld rfl (by simp [isHeld]) (v := .int .i64 (R : Nat)) ((ho.upd hM3.upd (by simp)).cell 0) <| dl (ld (v := .int .i64 (R : Nat)) rfl ((ho.upd hM3.upd (by simp)).cell 0) <| ⟨rfl, dq (v := .int .i64 ((n : Nat) + (R : Nat))) (o_bin rfl rfl (v_add64 (by omega))) <| dq (v := .int .i64 (((n : Nat) + (R : Nat)) - 1)) (o_bin rfl rfl (v_sub64 (by omega))) <| dq (v := .int .i64 (q : Nat)) (o_quo rfl rfl (by omega) ((v_quo (by omega) (by omega) (by simp only [inK]; omega)).trans (v_int (by rw [hqe, show ((n : Int) + (R : Int) - 1) = ((n + R - 1 : Nat) : Int) by omega]; rfl)))) ?_⟩)
 refine dq (v := .int .i64 (4 * (q : Nat))) (o_bin rfl rfl (v_mul64 (by omega))) <| dq (v := .int .i64 ((bytes : Nat) + (4 * (q : Nat)))) (o_bin rfl rfl (v_add64 (by omega))) <| dq (v := .int .i64 (((bytes : Nat) + (4 * (q : Nat))) + 8)) (o_bin rfl rfl (v_add64 (by omega))) <| dmv <| h2 _ _ <| ⟨(.int .i64 (((bytes : Nat) + (4 * (q : Nat))) + 8)), rfl, ⟨by unfold szB; rw [if_neg (by omega), ← hqe]; exact v_int (by omega), hM3.upd⟩⟩
end Go.Proofs.YtifnmbmijljhfaaGreat.E
namespace Go.Proofs.YtifnmbmijljhfaaGreat.E
open Go
theorem AddU_ok (bb R M : Nat) (tk : List Pr2) (k v : List UInt8) (r0 : List Ent) (w : World) (hB : BldT bb R M tk r0) (hr : Res w r0) (hR : 1 ≤ R ∧ R ≤ 64) (hM : M ≤ 65536) (ho : OKT R tk) (hk : k.length ≤ 140737488355328) (hv : v.length ≤ 140737488355328) : Calls Tryz.prog 7 [.pointer (some ⟨bb, 0, none⟩), .string (str k), .string (str v)].toArray w (Rt fun r w' => ∃ r', r = .int .i64 (addE R M (bldF R tk).raw (bldF R tk).last (bldF R tk).n k v) ∧ BldT bb R M (addT R M tk k v) r' ∧ OKT R (addT R M tk k v) ∧ Mem w (ids r0) w' [r']) := by
 refine (AddT_ok bb R M tk k v r0 w hB hr hR hM ho hk hv).mono fun en w2 h => h.elim fun v2 h => ⟨v2, h.1, ?_⟩
 obtain ⟨e, tk', r', h1, h2, h3, h4, h5, h6⟩ := h.2
 have ht : tk' = addT R M tk k v := by
  unfold addT
  rcases h4 with ⟨q, h⟩ | ⟨q, h⟩
  ·rw [if_pos (by omega)]; exact h
  rw [if_neg (by omega)]; exact h
 subst ht
 exact ⟨r', by rw [h1, h2], h3, h5, h6⟩
theorem RAdd_ok (rb R M : Nat) (tk : List Pr2) (r0 : List Ent) (w : World) (hB : RbT rb R M tk r0) (hr : Res w r0) (hR : 1 ≤ R ∧ R ≤ 64) (ho : OKT R tk) (hM : M ≤ 65536) (k v : List UInt8) (hk : k.length ≤ 140737488355328) (hv : v.length ≤ 140737488355328) : Calls Tryz.prog 8 [.pointer (some ⟨rb, 0, none⟩), .string (str k), .string (str v)].toArray w (Rt fun r w' => ∃ r', r = .int .i64 (addE R M (bldF R tk).raw (bldF R tk).last (bldF R tk).n k v) ∧ RbT rb R M (addT R M tk k v) r' ∧ Mem w (ids r0) w' [r']) := by
 obtain ⟨vL, rl, rfl, hvL⟩ := hB
 have hM0 : Mem w (ids (⟨rb, 55, [.int .i64 (R : Nat), .int .i64 (M : Nat), vL, .int .i64 ((bldF R tk).raw.length : Nat)]⟩ :: rl)) w [[⟨rb, 55, [.int .i64 (R : Nat), .int .i64 (M : Nat), vL, .int .i64 ((bldF R tk).raw.length : Nat)]⟩], rl] := (Mem.start hr).keep (by simp)
 have hbd := ho.bd hR.1
 have htn := OKT.len hR.1 ho
 have hn := bld_n R tk
 have hla : (bldF R tk).last = (tk.getD (tk.length - 1) ([], [])).1 := bld_last R tk
 have hkl := OKT.keyl ho (tk.length - 1)
 refine calls_vc mixed Tryz.func8 rfl C8 (by simp [Tryz.ntmps8]) <| seq fun _ h1 => mv <| h1 _ _ <| seq fun _ h2 => seq fun _ h3 => mv <| stp (v := .bool false) (o_isnil rfl rfl) <| h3 _ _ <| cndF rfl <| h2 _ _ <| seq fun _ h4 => seq fun _ h5 => mv ?_
 refine stp (v := .int .i64 (k.length : Nat)) (o_lens rfl rfl) <| bn rfl rfl <| mv <| splitP rfl (fun c6 => ?_) (fun c6 => ?_)
 ·refine gx rfl <| gx rfl <| gx rfl <| pkT rfl <| h5 _ _ <| cndT rfl <| seq fun _ h7 => mv <| h7 _ _ <| ⟨(.int .i64 2), rfl, ?_⟩
  have he : addE R M (bldF R tk).raw (bldF R tk).last (bldF R tk).n k v = 2 := by unfold addE; rw [hn, hla]; rw [if_pos (by omega)]
  have ht : addT R M tk k v = tk := by unfold addT; rw [he, if_neg (by omega)]
  rw [he, ht]
  exact ⟨_, rfl, ⟨_, _, rfl, hvL⟩, hM0.keep (by simp)⟩
 refine gmv rfl <| stg rfl (v := .int .i64 (v.length : Nat)) (o_lens rfl rfl) <| gbn rfl rfl rfl <| pkF rfl <| h5 _ _ <| cndP rfl (fun c8 => ?_) (fun c8 => ?_)
 ·refine seq fun _ h9 => mv <| h9 _ _ <| ⟨(.int .i64 2), rfl, ?_⟩
  have he : addE R M (bldF R tk).raw (bldF R tk).last (bldF R tk).n k v = 2 := by unfold addE; rw [hn, hla]; rw [if_pos (by omega)]
  have ht : addT R M tk k v = tk := by unfold addT; rw [he, if_neg (by omega)]
  rw [he, ht]
  exact ⟨_, rfl, ⟨_, _, rfl, hvL⟩, hM0.keep (by simp)⟩
 refine h4 _ _ <| seq fun _ h10 => mv <| nilchk rfl <| fa rfl <| m_ld (v := vL) hM0 (i := 0) (j := 0) rfl rfl rfl rfl <| stp (v := .int .i64 (tk.length : Nat)) (o_lenR (hvL.rd hM0 (i := 1) rfl) rfl rfl) <| mv <| h10 _ _ <| seq fun _ h11 => seq fun _ h12 => mv <| bn rfl rfl <| mv <| splitP rfl (fun c13 => ?_) (fun c13 => ?_)
 ·refine gmv rfl <| gmv rfl <| stg rfl (v := .pointer (some ⟨rb, 0, none⟩)) (o_nilchk rfl rfl) <| gfa rfl rfl <| gyesl rfl <| m_ld (v := vL) hM0 (i := 0) (j := 0) rfl rfl rfl rfl <| gmv rfl <| stg rfl (v := .int .i64 ((tk.length : Nat) - 1)) (o_bin rfl rfl (v_sub64 (by omega))) <| gyes rfl rfl (m_idxS ([], []) (j := (tk.length - 1)) (hvL.rd hM0 (i := 1) rfl) rfl (v_int (by omega)) (by omega) fun b14 o14 hp14 => gfa rfl rfl <| gyesl rfl <| ld (v := .string (str ((tk.getD (tk.length - 1) ([], [])).1))) rfl (hp14.get 0 rfl) <| gyesl rfl <| m_call (refCompare_ok k ((tk.getD (tk.length - 1) ([], [])).1) w (by first | omega | (simp; done) | (simp; omega)) (by first | omega | (simp; done) | (simp; omega))) rfl fun v15 w15 ⟨hr15, hu15⟩ => ?_)
  have hM15 : Mem _ _ w15 [_, _] := hM0.pure hu15
  subst hr15
  refine gbn rfl rfl rfl <| pkT rfl <| h12 _ _ <| cndP rfl (fun c16 => ?_) (fun c16 => ?_)
  ·refine seq fun _ h17 => mv <| h17 _ _ <| ⟨(.int .i64 61), rfl, ?_⟩
   have he : addE R M (bldF R tk).raw (bldF R tk).last (bldF R tk).n k v = 61 := by unfold addE; rw [hn, hla]; rw [if_neg (by omega), if_pos (by omega)]
   have ht : addT R M tk k v = tk := by unfold addT; rw [he, if_neg (by omega)]
   rw [he, ht]
   exact ⟨_, rfl, ⟨_, _, rfl, hvL⟩, hM15.keep (by simp)⟩
  refine h11 _ _ <| seq fun _ h18 => mv <| mv <| mv <| m_call (Rlength_ok rb R M tk (⟨rb, 55, [.int .i64 (R : Nat), .int .i64 (M : Nat), vL, .int .i64 ((bldF R tk).raw.length : Nat)]⟩ :: rl) w15 ⟨_, _, rfl, hvL⟩ (Mem.res2 hM15 0 1 rfl rfl (by decide)) hR ho k v (by omega) (by omega)) rfl fun v19 w19 ⟨hr19, hm19⟩ => ?_
  have hM19 : Mem _ _ w19 [_, _] := Mem.step2 hM15 0 1 rfl rfl (by decide) (hm19.keep (by simp) : Mem _ _ _ [[⟨rb, 55, [.int .i64 (R : Nat), .int .i64 (M : Nat), vL, .int .i64 ((bldF R tk).raw.length : Nat)]⟩], rl])
  subst hr19
  have hwb := wrB_len (a := (ahd R tk.length (lastK tk))) (k := k) (v := v) (by omega) (by omega)
  refine mv <| h18 _ _ <| seq fun _ h20 => seq fun _ h21 => ?_
  intro wd e1 e2 e3 e4
  have hd := Upd.same e1 e2 e3 e4 []
  have hM22 := hM19.pure hd
  clear e1 e2 e3 e4
  refine ⟨(some [rb]), ?_⟩
  show vd _ _ _ _ _ _ _
  refine dmv <| dbn rfl rfl <| dmv <| dsplitP rfl (fun c23 => ?_) (fun c23 => (c23 (by omega)).elim)
  refine dgmv rfl <| dgmv rfl <| dqg rfl (v := .int .i64 (tk.length + 1 : Nat)) (o_bin rfl rfl ((v_add64 (by omega)).trans (v_int (by omega)))) <| dgmv rfl <| dqg rfl (v := .pointer (some ⟨rb, 0, none⟩)) (o_nilchk rfl rfl) <| dgfa rfl rfl <| dgmv rfl <| dgmv rfl <| dqg rfl (v := .pointer (some ⟨rb, 0, none⟩)) (o_nilchk rfl rfl) <| dgfa rfl rfl <| dqgyes rfl rfl <| dqld rfl (by simp [isHeld]) (v := .int .i64 (M : Nat)) ((hM22.at (i := 0) (j := 0) rfl rfl).cell 1) <| dgyesl rfl <| dl (m_ld (v := .int .i64 ((bldF R tk).raw.length : Nat)) hM22 (i := 0) (j := 0) rfl rfl rfl rfl <| ⟨(fun b hb => rfl), dqg rfl (v := .int .i64 ((bldF R tk).raw.length + (wrB (ahd R tk.length (lastK tk)) k v).length : Nat)) (o_bin rfl rfl ((v_add64 (by omega)).trans (v_int (by omega)))) <| dgyesl rfl <| dl (m_call (Rwhole_ok rb R _ (tk.length + 1) ((bldF R tk).raw.length + (wrB (ahd R tk.length (lastK tk)) k v).length) wd (hM22.at (i := 0) (j := 0) rfl rfl) hR (by omega) (by omega)) rfl fun v24 w24 ⟨hr24, hu24⟩ => ?_)⟩)
  have hM24 : Mem w (ids (⟨rb, 55, [.int .i64 (R : Nat), .int .i64 (M : Nat), vL, .int .i64 ((bldF R tk).raw.length : Nat)]⟩ :: rl)) w24 [[⟨rb, 55, [.int .i64 (R : Nat), .int .i64 (M : Nat), vL, .int .i64 ((bldF R tk).raw.length : Nat)]⟩], rl] := hM22.pure hu24
  subst hr24
  have hh24 := held_upd (wr := wd) (bs := [rb]) hu24 (fun b hb => by
   simp only [List.mem_cons, List.not_mem_nil, or_false] at hb
   rw [hb]; exact ⟨(hM22.at (i := 0) (j := 0) rfl rfl).lt, by simp⟩) (fun b hb => rfl)
  refine ⟨hh24, dgbn rfl rfl rfl <| dpkT rfl <| h21 _ _ <| cndP rfl (fun c25 => ?_) (fun c25 => ?_)⟩
  ·refine seq fun _ h26 => mv <| h26 _ _ <| ⟨(.int .i64 62), rfl, ?_⟩
   have he : addE R M (bldF R tk).raw (bldF R tk).last (bldF R tk).n k v = 62 := by unfold addE; rw [hn, hla]; rw [if_neg (by omega), if_neg (by omega), if_pos ⟨by omega, (by omega : M < szB R ((bldF R tk).raw.length + (wrB (ahd R tk.length (lastK tk)) k v).length) (tk.length + 1))⟩]
   have ht : addT R M tk k v = tk := by unfold addT; rw [he, if_neg (by omega)]
   rw [he, ht]
   exact ⟨_, rfl, ⟨_, _, rfl, hvL⟩, hM24.keep (by simp)⟩
  refine h20 _ _ <| seq fun _ h27 => mv <| mv <| nilchk rfl <| fa rfl <| m_ld (v := vL) hM24 (i := 0) (j := 0) rfl rfl rfl rfl <| mv <| mv <| stp (v := .agg ([.string (str k), .string (str v)] : List Value).toArray) (o_bld rfl rfl) <| m_app1S (enc := pairC) (q := (k, v)) hM24 (i := 1) rfl hvL rfl (by simp) (rfl) (rfl) (by first | omega | (simp; omega)) (by omega) fun v28 w28 r28 u28 (hs28 : SlS pairC 2 35 v28 (tk ++ [(k, v)]) r28) (hM28 : Mem _ _ w28 [_, r28]) => nilchk rfl <| fa rfl <| m_st (v := v28) hM28 (i := 0) rfl rfl rfl (Sl.one hs28) (by simp) fun w29 (hM29 : Mem _ _ w29 [[⟨rb, 55, [.int .i64 (R : Nat), .int .i64 (M : Nat), v28, .int .i64 ((bldF R tk).raw.length : Nat)]⟩], _]) => h27 _ _ <| seq fun _ h30 => mv <| mv <| nilchk rfl <| fa rfl <| m_ld (v := .int .i64 ((bldF R tk).raw.length : Nat)) hM29 (i := 0) (j := 0) rfl rfl rfl rfl <| mv <| stp (v := .int .i64 ((bldF R tk).raw.length + (wrB (ahd R tk.length (lastK tk)) k v).length : Nat)) (o_bin rfl rfl ((v_add64 (by omega)).trans (v_int (by omega)))) <| nilchk rfl <| fa rfl <| m_st (v := .int .i64 ((bldF R tk).raw.length + (wrB (ahd R tk.length (lastK tk)) k v).length : Nat)) hM29 (i := 0) rfl rfl rfl rfl (by simp) fun w31 (hM31 : Mem _ _ w31 [[⟨rb, 55, [.int .i64 (R : Nat), .int .i64 (M : Nat), v28, .int .i64 ((bldF R tk).raw.length + (wrB (ahd R tk.length (lastK tk)) k v).length : Nat)]⟩], _]) => h30 _ _ <| seq fun _ h32 => mv <| h32 _ _ <| ⟨(.int .i64 0), rfl, ?_⟩
  have he : addE R M (bldF R tk).raw (bldF R tk).last (bldF R tk).n k v = 0 := by
   unfold addE; rw [hn, hla, if_neg (by omega), if_neg (by omega), if_neg (by first | omega | (rintro ⟨q1, q2⟩; have q3 : M < szB R ((bldF R tk).raw.length + (wrB (ahd R tk.length (lastK tk)) k v).length) (tk.length + 1) := q2; omega))]
  have ht : addT R M tk k v = tk ++ [(k, v)] := by unfold addT; rw [he, if_pos rfl]
  have hbl : (bldF R (tk ++ [(k, v)])).raw.length = (bldF R tk).raw.length + (wrB (ahd R tk.length (lastK tk)) k v).length := by
   rw [bld_snoc]
   show ((bldF R tk).raw ++ wrB (ahd R (bldF R tk).n (bldF R tk).last) k v).length = _
   rw [List.length_append, hn, bld_last]
  rw [he, ht]
  unfold RbT
  rw [hbl]
  exact ⟨_, rfl, ⟨_, _, rfl, by assumption⟩, hM31.keep (by simp)⟩
 refine gx rfl <| gx rfl <| gx rfl <| gx rfl <| gxl rfl <| gx rfl <| gx rfl <| gx rfl <| gx rfl <| gxl rfl <| gxl rfl <| gx rfl <| pkF rfl <| h12 _ _ <| cndF rfl <| h11 _ _ <| seq fun _ h33 => mv <| mv <| mv <| m_call (Rlength_ok rb R M tk (⟨rb, 55, [.int .i64 (R : Nat), .int .i64 (M : Nat), vL, .int .i64 ((bldF R tk).raw.length : Nat)]⟩ :: rl) w ⟨_, _, rfl, hvL⟩ (Mem.res2 hM0 0 1 rfl rfl (by decide)) hR ho k v (by omega) (by omega)) rfl fun v34 w34 ⟨hr34, hm34⟩ => ?_
 have hM34 : Mem _ _ w34 [_, _] := Mem.step2 hM0 0 1 rfl rfl (by decide) (hm34.keep (by simp) : Mem _ _ _ [[⟨rb, 55, [.int .i64 (R : Nat), .int .i64 (M : Nat), vL, .int .i64 ((bldF R tk).raw.length : Nat)]⟩], rl])
 subst hr34
 have hwb := wrB_len (a := (ahd R tk.length (lastK tk))) (k := k) (v := v) (by omega) (by omega)
 refine mv <| h33 _ _ <| seq fun _ h35 => seq fun _ h36 => ?_
 intro wd e1 e2 e3 e4
 have hd := Upd.same e1 e2 e3 e4 []
 have hM37 := hM34.pure hd
 clear e1 e2 e3 e4
 refine ⟨(some [rb]), ?_⟩
 show vd _ _ _ _ _ _ _
 refine dmv <| dbn rfl rfl <| dmv <| dsplitP rfl (fun c38 => absurd c38 (by omega)) (fun c38 => dx rfl <| dx rfl <| dx rfl <| dx rfl <| dx rfl <| dx rfl <| dx rfl <| dx rfl <| dx rfl <| dx rfl <| dxq rfl <| dxl rfl <| dx rfl <| dxl rfl <| dx rfl <| dpkF rfl <| h36 _ _ <| cndF rfl <| h35 _ _ <| seq fun _ h39 => mv <| mv <| nilchk rfl <| fa rfl <| m_ld (v := vL) hM37 (i := 0) (j := 0) rfl rfl rfl rfl <| mv <| mv <| stp (v := .agg ([.string (str k), .string (str v)] : List Value).toArray) (o_bld rfl rfl) <| m_app1S (enc := pairC) (q := (k, v)) hM37 (i := 1) rfl hvL rfl (by simp) (rfl) (rfl) (by first | omega | (simp; omega)) (by omega) fun v40 w40 r40 u40 (hs40 : SlS pairC 2 35 v40 (tk ++ [(k, v)]) r40) (hM40 : Mem w (ids (⟨rb, 55, [.int .i64 (R : Nat), .int .i64 (M : Nat), vL, .int .i64 ((bldF R tk).raw.length : Nat)]⟩ :: rl)) w40 [[⟨rb, 55, [.int .i64 (R : Nat), .int .i64 (M : Nat), vL, .int .i64 ((bldF R tk).raw.length : Nat)]⟩], r40]) => nilchk rfl <| fa rfl <| m_st (v := v40) hM40 (i := 0) rfl rfl rfl (Sl.one hs40) (by simp) fun w41 (hM41 : Mem _ _ w41 [[⟨rb, 55, [.int .i64 (R : Nat), .int .i64 (M : Nat), v40, .int .i64 ((bldF R tk).raw.length : Nat)]⟩], _]) => h39 _ _ <| seq fun _ h42 => mv <| mv <| nilchk rfl <| fa rfl <| m_ld (v := .int .i64 ((bldF R tk).raw.length : Nat)) hM41 (i := 0) (j := 0) rfl rfl rfl rfl <| mv <| stp (v := .int .i64 ((bldF R tk).raw.length + (wrB (ahd R tk.length (lastK tk)) k v).length : Nat)) (o_bin rfl rfl ((v_add64 (by omega)).trans (v_int (by omega)))) <| nilchk rfl <| fa rfl <| m_st (v := .int .i64 ((bldF R tk).raw.length + (wrB (ahd R tk.length (lastK tk)) k v).length : Nat)) hM41 (i := 0) rfl rfl rfl rfl (by simp) fun w43 (hM43 : Mem _ _ w43 [[⟨rb, 55, [.int .i64 (R : Nat), .int .i64 (M : Nat), v40, .int .i64 ((bldF R tk).raw.length + (wrB (ahd R tk.length (lastK tk)) k v).length : Nat)]⟩], _]) => h42 _ _ <| seq fun _ h44 => mv <| h44 _ _ <| ⟨(.int .i64 0), rfl, ?_⟩)
 have he : addE R M (bldF R tk).raw (bldF R tk).last (bldF R tk).n k v = 0 := by
  unfold addE; rw [hn, hla, if_neg (by omega), if_neg (by omega), if_neg (by first | omega | (rintro ⟨q1, q2⟩; have q3 : M < szB R ((bldF R tk).raw.length + (wrB (ahd R tk.length (lastK tk)) k v).length) (tk.length + 1) := q2; omega))]
 have ht : addT R M tk k v = tk ++ [(k, v)] := by unfold addT; rw [he, if_pos rfl]
 have hbl : (bldF R (tk ++ [(k, v)])).raw.length = (bldF R tk).raw.length + (wrB (ahd R tk.length (lastK tk)) k v).length := by
  rw [bld_snoc]
  show ((bldF R tk).raw ++ wrB (ahd R (bldF R tk).n (bldF R tk).last) k v).length = _
  rw [List.length_append, hn, bld_last]
 rw [he, ht]
 unfold RbT
 rw [hbl]
 exact ⟨_, rfl, ⟨_, _, rfl, by assumption⟩, hM43.keep (by simp)⟩
theorem RSize_ok (rb R M : Nat) (tk : List Pr2) (r0 : List Ent) (w : World) (hB : RbT rb R M tk r0) (hr : Res w r0) (hR : 1 ≤ R ∧ R ≤ 64) (ho : OKT R tk) : Calls Tryz.prog 10 [.pointer (some ⟨rb, 0, none⟩)].toArray w (Rt fun r w' => r = .int .i64 ((szB R (bldF R tk).raw.length tk.length : Nat) : Int) ∧ Mem w (ids r0) w' [r0]) := by
 obtain ⟨vL, rl, rfl, hvL⟩ := hB
 have hM0 : Mem w (ids (⟨rb, 55, [.int .i64 (R : Nat), .int .i64 (M : Nat), vL, .int .i64 ((bldF R tk).raw.length : Nat)]⟩ :: rl)) w [[⟨rb, 55, [.int .i64 (R : Nat), .int .i64 (M : Nat), vL, .int .i64 ((bldF R tk).raw.length : Nat)]⟩], rl] := (Mem.start hr).keep (by simp)
 have hbd := ho.bd hR.1
 have htn := OKT.len hR.1 ho
 refine calls_vc mixed Tryz.func10 rfl C10 (by simp [Tryz.ntmps10]) <| seq fun _ h1 => mv <| h1 _ _ <| seq fun _ h2 => seq fun _ h3 => mv <| stp (v := .bool false) (o_isnil rfl rfl) <| mv <| splitF rfl <| gmv rfl <| stg rfl (v := .pointer (some ⟨rb, 0, none⟩)) (o_nilchk rfl rfl) <| gfa rfl rfl <| gyesl rfl ?_
 refine m_ld (v := vL) hM0 (i := 0) (j := 0) rfl rfl rfl rfl <| stg rfl (v := .int .i64 (tk.length : Nat)) (o_lenR (hvL.rd hM0 (i := 1) rfl) rfl rfl) <| gbn rfl rfl rfl <| pkF rfl <| h3 _ _ <| cndP rfl (fun c4 => ?_) (fun c4 => ?_)
 ·refine seq fun _ h5 => mv <| h5 _ _ <| ⟨(.int .i64 0), rfl, ⟨by unfold szB; rw [if_pos (by omega)]; rfl, hM0.keep (by simp)⟩⟩
 refine h2 _ _ <| seq fun _ h6 => ?_
 intro wd e1 e2 e3 e4
 have hd := Upd.same e1 e2 e3 e4 []
 have hM7 := hM0.pure hd
 clear e1 e2 e3 e4
 refine ⟨(some [rb]), ?_⟩
 show vd _ _ _ _ _ _ _
 refine dmv <| dmv <| dq (v := .pointer (some ⟨rb, 0, none⟩)) (o_nilchk rfl rfl) <| dfa rfl <| dmv <| dq (v := .pointer (some ⟨rb, 0, none⟩)) (o_nilchk rfl rfl) <| dfa rfl <| dqld rfl (by simp [isHeld]) (v := .int .i64 ((bldF R tk).raw.length : Nat)) ((hM7.at (i := 0) (j := 0) rfl rfl).cell 3) <| dl (m_ld (v := vL) hM7 (i := 0) (j := 0) rfl rfl rfl rfl <| ⟨(fun b hb => rfl), dq (v := .int .i64 (tk.length : Nat)) (o_lenR (hvL.rd hM7 (i := 1) rfl) rfl rfl) <| dl (m_call (Rwhole_ok rb R _ tk.length ((bldF R tk).raw.length) wd (hM7.at (i := 0) (j := 0) rfl rfl) hR (by omega) (by omega)) rfl fun v8 w8 ⟨hr8, hu8⟩ => ?_)⟩)
 have hM8 : Mem w (ids (⟨rb, 55, [.int .i64 (R : Nat), .int .i64 (M : Nat), vL, .int .i64 ((bldF R tk).raw.length : Nat)]⟩ :: rl)) w8 [[⟨rb, 55, [.int .i64 (R : Nat), .int .i64 (M : Nat), vL, .int .i64 ((bldF R tk).raw.length : Nat)]⟩], rl] := hM7.pure hu8
 subst hr8
 have hh8 := held_upd (wr := wd) (bs := [rb]) hu8 (fun b hb => by
  simp only [List.mem_cons, List.not_mem_nil, or_false] at hb
  rw [hb]; exact ⟨(hM7.at (i := 0) (j := 0) rfl rfl).lt, by simp⟩) (fun b hb => rfl)
 refine ⟨hh8, dmv <| h6 _ _ <| ⟨(.int .i64 (szB R ((bldF R tk).raw.length) tk.length : Nat)), rfl, ⟨rfl, hM8.keep (by simp)⟩⟩⟩
theorem RLen_ok6 (rb R M : Nat) (tk : List Pr2) (r0 : List Ent) (w : World) (hB : RbT rb R M tk r0) (hr : Res w r0) (hR : 1 ≤ R ∧ R ≤ 64) (ho : OKT R tk) : Calls Tryz.prog 12 [.pointer (some ⟨rb, 0, none⟩)].toArray w (Rt fun r w' => r = .int .i64 (tk.length : Nat) ∧ Mem w (ids r0) w' [r0]) := by
 obtain ⟨vL, rl, rfl, hvL⟩ := hB
 have hM0 : Mem w (ids (⟨rb, 55, [.int .i64 (R : Nat), .int .i64 (M : Nat), vL, .int .i64 ((bldF R tk).raw.length : Nat)]⟩ :: rl)) w [[⟨rb, 55, [.int .i64 (R : Nat), .int .i64 (M : Nat), vL, .int .i64 ((bldF R tk).raw.length : Nat)]⟩], rl] := (Mem.start hr).keep (by simp)
 have hbd := ho.bd hR.1
 have htn := OKT.len hR.1 ho
 refine calls_vc mixed Tryz.func12 rfl C12 (by simp [Tryz.ntmps12]) <| seq fun _ h1 => mv <| h1 _ _ <| seq fun _ h2 => seq fun _ h3 => mv <| stp (v := .bool false) (o_isnil rfl rfl) <| h3 _ _ <| cndF rfl <| h2 _ _ <| seq fun _ h4 => mv <| nilchk rfl ?_
 refine fa rfl <| m_ld (v := vL) hM0 (i := 0) (j := 0) rfl rfl rfl rfl <| stp (v := .int .i64 (tk.length : Nat)) (o_lenR (hvL.rd hM0 (i := 1) rfl) rfl rfl) <| mv <| h4 _ _ <| ⟨(.int .i64 (tk.length : Nat)), rfl, ⟨rfl, hM0.keep (by simp)⟩⟩
end Go.Proofs.YtifnmbmijljhfaaGreat.E
namespace Go.Proofs.YtifnmbmijljhfaaGreat.E
open Go
theorem take_snoc {tk : List Pr2} {i : Nat} (h : i < tk.length) : tk.take (i + 1) = tk.take i ++ [tk.getD i ([], [])] := by
 rw [List.take_add_one, List.getElem?_eq_getElem h, List.getD_eq_getElem?_getD, List.getElem?_eq_getElem h]; rfl
theorem last_take {tk : List Pr2} {i : Nat} (h : i ≤ tk.length) : (lastK (tk.take i)) = if i = 0 then [] else (tk.getD (i - 1) ([], [])).1 := by
 unfold lastK
 rw [List.length_take, Nat.min_eq_left h]
 by_cases h0 : i = 0
 ·subst h0; rw [if_pos rfl]; simp
 rw [if_neg h0, List.getD_eq_getElem?_getD, List.getElem?_take_of_lt (by omega), ← List.getD_eq_getElem?_getD]
theorem raw_take {R : Nat} {tk : List Pr2} {i : Nat} (h : i < tk.length) : (bldF R (tk.take (i + 1))).raw = (bldF R (tk.take i)).raw ++ wrB (ahd R i (lastK (tk.take i))) (tk.getD i ([], [])).1 (tk.getD i ([], [])).2 := by
 rw [take_snoc h, bld_snoc]
 show _ ++ wrB (ahd R (bldF R (tk.take i)).n (bldF R (tk.take i)).last) _ _ = _
 rw [bld_n, bld_last, List.length_take, Nat.min_eq_left (by omega)]
theorem st_take {R : Nat} {tk : List Pr2} {i : Nat} (h : i < tk.length) : startsF (bldF R (tk.take (i + 1))).st = if i % R = 0 then startsF (bldF R (tk.take i)).st ++ fixedI ((bldF R (tk.take i)).raw.length : Nat) 4 else startsF (bldF R (tk.take i)).st := by
 rw [take_snoc h, bld_snoc]
 show startsF (if (bldF R (tk.take i)).n % R = 0 then (bldF R (tk.take i)).st ++ [((bldF R (tk.take i)).raw.length : Int)] else (bldF R (tk.take i)).st) = _
 rw [bld_n, List.length_take, Nat.min_eq_left (by omega)]
 split
 ·unfold startsF; rw [List.map_append, List.flatten_append]; simp
 rfl
theorem take_bd {R : Nat} {tk : List Pr2} (hR : 1 ≤ R) (ho : OKT R tk) (i : Nat) : (bldF R (tk.take i)).raw.length ≤ 65536 ∧ (startsF (bldF R (tk.take i)).st).length ≤ 262144 := by
 obtain ⟨r, s, h1, h2⟩ := bld_ext R (tk.take i) (tk.drop i)
 rw [List.take_append_drop] at h1 h2
 have hb := ho.bd hR
 have e1 := congrArg List.length h1
 have e2 := congrArg List.length h2
 rw [List.length_append] at e1 e2
 rw [starts_len]
 omega
theorem OKT.vall {R : Nat} {tk : List Pr2} (h : OKT R tk) (j : Nat) : (tk.getD j ([], [])).2.length ≤ 1024 := by
 by_cases hj : j < tk.length
 ·exact (h.1 j hj).2.1
 rw [List.getD_eq_getElem?_getD, List.getElem?_eq_none (by omega)]; exact Nat.zero_le _
theorem RRaw_ok (x : Value) (R : Nat) (tk : List Pr2) (w : World) (hx : RdS pairC w x tk) (hR : 1 ≤ R ∧ R ≤ 64) (ho : OKT R tk) : Calls Tryz.prog 31 [x, .int .i64 (R : Nat)].toArray w (Rt fun r w' => ∃ rs, SlE byteV 5 r (rawT R tk) rs ∧ Mem w [] w' [rs]) := by
 have hM0 : Mem w [] w [] := Mem.nil w []
 have htn := OKT.len hR.1 ho
 refine calls_vc mixed Tryz.func31 rfl C31 (by simp [Tryz.ntmps31]) <| seq fun _ h1 => mv <| h1 _ _ <| seq fun _ h2 => mv <| mv <| h2 _ _ <| seq fun _ h3 => seq fun _ h4 => mv <| h4 _ _ ?_
 have hM5 : Mem _ _ w [[]] := hM0.addNil
 have hs5 : SlE byteV 5 (.slice none 0 0) [] [] := Sl.nil 1 5
 have hM6 : Mem _ _ w [_, []] := hM5.addNil
 have hs6 : SlE byteV 5 (.slice none 0 0) [] [] := Sl.nil 1 5
 refine lp (n := fun _ _ => False) (ι := (Nat) × (Value) × (List Ent) × (Value) × (List Ent)) (fun ⟨i, y5_, r5_, y6_, r6_⟩ f w' => f 7 = .int .i64 (i : Nat) ∧ f 5 = y5_ ∧ f 6 = y6_ ∧ f 0 = x ∧ f 1 = .int .i64 (R : Nat) ∧ Mem w [] w' [r5_, r6_] ∧ (i ≤ tk.length) ∧ (SlE byteV 5 y5_ ((bldF R (tk.take i)).raw) r5_) ∧ (SlE byteV 5 y6_ ((startsF (bldF R (tk.take i)).st)) r6_)) (fun ⟨i, y5_, r5_, y6_, r6_⟩ => tk.length - i) (0, ((.slice none 0 0)), ([]), ((.slice none 0 0)), ([])) ?_ ?_
 ·exact ⟨vi, rfl, rfl, rfl, vi, hM6, by omega, by first | exact hs5 | simpa using hs5, by first | exact hs6 | simpa using hs6⟩
 rintro ⟨i, y5_, r5_, y6_, r6_⟩ f w7 ⟨e7_7, e7_5, e7_6, e7_0, e7_1, hM7, hi, hy5_, hy6_⟩ K8 h8
 obtain ⟨frm, rfl⟩ := re5 e7_7 e7_5 e7_6 e7_0 e7_1
 refine seq fun _ h9 => seq fun _ h10 => ?_
 obtain ⟨hb1, hb2⟩ := take_bd hR.1 ho i
 have hkl := OKT.keyl ho i
 have hkl1 := OKT.keyl ho (i - 1)
 have hvl := OKT.vall ho i
 refine mv <| mv <| stp (v := .int .i64 (tk.length : Nat)) (o_lenR (hx.upd hM7.upd) rfl rfl) <| bn rfl rfl <| h10 _ _ <| cndP rfl (fun c11 => ?_) (fun c11 => ?_)
 ·refine h9 _ _ <| seq fun _ h12 => seq fun _ h13 => mv <| h13 _ _ <| seqc (fun f w' => ∃ (c : Nat) (y6 : Value) (r6 : List Ent), f 8 = .int .i64 (c : Nat) ∧ f 6 = y6 ∧ f 0 = x ∧ f 1 = .int .i64 (R : Nat) ∧ f 5 = y5_ ∧ f 7 = .int .i64 (i : Nat) ∧ Mem w [] w' [r5_, r6] ∧ (SlE byteV 5 y6 (startsF (bldF R (tk.take (i + 1))).st) r6) ∧ (c = common (ahd R i (lastK (tk.take i))) (tk.getD i ([], [])).1)) ?_ ?_
  ·intro K14 h14
   refine seq fun _ h16 => mv <| mv <| stp (v := .int .i64 (i % R : Nat)) (o_rem rfl rfl (by omega) ((v_rem (Int.natCast_nonneg _)).trans rfl)) <| bn rfl rfl <| h16 _ _ <| cndP rfl (fun c17 => ?_) (fun c17 => ?_)
   ·refine mv <| mv <| stp (v := .int .i64 (((bldF R (tk.take i)).raw).length : Nat)) (o_lenR (hy5_.rd hM7 (i := 0) rfl) rfl rfl) <| stp (v := .int .u64 ((bldF R (tk.take i)).raw.length : Nat)) (o_conv rfl (conv_u64 (by omega) (by omega))) <| m_call (refFixed_ok ((bldF R (tk.take i)).raw.length : Nat) 4 (by simp only [inK]; omega) (by simp only [inK]; omega) w7) rfl fun v18 w18 ⟨rs18, hs18, hm18⟩ => ?_
    have hM18 : Mem w [] w18 [r5_, r6_, rs18] := hM7.add hm18
    have hn18 := fixedI_len (v := ((bldF R (tk.take i)).raw.length : Nat)) (n := 4)
    refine m_appE hM18 (i := 1) rfl hy6_ rfl rfl (hs18.rd hM18 (i := 2) rfl) (by first | omega | (simp; omega)) (by omega) fun v19 w19 r19 (hs19 : SlE byteV 5 v19 ((startsF (bldF R (tk.take i)).st) ++ (fixedI ((bldF R (tk.take i)).raw.length : Nat) 4)) r19) (hM19 : Mem _ _ w19 [_, r19, _]) => mv <| h14 _ _ ⟨0, v19, r19, vi, rfl, rfl, vi, rfl, vi, hM19.keep (by simp), by rw [st_take (by omega), if_pos (by omega)]; exact hs19, by unfold ahd; rw [if_pos (by omega)]; rfl⟩
   intro wd e1 e2 e3 e4
   have hd := Upd.same e1 e2 e3 e4 []
   have hM20 := hM7.pure hd
   clear e1 e2 e3 e4
   refine ⟨(some [(blkV x)]), ?_⟩
   show vd _ _ _ _ _ _ _
   refine dmv <| dmv <| dq (v := .int .i64 ((i : Nat) - 1)) (o_bin rfl rfl (v_sub64 (by omega))) ?_
   have h0 : 0 < i := Nat.pos_of_ne_zero fun q => by
    have q2 : i % R = 0 := by rw [q]; exact Nat.zero_mod R
    omega
   refine dqp (m_idxS3 ([], []) (j := (i - 1)) (hx.upd hM20.upd) (hx.upd hM20.upd) rfl (v_int (by omega)) (by omega) fun b21 o21 hp21 hbb21 => ?_)
   show vd _ _ _ _ _ _ _
   subst hbb21
   refine dfa rfl <| dmv <| dmv <| dqp (m_idxS3 ([], []) (j := i) (hx.upd hM20.upd) (hx.upd hM20.upd) rfl rfl (by omega) fun b22 o22 hp22 hbb22 => ?_)
   show vd _ _ _ _ _ _ _
   subst hbb22
   refine dfa rfl <| dqld rfl (by simp [isHeld]) (v := .string (str ((tk.getD i ([], [])).1))) (hp22.get 0 rfl) <| dl (ld (v := .string (str ((tk.getD (i - 1) ([], [])).1))) rfl (hp21.get 0 rfl) <| ⟨(fun b hb => rfl), dl (m_call (refCommon_ok ((tk.getD (i - 1) ([], [])).1) ((tk.getD i ([], [])).1) wd (by first | omega | (simp; done) | (simp; omega)) (by first | omega | (simp; done) | (simp; omega))) rfl fun v23 w23 ⟨hr23, hu23⟩ => ?_)⟩)
   have hM23 : Mem w [] w23 [r5_, r6_] := hM20.pure hu23
   subst hr23
   have hh23 := held_upd (wr := wd) (bs := [(blkV x)]) hu23 (fun b hb => by
    simp only [List.mem_cons, List.not_mem_nil, or_false] at hb
    rw [hb]; exact ⟨Rd.blkV_ltS (hx.upd hM20.upd) (by omega), by simp⟩) (fun b hb => rfl)
   refine ⟨hh23, dmv <| h14 _ _ ⟨(common (tk.getD (i - 1) ([], [])).1 (tk.getD i ([], [])).1), y6_, r6_, vi, rfl, rfl, vi, rfl, vi, hM23.keep (by simp), by rw [st_take (by omega), if_neg (by omega)]; exact hy6_, by rw [last_take (by omega), if_neg (by intro q; subst q; exact absurd (Nat.zero_mod R) (by omega))]; unfold ahd; rw [if_neg (by omega)]⟩⟩
  rintro f w15 ⟨c, y6, r6, e15_8, e15_6, e15_0, e15_1, e15_5, e15_7, hM15, h6, hc⟩
  obtain ⟨frm, rfl⟩ := re6 e15_8 e15_6 e15_0 e15_1 e15_5 e15_7
  refine seq fun _ h24 => mv ?_
  have hcl := common_le (ahd R i (lastK (tk.take i))) (tk.getD i ([], [])).1
  rw [← hc] at hcl
  have hwl := wrB_len (a := (ahd R i (lastK (tk.take i)))) (k := (tk.getD i ([], [])).1) (v := (tk.getD i ([], [])).2) hkl hvl
  obtain ⟨hb3, hb4⟩ := take_bd hR.1 ho (i + 1)
  refine mv <| m_call (refPut_ok (c : Nat) (by simp only [inK]; omega) w15) rfl fun v25 w25 ⟨rs25, hs25, hm25⟩ => ?_
  have hM25 : Mem w [] w25 [r5_, r6, rs25] := hM15.add hm25
  have hn25 := putI_len (v := (c : Nat)) (by omega)
  refine m_appE hM25 (i := 0) rfl hy5_ rfl rfl (hs25.rd hM25 (i := 2) rfl) (by first | omega | (simp; omega)) (by omega) fun v26 w26 r26 (hs26 : SlE byteV 5 v26 (((bldF R (tk.take i)).raw) ++ (putI (c : Nat))) r26) (hM26 : Mem _ _ w26 [r26, _, _]) => mv <| h24 _ _ <| seq fun _ h27 => ?_
  have hx1 : ((bldF R (tk.take i)).raw ++ putI (c : Nat)).length = (bldF R (tk.take i)).raw.length + (putI (c : Nat)).length := List.length_append
  refine mv <| mv <| mv <| m_idxS ([], []) (j := i) (hx.upd hM26.upd) rfl rfl (by omega) fun b28 o28 hp28 => fa rfl <| ld (v := .string (str ((tk.getD i ([], [])).1))) rfl (hp28.get 0 rfl) <| stp (v := .int .i64 (((tk.getD i ([], [])).1).length : Nat)) (o_lens rfl rfl) <| mv <| stp (v := .int .i64 ((((tk.getD i ([], [])).1).length : Nat) - (c : Nat))) (o_bin rfl rfl (v_sub64 (by omega))) <| m_call (refPut_ok ((((tk.getD i ([], [])).1).length : Nat) - (c : Nat)) (by simp only [inK]; omega) w26) rfl fun v29 w29 ⟨rs29, hs29, hm29⟩ => ?_
  have hM29 : Mem _ _ w29 [_, _, _, rs29] := hM26.add hm29
  have hn29 := putI_len (v := (((tk.getD i ([], [])).1).length : Nat) - (c : Nat)) (by omega)
  refine m_appE hM29 (i := 0) rfl hs26 rfl rfl (hs29.rd hM29 (i := 3) rfl) (by first | omega | (simp; omega)) (by omega) fun v30 w30 r30 (hs30 : SlE byteV 5 v30 ((((bldF R (tk.take i)).raw) ++ (putI (c : Nat))) ++ (putI ((((tk.getD i ([], [])).1).length : Nat) - (c : Nat)))) r30) (hM30 : Mem _ _ w30 [r30, _, _, _]) => mv <| h27 _ _ <| seq fun _ h31 => ?_
  have hx2 : (((bldF R (tk.take i)).raw ++ putI (c : Nat)) ++ putI (((tk.getD i ([], [])).1.length : Nat) - (c : Nat))).length = ((bldF R (tk.take i)).raw ++ putI (c : Nat)).length + (putI (((tk.getD i ([], [])).1.length : Nat) - (c : Nat))).length := List.length_append
  refine mv <| mv <| mv <| m_idxS ([], []) (j := i) (hx.upd hM30.upd) rfl rfl (by omega) fun b32 o32 hp32 => fa rfl <| ld (v := .string (str ((tk.getD i ([], [])).2))) rfl (hp32.get 1 rfl) <| stp (v := .int .i64 (((tk.getD i ([], [])).2).length : Nat)) (o_lens rfl rfl) <| m_call (refPut_ok (((tk.getD i ([], [])).2).length : Nat) (by simp only [inK]; omega) w30) rfl fun v33 w33 ⟨rs33, hs33, hm33⟩ => ?_
  have hM33 : Mem _ _ w33 [_, _, _, _, rs33] := hM30.add hm33
  have hn33 := putI_len (v := (((tk.getD i ([], [])).2).length : Nat)) (by omega)
  refine m_appE hM33 (i := 0) rfl hs30 rfl rfl (hs33.rd hM33 (i := 4) rfl) (by first | omega | (simp; omega)) (by omega) fun v34 w34 r34 (hs34 : SlE byteV 5 v34 (((((bldF R (tk.take i)).raw) ++ (putI (c : Nat))) ++ (putI ((((tk.getD i ([], [])).1).length : Nat) - (c : Nat)))) ++ (putI (((tk.getD i ([], [])).2).length : Nat))) r34) (hM34 : Mem _ _ w34 [r34, _, _, _, _]) => mv <| h31 _ _ <| seq fun _ h35 => ?_
  have hx3 : ((((bldF R (tk.take i)).raw ++ putI (c : Nat)) ++ putI (((tk.getD i ([], [])).1.length : Nat) - (c : Nat))) ++ putI ((tk.getD i ([], [])).2.length : Nat)).length = (((bldF R (tk.take i)).raw ++ putI (c : Nat)) ++ putI (((tk.getD i ([], [])).1.length : Nat) - (c : Nat))).length + (putI ((tk.getD i ([], [])).2.length : Nat)).length := List.length_append
  have hx5 : (((tk.getD i ([], [])).1.take (tk.getD i ([], [])).1.length).drop c).length = (tk.getD i ([], [])).1.length - c := by rw [List.take_length, List.length_drop]
  refine mv <| mv <| mv <| m_idxS ([], []) (j := i) (hx.upd hM34.upd) rfl rfl (by omega) fun b36 o36 hp36 => fa rfl <| ld (v := .string (str ((tk.getD i ([], [])).1))) rfl (hp36.get 0 rfl) <| mv <| stp (v := .string (str ((((tk.getD i ([], [])).1).take (((tk.getD i ([], [])).1).length)).drop c))) (o_slcs (a := c) (b := ((tk.getD i ([], [])).1).length) rfl (by omega) rfl ⟨_, rfl⟩ rfl) <| m_s2b hM34 rfl fun v37 w37 r37 hs37 (hM37 : Mem _ _ w37 [_, _, _, _, _, r37]) => m_appE hM37 (i := 0) rfl hs34 rfl rfl (hs37.rd hM37 (i := 5) rfl) (by first | omega | (simp; omega)) (by omega) fun v38 w38 r38 (hs38 : SlE byteV 5 v38 ((((((bldF R (tk.take i)).raw) ++ (putI (c : Nat))) ++ (putI ((((tk.getD i ([], [])).1).length : Nat) - (c : Nat)))) ++ (putI (((tk.getD i ([], [])).2).length : Nat))) ++ ((((tk.getD i ([], [])).1).take (((tk.getD i ([], [])).1).length)).drop c)) r38) (hM38 : Mem _ _ w38 [r38, _, _, _, _, _]) => mv <| h35 _ _ ?_
  have hx4 : (((((bldF R (tk.take i)).raw ++ putI (c : Nat)) ++ putI (((tk.getD i ([], [])).1.length : Nat) - (c : Nat))) ++ putI ((tk.getD i ([], [])).2.length : Nat)) ++ ((tk.getD i ([], [])).1.take (tk.getD i ([], [])).1.length).drop c).length = ((((bldF R (tk.take i)).raw ++ putI (c : Nat)) ++ putI (((tk.getD i ([], [])).1.length : Nat) - (c : Nat))) ++ putI ((tk.getD i ([], [])).2.length : Nat)).length + (((tk.getD i ([], [])).1.take (tk.getD i ([], [])).1.length).drop c).length := List.length_append
  refine mv <| mv <| mv <| m_idxS ([], []) (j := i) (hx.upd hM38.upd) rfl rfl (by omega) fun b39 o39 hp39 => fa rfl <| ld (v := .string (str ((tk.getD i ([], [])).2))) rfl (hp39.get 1 rfl) <| m_s2b hM38 rfl fun v40 w40 r40 hs40 (hM40 : Mem _ _ w40 [_, _, _, _, _, _, r40]) => m_appE hM40 (i := 0) rfl hs38 rfl rfl (hs40.rd hM40 (i := 6) rfl) (by first | omega | (simp; omega)) (by omega) fun v41 w41 r41 (hs41 : SlE byteV 5 v41 (((((((bldF R (tk.take i)).raw) ++ (putI (c : Nat))) ++ (putI ((((tk.getD i ([], [])).1).length : Nat) - (c : Nat)))) ++ (putI (((tk.getD i ([], [])).2).length : Nat))) ++ ((((tk.getD i ([], [])).1).take (((tk.getD i ([], [])).1).length)).drop c)) ++ ((tk.getD i ([], [])).2)) r41) (hM41 : Mem _ _ w41 [r41, _, _, _, _, _, _]) => mv <| h12 _ _ <| mv <| stp (v := .int .i64 ((i : Nat) + 1)) (o_bin rfl rfl (v_add64 (by omega))) <| mv <| h8 (i + 1, v41, r41, y6, r6) _ _ ⟨vi, rfl, rfl, rfl, vi, hM41.keep (by simp), by omega, by rw [raw_take (by omega)]; unfold wrB; rw [← hc]; simpa using hs41, h6⟩ (by (try dsimp only); omega)
 refine h3 _ _ <| seq fun _ h42 => ?_
 obtain rfl : i = tk.length := by omega
 rw [List.take_of_length_le (Nat.le_refl _)] at hy5_ hy6_ hb1 hb2
 refine mv <| mv <| m_appE hM7 (i := 0) rfl hy5_ rfl rfl (hy6_.rd hM7 (i := 1) rfl) (by first | omega | (simp; omega)) (by omega) fun v43 w43 r43 (hs43 : SlE byteV 5 v43 (((bldF R tk).raw) ++ (startsF (bldF R tk).st)) r43) (hM43 : Mem w [] w43 [r43, r6_]) => mv <| h42 _ _ <| seq fun _ h44 => mv <| mv <| stp (v := .int .u64 (R : Nat)) (o_conv rfl (conv_u64 (by omega) (by omega))) <| m_call (refFixed_ok (R : Nat) 4 (by simp only [inK]; omega) (by simp only [inK]; omega) w43) rfl fun v45 w45 ⟨rs45, hs45, hm45⟩ => ?_
 have hM45 : Mem _ _ w45 [_, _, rs45] := hM43.add hm45
 have hn45 := fixedI_len (v := (R : Nat)) (n := 4)
 refine m_appE hM45 (i := 0) rfl hs43 rfl rfl (hs45.rd hM45 (i := 2) rfl) (by first | omega | (simp; omega)) (by omega) fun v46 w46 r46 (hs46 : SlE byteV 5 v46 ((((bldF R tk).raw) ++ (startsF (bldF R tk).st)) ++ (fixedI (R : Nat) 4)) r46) (hM46 : Mem _ _ w46 [r46, _, _]) => mv <| h44 _ _ <| seq fun _ h47 => mv <| mv <| stp (v := .int .i64 (tk.length : Nat)) (o_lenR (hx.upd hM46.upd) rfl rfl) <| stp (v := .int .u64 (tk.length : Nat)) (o_conv rfl (conv_u64 (by omega) (by omega))) <| m_call (refFixed_ok (tk.length : Nat) 4 (by simp only [inK]; omega) (by simp only [inK]; omega) w46) rfl fun v48 w48 ⟨rs48, hs48, hm48⟩ => ?_
 have hM48 : Mem _ _ w48 [_, _, _, rs48] := hM46.add hm48
 have hn48 := fixedI_len (v := (tk.length : Nat)) (n := 4)
 refine m_appE hM48 (i := 0) rfl hs46 rfl rfl (hs48.rd hM48 (i := 3) rfl) (by first | omega | (simp; omega)) (by omega) fun v49 w49 r49 (hs49 : SlE byteV 5 v49 (((((bldF R tk).raw) ++ (startsF (bldF R tk).st)) ++ (fixedI (R : Nat) 4)) ++ (fixedI (tk.length : Nat) 4)) r49) (hM49 : Mem _ _ w49 [r49, _, _, _]) => mv <| h47 _ _ <| ⟨v49, rfl, ⟨_, by unfold rawT rawB; simpa using hs49, hM49.keep (by simp)⟩⟩
end Go.Proofs.YtifnmbmijljhfaaGreat.E
namespace Go.Proofs.YtifnmbmijljhfaaGreat.E
open Go
theorem tile_of {R : Nat} {tk : List Pr2} {bl : List UInt8} {fl : Nat} (h1 : bl = (bestF (rawT R tk) 3).1) (h2 : (fl : Int) = (bestF (rawT R tk) 3).2) : tileT R tk = sealF (bl ++ [fl.toUInt8]) := by
 unfold tileT
 rw [← h1, ← h2]; rfl
theorem Seal_ok (x : Value) (b : List UInt8) (w : World) (hx : RdE byteV w x b) (hl : b.length ≤ 140737488355328) : Calls Tryz.prog 34 [x].toArray w (Rt fun r w' => ∃ rs, SlE byteV 5 r (sealF b) rs ∧ Mem w [] w' [rs]) := by
 have hM0 : Mem w [] w [] := Mem.nil w []
 refine calls_vc mixed Tryz.func34 rfl C34 (by simp [Tryz.ntmps34]) <| seq fun _ h1 => mv <| h1 _ _ <| seq fun _ h2 => m_bs hM0 rfl fun b3 w4 (hM4 : Mem _ _ w4 [[⟨b3, 5, []⟩]]) => mv ?_
 have hs5 : SlE byteV 5 (.slice (some ⟨b3, 0, none⟩) 0 0) [] [⟨b3, 5, []⟩] := SlE.lit (l := []) rfl
 refine m_appE hM4 (i := 0) rfl hs5 rfl rfl (hx.upd hM4.upd) (by first | omega | (simp; omega)) (by omega) fun v6 w6 r6 (hs6 : SlE byteV 5 v6 (b) r6) (hM6 : Mem _ _ w6 [r6]) => mv <| h2 _ _ <| seq fun _ h7 => mv <| m_call (refSum_ok _ b w6 (hx.upd hM6.upd) (by first | omega | (simp; done) | (simp; omega))) rfl fun v8 w8 ⟨hr8, hu8⟩ => ?_
 have hM8 : Mem _ _ w8 [_] := hM6.pure hu8
 subst hr8
 have hcl8 := crcN_lt 0 b
 refine mv <| h7 _ _ <| seq fun _ h9 => mv <| mv <| stp (v := byteV (((crcN 0 b) % 256).toUInt8)) (o_conv rfl (byte4 _)) <| mv <| stp (v := .int .u32 ((crcN 0 b) / 256 : Nat)) (o_shr rfl rfl (by omega) (shr32 (j := 8) (by omega) rfl)) <| stp (v := byteV ((((crcN 0 b) / 256) % 256).toUInt8)) (o_conv rfl (byte4 _)) <| mv <| stp (v := .int .u32 ((crcN 0 b) / 65536 : Nat)) (o_shr rfl rfl (by omega) (shr32 (j := 16) (by omega) rfl)) <| stp (v := byteV ((((crcN 0 b) / 65536) % 256).toUInt8)) (o_conv rfl (byte4 _)) <| mv <| stp (v := .int .u32 ((crcN 0 b) / 16777216 : Nat)) (o_shr rfl rfl (by omega) (shr32 (j := 24) (by omega) rfl)) ?_
 refine stp (v := byteV ((((crcN 0 b) / 16777216) % 256).toUInt8)) (o_conv rfl (byte4 _)) <| m_bs hM8 rfl fun b10 w11 (hM11 : Mem _ _ w11 [_, [⟨b10, 5, [byteV (((crcN 0 b) % 256).toUInt8), byteV ((((crcN 0 b) / 256) % 256).toUInt8), byteV ((((crcN 0 b) / 65536) % 256).toUInt8), byteV ((((crcN 0 b) / 16777216) % 256).toUInt8)]⟩]]) => m_appE hM11 (i := 0) rfl hs6 rfl rfl (own_rdE (E := byteV) (l := [((crcN 0 b) % 256).toUInt8, (((crcN 0 b) / 256) % 256).toUInt8, (((crcN 0 b) / 65536) % 256).toUInt8, (((crcN 0 b) / 16777216) % 256).toUInt8]) (hM11.at (i := 1) (j := 0) rfl rfl) rfl) (by first | omega | (simp; omega)) (by omega) fun v12 w12 r12 (hs12 : SlE byteV 5 v12 (b ++ ([((crcN 0 b) % 256).toUInt8, (((crcN 0 b) / 256) % 256).toUInt8, (((crcN 0 b) / 65536) % 256).toUInt8, (((crcN 0 b) / 16777216) % 256).toUInt8])) r12) (hM12 : Mem _ _ w12 [r12, _]) => mv <| h9 _ _ <| ⟨v12, rfl, ⟨_, by unfold sealF; rw [fixed4]; simpa using hs12, hM12.keep (by simp)⟩⟩
theorem RFinish_ok (rb R M : Nat) (tk : List Pr2) (r0 : List Ent) (w : World) (hB : RbT rb R M tk r0) (hr : Res w r0) (hR : 1 ≤ R ∧ R ≤ 64) (ho : OKT R tk) (h0 : 0 < tk.length) : Calls Tryz.prog 14 [.pointer (some ⟨rb, 0, none⟩)].toArray w (Rt fun r w' => ∃ v rq rt, r = .tuple [v, .int .i64 ((rawT R tk).length : Nat), .int .i64 0].toArray ∧ SlE byteV 5 v (tileT R tk) rt ∧ RbT rb R M [] rq ∧ Mem w (ids r0) w' [rq, rt]) := by
 obtain ⟨vL, rl, rfl, hvL⟩ := hB
 have hM0 : Mem w (ids (⟨rb, 55, [.int .i64 (R : Nat), .int .i64 (M : Nat), vL, .int .i64 ((bldF R tk).raw.length : Nat)]⟩ :: rl)) w [[⟨rb, 55, [.int .i64 (R : Nat), .int .i64 (M : Nat), vL, .int .i64 ((bldF R tk).raw.length : Nat)]⟩], rl] := (Mem.start hr).keep (by simp)
 have hbd := ho.bd hR.1
 have htn := OKT.len hR.1 ho
 have hl := ho.raw hR.1 h0
 obtain ⟨hz1, hz⟩ := lz_len hl
 obtain ⟨hy1, hy⟩ := huff_len hl
 refine calls_vc mixed Tryz.func14 rfl C14 (by simp [Tryz.ntmps14]) <| seq fun _ h1 => mv <| mv <| mv <| h1 _ _ <| seq fun _ h2 => seq fun _ h3 => mv <| stp (v := .bool false) (o_isnil rfl rfl) <| h3 _ _ <| cndF rfl <| h2 _ _ <| seq fun _ h4 => ?_
 refine seq fun _ h5 => mv <| nilchk rfl <| fa rfl <| m_ld (v := vL) hM0 (i := 0) (j := 0) rfl rfl rfl rfl <| stp (v := .int .i64 (tk.length : Nat)) (o_lenR (hvL.rd hM0 (i := 1) rfl) rfl rfl) <| bn rfl rfl <| h5 _ _ <| cndP rfl (fun c6 => absurd c6 (by omega)) (fun c6 => h4 _ _ <| seq fun _ h7 => ?_)
 intro wd e1 e2 e3 e4
 have hd := Upd.same e1 e2 e3 e4 []
 have hM8 := hM0.pure hd
 clear e1 e2 e3 e4
 refine ⟨(some [rb]), ?_⟩
 show vd _ _ _ _ _ _ _
 refine dmv <| dq (v := .pointer (some ⟨rb, 0, none⟩)) (o_nilchk rfl rfl) <| dfa rfl <| dmv <| dq (v := .pointer (some ⟨rb, 0, none⟩)) (o_nilchk rfl rfl) <| dfa rfl <| dqld rfl (by simp [isHeld]) (v := .int .i64 (R : Nat)) ((hM8.at (i := 0) (j := 0) rfl rfl).cell 0) <| dl (m_ld (v := vL) hM8 (i := 0) (j := 0) rfl rfl rfl rfl <| ⟨(fun b hb => rfl), dl (m_call (RRaw_ok _ R tk wd (hvL.rd hM8 (i := 1) rfl) hR ho) rfl fun v9 w9 ⟨rs9, hs9, hm9⟩ => ?_)⟩)
 have hM9 : Mem w (ids (⟨rb, 55, [.int .i64 (R : Nat), .int .i64 (M : Nat), vL, .int .i64 ((bldF R tk).raw.length : Nat)]⟩ :: rl)) w9 [[⟨rb, 55, [.int .i64 (R : Nat), .int .i64 (M : Nat), vL, .int .i64 ((bldF R tk).raw.length : Nat)]⟩], rl, rs9] := hM8.add hm9
 have hh9 := held_upd (wr := wd) (bs := [rb]) hm9.upd (fun b hb => by
  simp only [List.mem_cons, List.not_mem_nil, or_false] at hb
  rw [hb]; exact ⟨(hM8.at (i := 0) (j := 0) rfl rfl).lt, by simp⟩) (fun b hb => rfl)
 refine ⟨hh9, dmv <| h7 _ _ <| seq fun _ h10 => mv <| mv <| h10 _ _ <| seq fun _ h11 => mv <| h11 _ _ <| seq fun _ h12 => mv <| m_call (Lz.refEncode_ok _ (rawT R tk) w9 (hs9.rd hM9 (i := 2) rfl) (by omega)) rfl fun v13 w13 ⟨y13, rs13, hr13, hs13, hm13⟩ => ?_⟩
 have hM13 : Mem _ _ w13 [_, _, _, rs13] := hM9.add hm13
 subst hr13
 refine mv <| ext rfl rfl <| ext rfl rfl <| mv <| mv <| h12 _ _ <| seqc (fun f w' => ∃ (vq : Value) (bl : List UInt8) (fl : Nat) (re : List Ent), f 6 = vq ∧ f 7 = .int .u8 ((fl : Nat) : Int) ∧ f 0 = .pointer (some ⟨rb, 0, none⟩) ∧ f 5 = v9 ∧ Mem w (ids (⟨rb, 55, [.int .i64 (R : Nat), .int .i64 (M : Nat), vL, .int .i64 ((bldF R tk).raw.length : Nat)]⟩ :: rl)) w' [[⟨rb, 55, [.int .i64 (R : Nat), .int .i64 (M : Nat), vL, .int .i64 ((bldF R tk).raw.length : Nat)]⟩], rl, rs9, re] ∧ (∀ w2, (∀ e ∈ rs9, Own w2 e) → (∀ e ∈ re, Own w2 e) → RdE byteV w2 vq bl) ∧ (bl = (bestF (rawT R tk) 2).1) ∧ ((fl : Int) = (bestF (rawT R tk) 2).2)) ?_ ?_
 ·intro K14 h14
  refine seq fun _ h16 => mv <| bn rfl rfl <| mv <| splitP rfl (fun c17 => ?_) (fun c17 => (c17 (by omega)).elim)
  refine gmv rfl <| stg rfl (v := .int .i64 (((Lz.encF (rawT R tk)).1).length : Nat)) (o_lenR (hs13.rd hM13 (i := 3) rfl) rfl rfl) <| gmv rfl <| stg rfl (v := .int .i64 ((rawT R tk).length : Nat)) (o_lenR (hs9.rd hM13 (i := 2) rfl) rfl rfl) <| gbn rfl rfl rfl <| pkT rfl <| mv <| splitP rfl (fun c18 => ?_) (fun c18 => ?_)
  ·refine gmv rfl <| stg rfl (v := .int .i64 (((Lz.encF (rawT R tk)).1).length : Nat)) (o_lenR (hs13.rd hM13 (i := 3) rfl) rfl rfl) <| stg rfl (v := .int .i64 (64 * (((Lz.encF (rawT R tk)).1).length : Nat))) (o_bin rfl rfl (v_mul64 (by omega))) <| gmv rfl <| stg rfl (v := .int .i64 ((rawT R tk).length : Nat)) (o_lenR (hs9.rd hM13 (i := 2) rfl) rfl rfl) <| gbn rfl rfl rfl <| pkT rfl <| h16 _ _ <| cndP rfl (fun c19 => ?_) (fun c19 => ?_)
   ·refine seq fun _ h20 => mv <| mv <| h20 _ _ <| mv <| h14 _ _ ⟨y13, ((Lz.encF (rawT R tk)).1), 1, rs13, rfl, vi, rfl, rfl, hM13.keep (by simp), fun w2 _ h2 => (hs13).rdOwn fun e he => h2 e he, (best_yes1 (k := 1) (bl := (rawT R tk)) (by rw [best_0]) (by show _ ≤ 64 * (Lz.encF (rawT R tk)).1.length; omega) (by show (Lz.encF (rawT R tk)).1.length < _; omega)).1, (best_yes1 (k := 1) (bl := (rawT R tk)) (by rw [best_0]) (by show _ ≤ 64 * (Lz.encF (rawT R tk)).1.length; omega) (by show (Lz.encF (rawT R tk)).1.length < _; omega)).2⟩
   refine h14 _ _ ⟨v9, (rawT R tk), 0, ([]), rfl, vi, rfl, rfl, hM13.keep (by simp), fun w2 h1 _ => (hs9).rdOwn h1, (best_no1 (k := 1) (by omega) ((by rw [best_0] : (rawT R tk) = (bestF (rawT R tk) 1).1)) ((by rw [best_0] : (0 : Int) = (bestF (rawT R tk) 1).2)) (by show ¬ (_ ≤ 64 * (Lz.encF (rawT R tk)).1.length ∧ (Lz.encF (rawT R tk)).1.length < _); omega)).1, (best_no1 (k := 1) (by omega) ((by rw [best_0] : (rawT R tk) = (bestF (rawT R tk) 1).1)) ((by rw [best_0] : (0 : Int) = (bestF (rawT R tk) 1).2)) (by show ¬ (_ ≤ 64 * (Lz.encF (rawT R tk)).1.length ∧ (Lz.encF (rawT R tk)).1.length < _); omega)).2⟩
  refine gx rfl <| gx rfl <| gx rfl <| gx rfl <| gx rfl <| gx rfl <| pkF rfl <| h16 _ _ <| cndF rfl <| h14 _ _ ⟨v9, (rawT R tk), 0, ([]), rfl, vi, rfl, rfl, hM13.keep (by simp), fun w2 h1 _ => (hs9).rdOwn h1, (best_no1 (k := 1) (by omega) ((by rw [best_0] : (rawT R tk) = (bestF (rawT R tk) 1).1)) ((by rw [best_0] : (0 : Int) = (bestF (rawT R tk) 1).2)) (by show ¬ (_ ≤ 64 * (Lz.encF (rawT R tk)).1.length ∧ (Lz.encF (rawT R tk)).1.length < _); omega)).1, (best_no1 (k := 1) (by omega) ((by rw [best_0] : (rawT R tk) = (bestF (rawT R tk) 1).1)) ((by rw [best_0] : (0 : Int) = (bestF (rawT R tk) 1).2)) (by show ¬ (_ ≤ 64 * (Lz.encF (rawT R tk)).1.length ∧ (Lz.encF (rawT R tk)).1.length < _); omega)).2⟩
 rintro f w15 ⟨vq, bl, fl, re, e15_6, e15_7, e15_0, e15_5, hM15, hb, hbl, hfl⟩
 obtain ⟨frm, rfl⟩ := re4 e15_6 e15_7 e15_0 e15_5
 refine seq fun _ h21 => mv <| m_call (Hf.refEncode_ok _ (rawT R tk) w15 (hs9.rd hM15 (i := 2) rfl) (by omega)) rfl fun v22 w22 ⟨y22, rs22, hr22, hs22, hm22⟩ => ?_
 have hM22 : Mem w (ids (⟨rb, 55, [.int .i64 (R : Nat), .int .i64 (M : Nat), vL, .int .i64 ((bldF R tk).raw.length : Nat)]⟩ :: rl)) w22 [[⟨rb, 55, [.int .i64 (R : Nat), .int .i64 (M : Nat), vL, .int .i64 ((bldF R tk).raw.length : Nat)]⟩], rl, rs9, re, rs22] := hM15.add hm22
 subst hr22
 refine mv <| ext rfl rfl <| ext rfl rfl <| mv <| mv <| h21 _ _ <| seqc (fun f w' => ∃ (vq : Value) (bl : List UInt8) (fl : Nat) (re : List Ent), f 6 = vq ∧ f 7 = .int .u8 ((fl : Nat) : Int) ∧ f 0 = .pointer (some ⟨rb, 0, none⟩) ∧ f 5 = v9 ∧ Mem w (ids (⟨rb, 55, [.int .i64 (R : Nat), .int .i64 (M : Nat), vL, .int .i64 ((bldF R tk).raw.length : Nat)]⟩ :: rl)) w' [[⟨rb, 55, [.int .i64 (R : Nat), .int .i64 (M : Nat), vL, .int .i64 ((bldF R tk).raw.length : Nat)]⟩], rl, rs9, re] ∧ (∀ w2, (∀ e ∈ rs9, Own w2 e) → (∀ e ∈ re, Own w2 e) → RdE byteV w2 vq bl) ∧ (bl = (bestF (rawT R tk) 3).1) ∧ ((fl : Int) = (bestF (rawT R tk) 3).2)) ?_ ?_
 ·intro K23 h23
  refine seq fun _ h25 => mv <| bn rfl rfl <| mv <| splitP rfl (fun c26 => ?_) (fun c26 => (c26 (by omega)).elim)
  refine gmv rfl <| stg rfl (v := .int .i64 (((Hf.encR (rawT R tk)).1).length : Nat)) (o_lenR (hs22.rd hM22 (i := 4) rfl) rfl rfl) <| gmv rfl <| stg rfl (v := .int .i64 (bl.length : Nat)) (o_lenR (hb _ (hM22.res (i := 2) rfl).1 (hM22.res (i := 3) rfl).1) rfl rfl) <| gbn rfl rfl rfl <| pkT rfl <| mv <| splitP rfl (fun c27 => ?_) (fun c27 => ?_)
  ·refine gmv rfl <| stg rfl (v := .int .i64 (((Hf.encR (rawT R tk)).1).length : Nat)) (o_lenR (hs22.rd hM22 (i := 4) rfl) rfl rfl) <| stg rfl (v := .int .i64 (64 * (((Hf.encR (rawT R tk)).1).length : Nat))) (o_bin rfl rfl (v_mul64 (by omega))) <| gmv rfl <| stg rfl (v := .int .i64 ((rawT R tk).length : Nat)) (o_lenR (hs9.rd hM22 (i := 2) rfl) rfl rfl) <| gbn rfl rfl rfl <| pkT rfl <| h25 _ _ <| cndP rfl (fun c28 => ?_) (fun c28 => ?_)
   ·refine seq fun _ h29 => mv <| mv <| h29 _ _ <| mv <| h23 _ _ ⟨y22, ((Hf.encR (rawT R tk)).1), 2, (re ++ rs22), rfl, vi, rfl, rfl, hM22.keep (by simp), fun w2 _ h2 => (hs22).rdOwn fun e he => h2 e (List.mem_append_right _ he), (best_yes1 (k := 2) (bl := bl) (hbl) (by show _ ≤ 64 * (Hf.encR (rawT R tk)).1.length; omega) (by show (Hf.encR (rawT R tk)).1.length < _; omega)).1, (best_yes1 (k := 2) (bl := bl) (hbl) (by show _ ≤ 64 * (Hf.encR (rawT R tk)).1.length; omega) (by show (Hf.encR (rawT R tk)).1.length < _; omega)).2⟩
   refine h23 _ _ ⟨vq, bl, fl, re, rfl, vi, rfl, rfl, hM22.keep (by simp), hb, (best_no1 (k := 2) (by omega) (hbl) (hfl) (by show ¬ (_ ≤ 64 * (Hf.encR (rawT R tk)).1.length ∧ (Hf.encR (rawT R tk)).1.length < _); omega)).1, (best_no1 (k := 2) (by omega) (hbl) (hfl) (by show ¬ (_ ≤ 64 * (Hf.encR (rawT R tk)).1.length ∧ (Hf.encR (rawT R tk)).1.length < _); omega)).2⟩
  refine gx rfl <| gx rfl <| gx rfl <| gx rfl <| gx rfl <| gx rfl <| pkF rfl <| h25 _ _ <| cndF rfl <| h23 _ _ ⟨vq, bl, fl, re, rfl, vi, rfl, rfl, hM22.keep (by simp), hb, (best_no1 (k := 2) (by omega) (hbl) (hfl) (by show ¬ (_ ≤ 64 * (Hf.encR (rawT R tk)).1.length ∧ (Hf.encR (rawT R tk)).1.length < _); omega)).1, (best_no1 (k := 2) (by omega) (hbl) (hfl) (by show ¬ (_ ≤ 64 * (Hf.encR (rawT R tk)).1.length ∧ (Hf.encR (rawT R tk)).1.length < _); omega)).2⟩
 rintro f w24 ⟨vq, bl, fl, re, e24_6, e24_7, e24_0, e24_5, hM24, hb, hbl, hfl⟩
 obtain ⟨frm, rfl⟩ := re4 e24_6 e24_7 e24_0 e24_5
 refine seq fun _ h30 => ?_
 have hbn := best_len hl 3
 rw [← hbl] at hbn
 have hf1 := best_lt (T := (rawT R tk)) 3
 rw [← hfl] at hf1
 refine mv <| nilchk rfl <| fa rfl <| m_st (v := .slice none 0 0) hM24 (i := 0) rfl rfl rfl rfl (by simp) fun w31 (hM31 : Mem w (ids (⟨rb, 55, [.int .i64 (R : Nat), .int .i64 (M : Nat), vL, .int .i64 ((bldF R tk).raw.length : Nat)]⟩ :: rl)) w31 [[⟨rb, 55, [.int .i64 (R : Nat), .int .i64 (M : Nat), .slice none 0 0, .int .i64 ((bldF R tk).raw.length : Nat)]⟩], rl, rs9, re]) => h30 _ _ <| seq fun _ h32 => mv <| nilchk rfl <| fa rfl <| m_st (v := .int .i64 0) hM31 (i := 0) rfl rfl rfl rfl (by simp) fun w33 (hM33 : Mem _ _ w33 [[⟨rb, 55, [.int .i64 (R : Nat), .int .i64 (M : Nat), .slice none 0 0, .int .i64 0]⟩], _, _, _]) => h32 _ _ <| seq fun _ h34 => m_bs hM33 rfl fun b35 w36 (hM36 : Mem _ _ w36 [_, _, _, _, [⟨b35, 5, []⟩]]) => mv ?_
 have hs37 : SlE byteV 5 (.slice (some ⟨b35, 0, none⟩) 0 0) [] [⟨b35, 5, []⟩] := SlE.lit (l := []) rfl
 refine m_appE hM36 (i := 4) rfl hs37 rfl rfl (hb _ (hM36.res (i := 2) rfl).1 (hM36.res (i := 3) rfl).1) (by first | omega | (simp; omega)) (by omega) fun v38 w38 r38 (hs38 : SlE byteV 5 v38 (bl) r38) (hM38 : Mem _ _ w38 [_, _, _, _, r38]) => mv <| m_app1 (E := byteV) (q := (((fl : Nat) : Int)).toNat.toUInt8) hM38 (i := 4) rfl hs38 rfl (by simp) (byteV_of (by omega) (by omega)) (by omega) (by omega) fun v39 w39 r39 u39 (hs39 : SlE byteV 5 v39 (bl ++ [(((fl : Nat) : Int)).toNat.toUInt8]) r39) (hM39 : Mem _ _ w39 [_, _, _, _, r39]) => mv <| h34 _ _ <| seq fun _ h40 => mv <| m_call (Seal_ok _ (bl ++ [fl.toUInt8]) w39 (hs39.rd hM39 (i := 4) rfl) (by rw [List.length_append, List.length_singleton]; omega)) rfl fun v41 w41 ⟨rs41, hs41, hm41⟩ => ?_
 have hM41 : Mem _ _ w41 [_, _, _, _, _, rs41] := hM39.add hm41
 refine mv <| stp (v := .int .i64 ((rawT R tk).length : Nat)) (o_lenR (hs9.rd hM41 (i := 2) rfl) rfl rfl) <| mv <| mv <| mv <| h40 _ _ <| ⟨(.tuple [v41, .int .i64 ((rawT R tk).length : Nat), .int .i64 0].toArray), rfl, ?_⟩
 rw [tile_of hbl hfl]
 unfold RbT
 rw [show (bldF R []).raw.length = 0 from rfl]
 exact ⟨_, _, _, rfl, hs41, ⟨_, [], rfl, Sl.nil 2 35⟩, hM41.keep (by simp; repeat first | exact List.Sublist.refl _ | refine List.Sublist.trans ?_ (List.sublist_append_right _ _))⟩
theorem RFinish_0 (rb R M : Nat) (r0 : List Ent) (w : World) (hB : RbT rb R M [] r0) (hr : Res w r0) (hR : 1 ≤ R ∧ R ≤ 64) : Calls Tryz.prog 14 [.pointer (some ⟨rb, 0, none⟩)].toArray w (Rt fun r w' => r = .tuple [.slice none 0 0, .int .i64 0, .int .i64 3].toArray ∧ Mem w (ids r0) w' [r0]) := by
 obtain ⟨vL, rl, rfl, hvL⟩ := hB
 have hM0 : Mem w (ids (⟨rb, 55, [.int .i64 (R : Nat), .int .i64 (M : Nat), vL, .int .i64 ((bldF R []).raw.length : Nat)]⟩ :: rl)) w [[⟨rb, 55, [.int .i64 (R : Nat), .int .i64 (M : Nat), vL, .int .i64 ((bldF R []).raw.length : Nat)]⟩], rl] := (Mem.start hr).keep (by simp)
 refine calls_vc mixed Tryz.func14 rfl C14 (by simp [Tryz.ntmps14]) <| seq fun _ h1 => mv <| mv <| mv <| h1 _ _ <| seq fun _ h2 => seq fun _ h3 => mv <| stp (v := .bool false) (o_isnil rfl rfl) <| h3 _ _ <| cndF rfl <| h2 _ _ <| seq fun _ h4 => ?_
 refine seq fun _ h5 => mv <| nilchk rfl <| fa rfl <| m_ld (v := vL) hM0 (i := 0) (j := 0) rfl rfl rfl rfl <| stp (v := .int .i64 (([] : List Pr2).length : Nat)) (o_lenR (hvL.rd hM0 (i := 1) rfl) rfl rfl) <| bn rfl rfl <| h5 _ _ <| cndP rfl (fun c6 => ?_) (fun c6 => (c6 (by simp)).elim)
 refine seq fun _ h7 => mv <| mv <| mv <| h7 _ _ <| ⟨(.tuple [.slice none 0 0, .int .i64 0, .int .i64 3].toArray), rfl, ⟨rfl, hM0.keep (by simp)⟩⟩
end Go.Proofs.YtifnmbmijljhfaaGreat.E
namespace Go.Proofs.YtifnmbmijljhfaaGreat.E
open Go
theorem Mem.openP {w0 w : World} {S : List Nat} {R : List (List Ent)} {i : Nat} {a b r : List Ent} (h : Mem w0 S w R) (hi : R[i]? = some r) (hp : r.Perm (a ++ b)) : Mem w0 S w (R.set i b ++ [a]) := by
 refine h.perm ?_
 obtain ⟨X, Y, e1, e2⟩ := flatten_set R i _ b hi
 rw [List.flatten_append, e1, e2]
 simp only [List.flatten_cons, List.flatten_nil, List.append_nil]
 refine List.Perm.trans ?_ ((hp.append_left X).append_right Y).symm
 simp only [List.append_assoc]
 refine List.Perm.append_left X ?_
 rw [← List.append_assoc b Y a]
 exact List.perm_append_comm
theorem Mem.shutP {w0 w : World} {S : List Nat} {R : List (List Ent)} {i : Nat} {a b : List Ent} (h : Mem w0 S w (R ++ [a])) (hi : R[i]? = some b) : Mem w0 S w (R.set i (a ++ b)) := by
 refine h.perm ?_
 obtain ⟨X, Y, e1, e2⟩ := flatten_set R i _ (a ++ b) hi
 rw [List.flatten_append, e1, e2]
 simp only [List.flatten_cons, List.flatten_nil, List.append_nil, List.append_assoc]
 refine List.Perm.append_left X ?_
 rw [← List.append_assoc b Y a]
 exact List.perm_append_comm
theorem set_get_self {α : Type} (z : α) : ∀ {l : List α} {i : Nat}, i < l.length → l.set i (l.getD i z) = l
 | _ :: _, 0, _ => rfl
 | x :: l, i + 1, h => by simpa using set_get_self z (l := l) (i := i) (by simpa using h)
theorem Nst.ok {β : Type} {Q : β → List Ent → Prop} {T : β → Prop} {w : World} (hQ : ∀ p r, Q p r → (∀ e ∈ r, Own w e) → T p) {ps : List β} {NS : List Ent} (h : Nst Q ps NS) (ho : ∀ e ∈ NS, Own w e) : ∀ p ∈ ps, T p := fun p hp => by
 obtain ⟨a, h1, h2⟩ := h.get p hp
 exact hQ p a h2 fun e he => ho e (h1 e he)
end Go.Proofs.YtifnmbmijljhfaaGreat.E
namespace Go.Proofs.YtifnmbmijljhfaaGreat.E
open Go
structure Bs where
 ad : Option Addr
 ln : Nat
 cp : Nat
 bs : List UInt8
abbrev Bs.v (s : Bs) : Value := .slice s.ad s.ln s.cp
def bsC (s : Bs) : List Value := [.slice s.ad s.ln s.cp]
instance : Enc bsC 1 := ⟨fun _ => rfl, by omega, fun c => by intro v hv; simp only [bsC, List.mem_cons, List.not_mem_nil, or_false] at hv; rcases hv with rfl; rfl⟩
def bz : Bs := ⟨none, 0, 0, []⟩
def BsQ (s : Bs) (r : List Ent) : Prop := SlE byteV 5 s.v s.bs r ∧ s.bs.length ≤ 300000
theorem Nst.bs {qs : List Bs} {NS : List Ent} {w : World} (h : Nst BsQ qs NS) (ho : ∀ e ∈ NS, Own w e) : ∀ p ∈ qs, RdE byteV w p.v p.bs ∧ p.bs.length ≤ 300000 :=
 Nst.ok (fun p r q o => ⟨q.1.rdOwn o, q.2⟩) h ho
def m1 (i : Nat) : UInt8 := (i % 251).toUInt8
theorem v_m1 (i : Nat) : Value.int .u8 (IntKind.u8.wrap (((i : Nat) : Int) % 251)) = byteV (m1 i) := by
 rw [wrap_u8]
 show _ = Value.int .u8 ((m1 i).toNat : Int)
 congr 1
def setB (p : Bs) (d : List UInt8) : Bs := ⟨p.ad, p.ln, p.cp, d⟩
def Scb (m : Nat) (p : Bs) : Prop := ∀ k, k < p.bs.length → p.bs.getD k 0 = m1 m
theorem fm_sameB : ∀ {qs : List Bs} {i : Nat} {q : Bs}, bsC q = bsC (qs.getD i bz) → (qs.set i q).flatMap bsC = qs.flatMap bsC
 | [], _, _, _ => rfl
 | p :: ps, 0, q, h => by
  have h' : bsC q = bsC p := h
  rw [List.set_cons_zero, List.flatMap_cons, List.flatMap_cons, h']
 | p :: ps, i + 1, q, h => by
  rw [List.set_cons_succ, List.flatMap_cons, List.flatMap_cons, fm_sameB (by simpa using h)]
theorem sl_sameB {v : Value} {qs : List Bs} {i : Nat} {q : Bs} {r : List Ent} (h : SlS bsC 1 31 v qs r) (e : bsC q = bsC (qs.getD i bz)) : SlS bsC 1 31 v (qs.set i q) r := by
 show Sl 1 31 v (qs.set i q).length ((qs.set i q).flatMap bsC) r
 rw [List.length_set, fm_sameB e]; exact h
theorem getG_set {α : Type} {z : α} {qs : List α} {i : Nat} {q : α} (h : i < qs.length) : (qs.set i q).getD i z = q := by
 rw [List.getD_eq_getElem?_getD, List.getElem?_set_self h]; rfl
theorem getG_ne {α : Type} {z : α} {qs : List α} {i m : Nat} {q : α} (h : ¬ m = i) : (qs.set i q).getD m z = qs.getD m z := by
 rw [List.getD_eq_getElem?_getD, List.getElem?_set_ne (fun e => h e.symm), ← List.getD_eq_getElem?_getD]
theorem Mem.shutB {w0 w : World} {S : List Nat} {x b a : List Ent} (h : Mem w0 S w [x, b, a]) : Mem w0 S w [x, a ++ b] := Mem.shutP (R := [x, b]) (i := 1) h rfl
theorem Mem.subB {w0 w : World} {S : List Nat} {x b a c : List Ent} (h : Mem w0 S w [x, b, a]) (h1 : c.Sublist a) : Mem w0 S w [x, b, c] := h.keep (by simpa using h1)
theorem apart_ok (v : Value) (hs0 : List Bs) (rs N0 : List Ent) (w : World) (hv : SlS bsC 1 31 v hs0 rs) (hN0 : Nst BsQ hs0 N0) (hr : Res w (rs ++ N0)) (hl : hs0.length ≤ 2097152) : Calls Tryz.prog 16 [v].toArray w (Rt fun r w' => r = .bool true ∧ Mem w (ids (rs ++ N0)) w' [[], []]) := by
 have hM0 : Mem w (ids (rs ++ N0)) w [rs, N0] := (Mem.start hr).keep (by simp)
 refine calls_vc mixed Tryz.func16 rfl C16 (by simp [Tryz.ntmps16]) <| seq fun _ h1 => mv <| h1 _ _ <| seq fun _ h2 => seq fun _ h3 => mv <| h3 _ _ <| lp (n := fun _ _ => False) (ι := (Nat) × (List Bs) × (List Ent)) (fun ⟨i, qs, NS⟩ f w' => f 3 = .int .i64 (i : Nat) ∧ f 0 = v ∧ Mem w (ids (rs ++ N0)) w' [rs, NS] ∧ (i ≤ qs.length) ∧ (Nst BsQ qs NS) ∧ (qs.length = hs0.length) ∧ (SlS bsC 1 31 v qs rs) ∧ (∀ m, m < i → Scb m (qs.getD m bz))) (fun ⟨i, qs, NS⟩ => qs.length - i) (0, hs0, N0) ?_ ?_
 ·exact ⟨vi, rfl, hM0, by omega, hN0, rfl, hv, fun m hm => by omega⟩
 rintro ⟨i, qs, NS⟩ f w4 ⟨e4_3, e4_0, hM4, hi, hN, hql, hs, hc⟩ K5 h5
 obtain ⟨frm, rfl⟩ := re2 e4_3 e4_0
 refine seq fun _ h6 => seq fun _ h7 => mv <| mv <| stp (v := .int .i64 (qs.length : Nat)) (o_lenR (hs.rd hM4 (i := 0) rfl) rfl rfl) <| bn rfl rfl <| h7 _ _ <| cndP rfl (fun c8 => ?_) (fun c8 => ?_)
 ·refine h6 _ _ <| seq fun _ h9 => seq fun _ h10 => mv <| h10 _ _ <| lp (n := fun _ _ => False) (ι := (Nat) × (List Bs) × (List Ent)) (fun ⟨k, qs, NS⟩ f w' => f 4 = .int .i64 (k : Nat) ∧ f 0 = v ∧ f 3 = .int .i64 (i : Nat) ∧ Mem w (ids (rs ++ N0)) w' [rs, NS] ∧ (Nst BsQ qs NS) ∧ (qs.length = hs0.length) ∧ (SlS bsC 1 31 v qs rs) ∧ (∀ m, m < i → Scb m (qs.getD m bz)) ∧ (i < qs.length) ∧ (k ≤ (qs.getD i bz).bs.length) ∧ (∀ j, j < k → (qs.getD i bz).bs.getD j 0 = m1 i)) (fun ⟨k, qs, NS⟩ => (qs.getD i bz).bs.length - k) (0, qs, NS) ?_ ?_
  ·exact ⟨vi, rfl, vi, hM4, hN, hql, hs, hc, by omega, by omega, fun j hj => by omega⟩
  rintro ⟨k, qs, NS⟩ f w11 ⟨e11_4, e11_0, e11_3, hM11, hN, hql, hs, hc, hi, hk, hd⟩ K12 h12
  obtain ⟨frm, rfl⟩ := re3 e11_4 e11_0 e11_3
  refine seq fun _ h13 => seq fun _ h14 => ?_
  have hli := hN.bs (hM11.res (i := 1) rfl).1 _ (getD_memG bz (l := qs) (i := i) (by omega))
  have hlb := hli.2
  refine mv <| mv <| mv <| m_idxS bz (j := i) (hs.rd hM11 (i := 0) rfl) rfl rfl (by omega) fun b15 o15 hp15 => ld (v := (qs.getD i bz).v) rfl (hp15.get 0 rfl) <| stp (v := .int .i64 (((qs.getD i bz).bs).length : Nat)) (o_lenR ((hN.bs (hM11.res (i := 1) rfl).1 _ (getD_memG bz (l := qs) (i := i) (by omega))).1) rfl rfl) <| bn rfl rfl <| h14 _ _ <| cndP rfl (fun c16 => ?_) (fun c16 => ?_)
  ·refine h13 _ _ <| seq fun _ h17 => mv <| mv <| m_idxS bz (j := i) (hs.rd hM11 (i := 0) rfl) rfl rfl (by omega) fun b18 o18 hp18 => ld (v := (qs.getD i bz).v) rfl (hp18.get 0 rfl) <| mv <| mv <| stp (v := .int .i64 ((i : Nat) % 251)) (o_rem rfl rfl (by omega) (v_rem (by omega))) <| stp (v := byteV (m1 i)) (o_conv rfl (v_m1 i)) ?_
   obtain ⟨ra, b0, hp, ⟨hP, hPl⟩, hup⟩ := Nst.open bz (i := i) hN (by omega)
   have hM19 : Mem w (ids (rs ++ N0)) w11 [rs, b0, ra] := hM11.openP (i := 1) rfl hp
   refine m_set (E := byteV) (q := (m1 i)) (j := k) hM19 (i := 2) rfl hP rfl rfl (by omega) (by simp) (rfl) fun w20 r20 u20 he20 hs20 (hM20 : Mem _ _ w20 [_, _, r20]) => h17 _ _ <| mv <| stp (v := .int .i64 ((k : Nat) + 1)) (o_bin rfl rfl (v_add64 (by omega))) <| mv ?_
   refine h12 (k + 1, (qs.set i (setB (qs.getD i bz) ((qs.getD i bz).bs.set k (m1 i)))), (r20 ++ b0)) _ _ ⟨vi, rfl, vi, Mem.shutB hM20, hup _ _ ⟨hs20, by show ((qs.getD i bz).bs.set k (m1 i)).length ≤ _; rw [List.length_set]; exact hPl⟩, by rw [List.length_set]; exact hql, sl_sameB hs rfl, fun m hm => by rw [getG_ne (by omega)]; exact hc m hm, by rw [List.length_set]; exact hi, by rw [getG_set (by omega)]; show k + 1 ≤ ((qs.getD i bz).bs.set k (m1 i)).length; rw [List.length_set]; omega, fun j hj => by
    rw [getG_set (by omega)]
    show ((qs.getD i bz).bs.set k (m1 i)).getD j 0 = _
    by_cases e : j = k
    ·subst e; rw [getG_set (by omega)]
    rw [getG_ne e]; exact hd j (by omega)⟩ (by (try dsimp only); rw [getG_set (by omega)]; show ((qs.getD i bz).bs.set k (m1 i)).length - (k + 1) < _; rw [List.length_set]; omega)
  refine h9 _ _ <| mv <| stp (v := .int .i64 ((i : Nat) + 1)) (o_bin rfl rfl (v_add64 (by omega))) <| mv ?_
  refine h5 (i + 1, qs, NS) _ _ ⟨vi, rfl, hM11, by omega, hN, hql, hs, fun m hm => by
   by_cases e : m = i
   ·subst e; exact fun j hj => hd j (by omega)
   exact hc m (by omega)⟩ (by (try dsimp only); omega)
 refine h2 _ _ <| seq fun _ h21 => ?_
 have hcc : ∀ m, m < qs.length → Scb m (qs.getD m bz) := fun m hm => hc m (by omega)
 refine mv <| h21 _ _ <| seq fun _ h22 => seq fun _ h23 => mv <| h23 _ _ <| lp (n := fun _ _ => False) (ι := (Nat) × (Nat) × (List Ent)) (fun ⟨i, sn, NS⟩ f w' => f 6 = .int .i64 (i : Nat) ∧ f 5 = .int .i64 (sn : Nat) ∧ f 0 = v ∧ Mem w (ids (rs ++ N0)) w' [rs, NS] ∧ (i ≤ qs.length) ∧ (Nst BsQ qs NS) ∧ (64 * i ≤ sn ∧ sn ≤ 300064 * i)) (fun ⟨i, sn, NS⟩ => qs.length - i) (0, 0, NS) ?_ ?_
 ·exact ⟨vi, vi, rfl, hM4, by omega, hN, by omega⟩
 rintro ⟨i, sn, NS⟩ f w24 ⟨e24_6, e24_5, e24_0, hM24, hi, hN, hsn⟩ K25 h25
 obtain ⟨frm, rfl⟩ := re3 e24_6 e24_5 e24_0
 refine seq fun _ h26 => seq fun _ h27 => mv <| mv <| stp (v := .int .i64 (qs.length : Nat)) (o_lenR (hs.rd hM24 (i := 0) rfl) rfl rfl) <| bn rfl rfl <| h27 _ _ <| cndP rfl (fun c28 => ?_) (fun c28 => ?_)
 ·refine h26 _ _ <| seq fun _ h29 => seq fun _ h30 => mv <| mv <| m_idxS bz (j := i) (hs.rd hM24 (i := 0) rfl) rfl rfl (by omega) fun b31 o31 hp31 => ld (v := (qs.getD i bz).v) rfl (hp31.get 0 rfl) <| mv <| h30 _ _ <| seq fun _ h32 => seq fun _ h33 => ?_
  obtain ⟨ra, b0, hp, ⟨hP, hPl⟩, hup⟩ := Nst.open bz (i := i) hN (by omega)
  have hM34 : Mem w (ids (rs ++ N0)) w24 [rs, b0, ra] := hM24.openP (i := 1) rfl hp
  have hg := Gr.zero hP
  refine mv <| h33 _ _ <| lp (n := fun _ _ => False) (ι := (Nat) × (Value) × (List Ent)) (fun ⟨k, x7, r7⟩ f w' => f 8 = .int .i64 (k : Nat) ∧ f 7 = x7 ∧ f 0 = v ∧ f 5 = .int .i64 (sn : Nat) ∧ f 6 = .int .i64 (i : Nat) ∧ Mem w (ids (rs ++ N0)) w' [rs, b0, r7] ∧ (k ≤ 64) ∧ (Gr byteV 5 (qs.getD i bz).v x7 (qs.getD i bz).bs (List.replicate k 255) r7)) (fun ⟨k, x7, r7⟩ => 64 - k) (0, ((qs.getD i bz).v), ra) ?_ ?_
  ·exact ⟨vi, rfl, rfl, vi, vi, hM34, by omega, hg⟩
  rintro ⟨k, x7, r7⟩ f w35 ⟨e35_8, e35_7, e35_0, e35_5, e35_6, hM35, hk, hg⟩ K36 h36
  obtain ⟨frm, rfl⟩ := re5 e35_8 e35_7 e35_0 e35_5 e35_6
  refine seq fun _ h37 => seq fun _ h38 => ?_
  have hPl2 := hPl
  refine mv <| bn rfl rfl <| h38 _ _ <| cndP rfl (fun c39 => ?_) (fun c39 => ?_)
  ·refine h37 _ _ <| seq fun _ h40 => mv <| m_grow1 (E := byteV) (q := 255) hM35 (i := 2) rfl hg rfl (by simp) (rfl) (by rw [List.length_replicate]; omega) (by omega) fun v41 w41 r41 u41 hs41 (hM41 : Mem w (ids (rs ++ N0)) w41 [rs, b0, r41]) => mv <| h40 _ _ <| mv <| stp (v := .int .i64 ((k : Nat) + 1)) (o_bin rfl rfl (v_add64 (by omega))) <| mv <| h36 (k + 1, v41, r41) _ _ ⟨vi, rfl, rfl, vi, vi, hM41, by omega, by rw [List.replicate_succ']; exact hs41⟩ (by (try dsimp only); omega)
  refine h32 _ _ ?_
  obtain ⟨ra2, hra, hsa⟩ := hg.base
  have hk6 : k = 64 := by omega
  have hrl : ((qs.getD i bz).bs ++ List.replicate k (255 : UInt8)).length = (qs.getD i bz).bs.length + 64 := by rw [List.length_append, List.length_replicate, hk6]
  refine mv <| mv <| stp (v := .int .i64 ((((qs.getD i bz).bs) ++ (List.replicate k 255)).length : Nat)) (o_lenR (hg.rdx hM35 (i := 2) rfl) rfl rfl) <| stp (v := .int .i64 ((sn : Nat) + ((((qs.getD i bz).bs) ++ (List.replicate k 255)).length : Nat))) (o_bin rfl rfl (v_add64 (by omega))) ?_
  have hcc : ∀ m, m < qs.length → Scb m (qs.getD m bz) := fun m hm => hc m (by omega)
  refine mv <| h29 _ _ <| mv <| stp (v := .int .i64 ((i : Nat) + 1)) (o_bin rfl rfl (v_add64 (by omega))) <| mv ?_
  refine h25 (i + 1, sn + ((qs.getD i bz).bs.length + 64), (ra2 ++ b0)) _ _ ⟨vi, vi, rfl, Mem.shutB (hM35.subB hra), by omega, by
   have h9 := hup (qs.getD i bz) _ ⟨hsa, hPl⟩
   rw [set_get_self bz (by omega)] at h9
   exact h9, by omega⟩ (by (try dsimp only); omega)
 refine h22 _ _ <| seq fun _ h42 => seq fun _ h43 => mv <| h43 _ _ <| lp (n := fun _ _ => False) (ι := (Nat)) (fun i f w' => f 9 = .int .i64 (i : Nat) ∧ f 0 = v ∧ f 5 = .int .i64 (sn : Nat) ∧ Mem w (ids (rs ++ N0)) w' [rs, NS] ∧ (i ≤ qs.length)) (fun i => qs.length - i) (0) ?_ ?_
 ·exact ⟨vi, rfl, vi, hM24, by omega⟩
 rintro i f w44 ⟨e44_9, e44_0, e44_5, hM44, hi⟩ K45 h45
 obtain ⟨frm, rfl⟩ := re3 e44_9 e44_0 e44_5
 refine seq fun _ h46 => seq fun _ h47 => mv <| mv <| stp (v := .int .i64 (qs.length : Nat)) (o_lenR (hs.rd hM44 (i := 0) rfl) rfl rfl) <| bn rfl rfl <| h47 _ _ <| cndP rfl (fun c48 => ?_) (fun c48 => ?_)
 ·refine h46 _ _ <| seq fun _ h49 => seq fun _ h50 => mv <| h50 _ _ <| lp (n := fun _ _ => False) (ι := (Nat)) (fun k f w' => f 10 = .int .i64 (k : Nat) ∧ f 0 = v ∧ f 5 = .int .i64 (sn : Nat) ∧ f 9 = .int .i64 (i : Nat) ∧ Mem w (ids (rs ++ N0)) w' [rs, NS] ∧ (k ≤ (qs.getD i bz).bs.length)) (fun k => (qs.getD i bz).bs.length - k) (0) ?_ ?_
  ·exact ⟨vi, rfl, vi, vi, hM44, by omega⟩
  rintro k f w51 ⟨e51_10, e51_0, e51_5, e51_9, hM51, hk⟩ K52 h52
  obtain ⟨frm, rfl⟩ := re4 e51_10 e51_0 e51_5 e51_9
  refine seq fun _ h53 => seq fun _ h54 => ?_
  have hli := hN.bs (hM51.res (i := 1) rfl).1 _ (getD_memG bz (l := qs) (i := i) (by omega))
  have hlb := hli.2
  refine mv <| mv <| mv <| m_idxS bz (j := i) (hs.rd hM51 (i := 0) rfl) rfl rfl (by omega) fun b55 o55 hp55 => ld (v := (qs.getD i bz).v) rfl (hp55.get 0 rfl) <| stp (v := .int .i64 (((qs.getD i bz).bs).length : Nat)) (o_lenR ((hN.bs (hM51.res (i := 1) rfl).1 _ (getD_memG bz (l := qs) (i := i) (by omega))).1) rfl rfl) <| bn rfl rfl <| h54 _ _ <| cndP rfl (fun c56 => ?_) (fun c56 => ?_)
  ·refine h53 _ _ <| seq fun _ h57 => seq fun _ h58 => mv <| mv <| m_idxS bz (j := i) (hs.rd hM51 (i := 0) rfl) rfl rfl (by omega) fun b59 o59 hp59 => ld (v := (qs.getD i bz).v) rfl (hp59.get 0 rfl) <| mv <| m_idxE 0 (j := k) ((hN.bs (hM51.res (i := 1) rfl).1 _ (getD_memG bz (l := qs) (i := i) (by omega))).1) rfl rfl (by omega) fun b60 o60 hp60 => ld (v := byteV (((qs.getD i bz).bs).getD k 0)) rfl (hp60) <| mv <| stp (v := .int .i64 ((i : Nat) % 251)) (o_rem rfl rfl (by omega) (v_rem (by omega))) <| stp (v := byteV (m1 i)) (o_conv rfl (v_m1 i)) <| bneq rfl rfl ?_
   refine h58 _ _ <| cndP rfl (fun c61 => absurd c61 (fun h => h (by rw [(hcc i (by omega)) k (by omega)]))) (fun c61 => h57 _ _ <| mv <| stp (v := .int .i64 ((k : Nat) + 1)) (o_bin rfl rfl (v_add64 (by omega))) <| mv <| h52 (k + 1) _ _ ⟨vi, rfl, vi, vi, hM51, by omega⟩ (by (try dsimp only); omega))
  refine h49 _ _ <| mv <| stp (v := .int .i64 ((i : Nat) + 1)) (o_bin rfl rfl (v_add64 (by omega))) <| mv <| h45 (i + 1) _ _ ⟨vi, rfl, vi, hM51, by omega⟩ (by (try dsimp only); omega)
 refine h42 _ _ <| seq fun _ h62 => mv <| mv <| stp (v := .int .i64 (qs.length : Nat)) (o_lenR (hs.rd hM44 (i := 0) rfl) rfl rfl) <| stp (v := .int .i64 (64 * (qs.length : Nat))) (o_bin rfl rfl (v_mul64 (by omega))) <| bn rfl rfl <| mv <| h62 _ _ <| ⟨(.bool (decide (((64 * (qs.length : Nat) : Int) : Int) ≤ ((sn : Nat) : Int)))), rfl, ⟨congrArg Value.bool (decide_eq_true (by omega)), hM44.keep (by simp)⟩⟩
end Go.Proofs.YtifnmbmijljhfaaGreat.E
namespace Go.Proofs.YtifnmbmijljhfaaGreat.E
open Go
theorem Finish_0 (bb R M : Nat) (r0 : List Ent) (w : World) (hB : BldS bb R M [] [] [] 0 r0) (hr : Res w r0) : Calls Tryz.prog 13 [.pointer (some ⟨bb, 0, none⟩)].toArray w (Rt fun r w' => r = .tuple [.slice none 0 0, .int .i64 0, .int .i64 3].toArray ∧ Mem w (ids r0) w' [r0]) := by
 obtain ⟨vr, vs, rr, rs, rfl, hvr, hvs⟩ := hB
 have hM0 : Mem w (ids (⟨bb, 53, [.int .i64 (R : Nat), .int .i64 (M : Nat), vr, vs, .string (str []), .int .i64 ((0 : Nat) : Int)]⟩ :: (rr ++ rs))) w [[⟨bb, 53, [.int .i64 (R : Nat), .int .i64 (M : Nat), vr, vs, .string (str ([])), .int .i64 ((0 : Nat) : Int)]⟩], rr, rs] := (Mem.start hr).keep (by simp)
 refine calls_vc mixed Tryz.func13 rfl C13 (by simp [Tryz.ntmps13]) <| seq fun _ h1 => mv <| mv <| mv <| h1 _ _ <| seq fun _ h2 => seq fun _ h3 => mv <| stp (v := .bool false) (o_isnil rfl rfl) <| h3 _ _ <| cndF rfl <| h2 _ _ <| seq fun _ h4 => ?_
 refine seq fun _ h5 => mv <| nilchk rfl <| fa rfl <| m_ld (v := .int .i64 ((0 : Nat) : Int)) hM0 (i := 0) (j := 0) rfl rfl rfl rfl <| bn rfl rfl <| h5 _ _ <| cndP rfl (fun c6 => ?_) (fun c6 => (c6 (by simp)).elim)
 refine seq fun _ h7 => mv <| mv <| mv <| h7 _ _ <| ⟨(.tuple [.slice none 0 0, .int .i64 0, .int .i64 3].toArray), rfl, ⟨rfl, hM0.keep (by simp)⟩⟩
def gX (r0 m0 : Int) : Bool := decide ((1 ≤ r0 ∧ r0 ≤ 64) ∧ (64 ≤ m0 ∧ m0 ≤ 65536))
def RX0 (r0 m0 : Int) : Nat := if gX r0 m0 then r0.toNat else 1
def MX0 (r0 m0 : Int) : Nat := if gX r0 m0 then m0.toNat else 64
theorem RX0_b (r0 m0 : Int) : 1 ≤ RX0 r0 m0 ∧ RX0 r0 m0 ≤ 64 := by
 unfold RX0
 by_cases h : (1 ≤ r0 ∧ r0 ≤ 64) ∧ (64 ≤ m0 ∧ m0 ≤ 65536)
 ·rw [if_pos (show gX r0 m0 = true from decide_eq_true h)]; omega
 rw [if_neg (by unfold gX; rw [decide_eq_false h]; decide)]; omega
theorem MX0_b (r0 m0 : Int) : 64 ≤ MX0 r0 m0 ∧ MX0 r0 m0 ≤ 65536 := by
 unfold MX0
 by_cases h : (1 ≤ r0 ∧ r0 ≤ 64) ∧ (64 ≤ m0 ∧ m0 ≤ 65536)
 ·rw [if_pos (show gX r0 m0 = true from decide_eq_true h)]; omega
 rw [if_neg (by unfold gX; rw [decide_eq_false h]; decide)]; omega
def BX (g : Bool) (R M : Nat) (b : Value) (tk : List Pr2) (r : List Ent) : Prop := (g = true ∧ ∃ bb, b = .pointer (some ⟨bb, 0, none⟩) ∧ BldT bb R M tk r) ∨ (g = false ∧ b = .pointer none ∧ tk = [] ∧ r = [])
def RX (g : Bool) (R M : Nat) (b : Value) (tk : List Pr2) (r : List Ent) : Prop := (g = true ∧ ∃ bb, b = .pointer (some ⟨bb, 0, none⟩) ∧ RbT bb R M tk r) ∨ (g = false ∧ b = .pointer none ∧ tk = [] ∧ r = [])
def errX (g : Bool) (R M : Nat) (tk : List Pr2) (k v : List UInt8) : Int := if g then addE R M (bldF R tk).raw (bldF R tk).last (bldF R tk).n k v else 1
def nxtX (g : Bool) (R M : Nat) (tk : List Pr2) (k v : List UInt8) : List Pr2 := if g then addT R M tk k v else tk
def szX (R : Nat) (tk : List Pr2) : Nat := szB R (bldF R tk).raw.length tk.length
def tilX (R : Nat) (tk : List Pr2) : List UInt8 := if tk.length = 0 then [] else tileT R tk
def rawX (R : Nat) (tk : List Pr2) : Nat := if tk.length = 0 then 0 else (rawT R tk).length
def finX (g : Bool) (tk : List Pr2) : Int := if g then (if tk.length = 0 then 3 else 0) else 1
theorem tilX_len {R : Nat} {tk : List Pr2} (hR : 1 ≤ R) (ho : OKT R tk) : (tilX R tk).length ≤ 200005 := by
 unfold tilX
 split
 ·simp
 have := best_len (ho.raw hR (by omega)) 3
 unfold tileT
 rw [seal_len, List.length_append, List.length_singleton]; omega
theorem nil_of {tk : List Pr2} (h : tk.length = 0) : tk = [] := List.eq_nil_of_length_eq_zero h
theorem o_isnilX {g : Bool} {R M : Nat} {b : Value} {tk : List Pr2} {r : List Ent} {f : Fr} {x : Operand} (h : BX g R M b tk r) (hx : ev f x = b) : PeV (.isnil false 0 x) f (.bool (!g)) := fun K hK => by
 show (match isNilV 0 (ev f x) with | some b => K (.bool (if false then !b else b)) | none => False)
 rw [hx]
 rcases h with ⟨rfl, bb, rfl, _⟩ | ⟨rfl, rfl, _⟩ <;> exact hK
theorem o_isnilR {g : Bool} {R M : Nat} {b : Value} {tk : List Pr2} {r : List Ent} {f : Fr} {x : Operand} (h : RX g R M b tk r) (hx : ev f x = b) : PeV (.isnil false 0 x) f (.bool (!g)) := fun K hK => by
 show (match isNilV 0 (ev f x) with | some b => K (.bool (if false then !b else b)) | none => False)
 rw [hx]
 rcases h with ⟨rfl, bb, rfl, _⟩ | ⟨rfl, rfl, _⟩ <;> exact hK
theorem BXnew_ok (r0 m0 : Int) (w : World) (hr0 : inK .i64 r0) (hm0 : inK .i64 m0) : Calls Tryz.prog 5 [.int .i64 r0, .int .i64 m0].toArray w (Rt fun r w' => ∃ b rs, r = .tuple #[b, .int .i64 (if gX r0 m0 then 0 else 3)] ∧ BX (gX r0 m0) (RX0 r0 m0) (MX0 r0 m0) b [] rs ∧ Mem w [] w' [rs]) := by
 by_cases h : (1 ≤ r0 ∧ r0 ≤ 64) ∧ (64 ≤ m0 ∧ m0 ≤ 65536)
 ·have hg : gX r0 m0 = true := decide_eq_true h
  unfold RX0 MX0
  rw [hg, if_pos rfl, if_pos rfl, if_pos rfl]
  have q := NewBuilder_ok r0.toNat m0.toNat w (by omega) (by omega)
  rw [show ((r0.toNat : Nat) : Int) = r0 by omega, show ((m0.toNat : Nat) : Int) = m0 by omega] at q
  refine q.mono fun en w2 h => h.elim fun v h => ⟨v, h.1, ?_⟩
  obtain ⟨bb, rs, h1, h2, h3⟩ := h.2
  exact ⟨_, rs, h1, .inl ⟨rfl, bb, rfl, h2⟩, h3⟩
 have hg : gX r0 m0 = false := decide_eq_false h
 rw [hg, if_neg (by decide)]
 refine (NewBuilder_no r0 m0 w hr0 hm0 h).mono fun en w2 h => h.elim fun v h => ⟨v, h.1, ⟨_, [], h.2.1, .inr ⟨rfl, rfl, rfl, rfl⟩, (Mem.nil w []).addNil.pure h.2.2⟩⟩
theorem BXadd_ok (g : Bool) (R M : Nat) (b : Value) (tk : List Pr2) (k v : List UInt8) (r0 : List Ent) (w : World) (hB : BX g R M b tk r0) (hr : Res w r0) (hR : 1 ≤ R ∧ R ≤ 64) (hM : M ≤ 65536) (ho : OKT R tk) (hk : k.length ≤ 140737488355328) (hv : v.length ≤ 140737488355328) : Calls Tryz.prog 7 [b, .string (str k), .string (str v)].toArray w (Rt fun r w' => ∃ r', r = .int .i64 (errX g R M tk k v) ∧ BX g R M b (nxtX g R M tk k v) r' ∧ OKT R (nxtX g R M tk k v) ∧ Mem w (ids r0) w' [r']) := by
 rcases hB with ⟨rfl, bb, rfl, hB⟩ | ⟨rfl, rfl, rfl, rfl⟩
 ·refine (AddU_ok bb R M tk k v r0 w hB hr hR hM ho hk hv).mono fun en w2 h => h.elim fun v2 h => ⟨v2, h.1, ?_⟩
  obtain ⟨r', h1, h2, h3, h4⟩ := h.2
  exact ⟨r', h1, .inl ⟨rfl, bb, rfl, h2⟩, h3, h4⟩
 refine (Add_nil k v w).mono fun en w2 h => h.elim fun v2 h => ⟨v2, h.1, ⟨[], h.2.1, .inr ⟨rfl, rfl, rfl, rfl⟩, OKT.nil R, (Mem.start hr).pure h.2.2⟩⟩
theorem BXsize_ok (g : Bool) (R M : Nat) (b : Value) (tk : List Pr2) (r0 : List Ent) (w : World) (hB : BX g R M b tk r0) (hr : Res w r0) (hR : 1 ≤ R ∧ R ≤ 64) (ho : OKT R tk) : Calls Tryz.prog 9 [b].toArray w (Rt fun r w' => r = .int .i64 ((szX R tk : Nat) : Int) ∧ Mem w (ids r0) w' [r0]) := by
 rcases hB with ⟨rfl, bb, rfl, hB⟩ | ⟨rfl, rfl, rfl, rfl⟩
 ·refine (Size_ok bb R M (bldF R tk).raw (bldF R tk).st (bldF R tk).last (bldF R tk).n r0 w hB hr hR ⟨(ho.bd hR.1).1, (ho.bd hR.1).2.1⟩).mono fun en w2 h => h.elim fun v2 h => ⟨v2, h.1, ?_⟩
  have q := h.2.1
  rw [bld_n] at q
  exact ⟨q, (Mem.start hr).pure h.2.2⟩
 refine (Size_nil w).mono fun en w2 h => h.elim fun v2 h => ⟨v2, h.1, ⟨h.2.1, (Mem.start hr).pure h.2.2⟩⟩
theorem BXlen_ok (g : Bool) (R M : Nat) (b : Value) (tk : List Pr2) (r0 : List Ent) (w : World) (hB : BX g R M b tk r0) (hr : Res w r0) (hR : 1 ≤ R ∧ R ≤ 64) (ho : OKT R tk) : Calls Tryz.prog 11 [b].toArray w (Rt fun r w' => r = .int .i64 (tk.length : Nat) ∧ Mem w (ids r0) w' [r0]) := by
 rcases hB with ⟨rfl, bb, rfl, hB⟩ | ⟨rfl, rfl, rfl, rfl⟩
 ·refine (BLen_ok bb R M (bldF R tk).raw (bldF R tk).st (bldF R tk).last (bldF R tk).n r0 w hB hr).mono fun en w2 h => h.elim fun v2 h => ⟨v2, h.1, ?_⟩
  have q := h.2.1
  rw [bld_n] at q
  exact ⟨q, (Mem.start hr).pure h.2.2⟩
 refine (Len_nil w).mono fun en w2 h => h.elim fun v2 h => ⟨v2, h.1, ⟨h.2.1, (Mem.start hr).pure h.2.2⟩⟩
theorem BXfin_ok (g : Bool) (R M : Nat) (b : Value) (tk : List Pr2) (r0 : List Ent) (w : World) (hB : BX g R M b tk r0) (hr : Res w r0) (hR : 1 ≤ R ∧ R ≤ 64) (ho : OKT R tk) : Calls Tryz.prog 13 [b].toArray w (Rt fun r w' => ∃ v rb rt, r = .tuple [v, .int .i64 (rawX R tk : Nat), .int .i64 (finX g tk)].toArray ∧ SlE byteV 5 v (tilX R tk) rt ∧ BX g R M b [] rb ∧ Mem w (ids r0) w' [rb, rt]) := by
 rcases hB with ⟨rfl, bb, rfl, hB⟩ | ⟨rfl, rfl, rfl, rfl⟩
 ·by_cases h0 : tk.length = 0
  ·obtain rfl := nil_of h0
   refine (Finish_0 bb R M r0 w hB hr).mono fun en w2 h => h.elim fun v2 h => ⟨v2, h.1, ⟨_, r0, [], h.2.1, Sl.nil 1 5, .inl ⟨rfl, bb, rfl, hB⟩, h.2.2.addNil⟩⟩
  have e1 : rawX R tk = (rawT R tk).length := if_neg h0
  have e2 : finX true tk = 0 := by unfold finX; rw [if_pos rfl, if_neg h0]
  have e3 : tilX R tk = tileT R tk := if_neg h0
  rw [e1, e2, e3]
  refine (FinishT_ok bb R M tk r0 w hB hr hR ho (by omega)).mono fun en w2 h => h.elim fun v2 h => ⟨v2, h.1, ?_⟩
  obtain ⟨v, rb, rt, h1, h2, h3, h4⟩ := h.2
  exact ⟨v, rb, rt, h1, h2, .inl ⟨rfl, bb, rfl, h3⟩, h4⟩
 refine (Finish_nil w).mono fun en w2 h => h.elim fun v2 h => ⟨v2, h.1, ⟨_, [], [], h.2.1, Sl.nil 1 5, .inr ⟨rfl, rfl, rfl, rfl⟩, ((Mem.start hr).pure h.2.2).addNil⟩⟩
theorem addT_ok {R M : Nat} {tk : List Pr2} {k v : List UInt8} (hR : 1 ≤ R ∧ R ≤ 64) (hM : M ≤ 65536) (ho : OKT R tk) : OKT R (addT R M tk k v) := by
 unfold addT
 split
 ·rename_i h
  have hf := add_fit hR hM ho.1 h
  exact ⟨hf.1, fun _ => by rw [List.length_append]; exact hf.2⟩
 exact ho
theorem RXnew_ok (r0 m0 : Int) (w : World) (hr0 : inK .i64 r0) (hm0 : inK .i64 m0) : Calls Tryz.prog 6 [.int .i64 r0, .int .i64 m0].toArray w (Rt fun r w' => ∃ b rs, r = .tuple #[b, .int .i64 (if gX r0 m0 then 0 else 3)] ∧ RX (gX r0 m0) (RX0 r0 m0) (MX0 r0 m0) b [] rs ∧ Mem w [] w' [rs]) := by
 by_cases h : (1 ≤ r0 ∧ r0 ≤ 64) ∧ (64 ≤ m0 ∧ m0 ≤ 65536)
 ·have hg : gX r0 m0 = true := decide_eq_true h
  unfold RX0 MX0
  rw [hg, if_pos rfl, if_pos rfl, if_pos rfl]
  have q := RNew_ok r0.toNat m0.toNat w (by omega) (by omega)
  rw [show ((r0.toNat : Nat) : Int) = r0 by omega, show ((m0.toNat : Nat) : Int) = m0 by omega] at q
  refine q.mono fun en w2 h => h.elim fun v h => ⟨v, h.1, ?_⟩
  obtain ⟨bb, rs, h1, h2, h3⟩ := h.2
  exact ⟨_, rs, h1, .inl ⟨rfl, bb, rfl, h2⟩, h3⟩
 have hg : gX r0 m0 = false := decide_eq_false h
 rw [hg, if_neg (by decide)]
 refine (RNew_no r0 m0 w hr0 hm0 h).mono fun en w2 h => h.elim fun v h => ⟨v, h.1, ⟨_, [], h.2.1, .inr ⟨rfl, rfl, rfl, rfl⟩, (Mem.nil w []).addNil.pure h.2.2⟩⟩
theorem RXadd_ok (g : Bool) (R M : Nat) (b : Value) (tk : List Pr2) (k v : List UInt8) (r0 : List Ent) (w : World) (hB : RX g R M b tk r0) (hr : Res w r0) (hR : 1 ≤ R ∧ R ≤ 64) (hM : M ≤ 65536) (ho : OKT R tk) (hk : k.length ≤ 140737488355328) (hv : v.length ≤ 140737488355328) : Calls Tryz.prog 8 [b, .string (str k), .string (str v)].toArray w (Rt fun r w' => ∃ r', r = .int .i64 (errX g R M tk k v) ∧ RX g R M b (nxtX g R M tk k v) r' ∧ OKT R (nxtX g R M tk k v) ∧ Mem w (ids r0) w' [r']) := by
 rcases hB with ⟨rfl, bb, rfl, hB⟩ | ⟨rfl, rfl, rfl, rfl⟩
 ·refine (RAdd_ok bb R M tk r0 w hB hr hR ho hM k v hk hv).mono fun en w2 h => h.elim fun v2 h => ⟨v2, h.1, ?_⟩
  obtain ⟨r', h1, h2, h4⟩ := h.2
  exact ⟨r', h1, .inl ⟨rfl, bb, rfl, h2⟩, addT_ok hR hM ho, h4⟩
 refine (RAdd_nil k v w).mono fun en w2 h => h.elim fun v2 h => ⟨v2, h.1, ⟨[], h.2.1, .inr ⟨rfl, rfl, rfl, rfl⟩, OKT.nil R, (Mem.start hr).pure h.2.2⟩⟩
theorem RXsize_ok (g : Bool) (R M : Nat) (b : Value) (tk : List Pr2) (r0 : List Ent) (w : World) (hB : RX g R M b tk r0) (hr : Res w r0) (hR : 1 ≤ R ∧ R ≤ 64) (ho : OKT R tk) : Calls Tryz.prog 10 [b].toArray w (Rt fun r w' => r = .int .i64 ((szX R tk : Nat) : Int) ∧ Mem w (ids r0) w' [r0]) := by
 rcases hB with ⟨rfl, bb, rfl, hB⟩ | ⟨rfl, rfl, rfl, rfl⟩
 ·refine (RSize_ok bb R M tk r0 w hB hr hR ho).mono fun en w2 h => h.elim fun v2 h => ⟨v2, h.1, h.2⟩
 refine (RSize_nil w).mono fun en w2 h => h.elim fun v2 h => ⟨v2, h.1, ⟨h.2.1, (Mem.start hr).pure h.2.2⟩⟩
theorem RXlen_ok (g : Bool) (R M : Nat) (b : Value) (tk : List Pr2) (r0 : List Ent) (w : World) (hB : RX g R M b tk r0) (hr : Res w r0) (hR : 1 ≤ R ∧ R ≤ 64) (ho : OKT R tk) : Calls Tryz.prog 12 [b].toArray w (Rt fun r w' => r = .int .i64 (tk.length : Nat) ∧ Mem w (ids r0) w' [r0]) := by
 rcases hB with ⟨rfl, bb, rfl, hB⟩ | ⟨rfl, rfl, rfl, rfl⟩
 ·refine (RLen_ok6 bb R M tk r0 w hB hr hR ho).mono fun en w2 h => h.elim fun v2 h => ⟨v2, h.1, h.2⟩
 refine (RLen_nil w).mono fun en w2 h => h.elim fun v2 h => ⟨v2, h.1, ⟨h.2.1, (Mem.start hr).pure h.2.2⟩⟩
theorem RXfin_ok (g : Bool) (R M : Nat) (b : Value) (tk : List Pr2) (r0 : List Ent) (w : World) (hB : RX g R M b tk r0) (hr : Res w r0) (hR : 1 ≤ R ∧ R ≤ 64) (ho : OKT R tk) : Calls Tryz.prog 14 [b].toArray w (Rt fun r w' => ∃ v rb rt, r = .tuple [v, .int .i64 (rawX R tk : Nat), .int .i64 (finX g tk)].toArray ∧ SlE byteV 5 v (tilX R tk) rt ∧ RX g R M b [] rb ∧ Mem w (ids r0) w' [rb, rt]) := by
 rcases hB with ⟨rfl, bb, rfl, hB⟩ | ⟨rfl, rfl, rfl, rfl⟩
 ·by_cases h0 : tk.length = 0
  ·obtain rfl := nil_of h0
   refine (RFinish_0 bb R M r0 w hB hr hR).mono fun en w2 h => h.elim fun v2 h => ⟨v2, h.1, ⟨_, r0, [], h.2.1, Sl.nil 1 5, .inl ⟨rfl, bb, rfl, hB⟩, h.2.2.addNil⟩⟩
  have e1 : rawX R tk = (rawT R tk).length := if_neg h0
  have e2 : finX true tk = 0 := by unfold finX; rw [if_pos rfl, if_neg h0]
  have e3 : tilX R tk = tileT R tk := if_neg h0
  rw [e1, e2, e3]
  refine (RFinish_ok bb R M tk r0 w hB hr hR ho (by omega)).mono fun en w2 h => h.elim fun v2 h => ⟨v2, h.1, ?_⟩
  obtain ⟨v, rb, rt, h1, h2, h3, h4⟩ := h.2
  exact ⟨v, rb, rt, h1, h2, .inl ⟨rfl, bb, rfl, h3⟩, h4⟩
 refine (RFinish_nil w).mono fun en w2 h => h.elim fun v2 h => ⟨v2, h.1, ⟨_, [], [], h.2.1, Sl.nil 1 5, .inr ⟨rfl, rfl, rfl, rfl⟩, ((Mem.start hr).pure h.2.2).addNil⟩⟩
end Go.Proofs.YtifnmbmijljhfaaGreat.E
namespace Go.Proofs.YtifnmbmijljhfaaGreat.E
open Go
theorem Mem.nest2 {w0 w : World} {S : List Nat} {a b c n m h k x y : List Ent} (q : Mem w0 S w [a, b, c, n, m, h, k, x, y]) : Mem w0 S w [a, b, c, x ++ n, y ++ m, h, k] := by
 have h1 : Mem w0 S w [a, b, c, n, y ++ m, h, k, x] := Mem.shutP (R := [a, b, c, n, m, h, k, x]) (i := 4) q rfl
 exact Mem.shutP (R := [a, b, c, n, y ++ m, h, k]) (i := 3) h1 rfl
theorem Mem.nestO {w0 w : World} {S : List Nat} {a b c n m h k x y z : List Ent} (q : Mem w0 S w [a, b, c, n, m, h, k, x, y, z]) : Mem w0 S w [a, b, x ++ z, n, m, h, k] := by
 have h0 : Mem w0 S w [a, b, [], n, m, h, k, x, z] := q.keep (by simp)
 have h1 : Mem w0 S w [a, b, z ++ [], n, m, h, k, x] := Mem.shutP (R := [a, b, [], n, m, h, k, x]) (i := 2) h0 rfl
 rw [List.append_nil] at h1
 exact Mem.shutP (R := [a, b, z, n, m, h, k]) (i := 2) h1 rfl
theorem v_b256 (i : Nat) : Value.int .u8 (IntKind.u8.wrap ((i : Nat) : Int)) = byteV (i % 256).toUInt8 := by
 rw [wrap_u8]
 show _ = Value.int .u8 (((i % 256 % 256 : Nat)) : Int)
 congr 1
 omega
theorem hsnoc {hs cs : List Bs} {p q : Bs} (hl : cs.length = hs.length) (h : ∀ j, (hs.getD j bz).bs = (cs.getD j bz).bs) (hp : p.bs = q.bs) : ∀ j, ((hs ++ [p]).getD j bz).bs = ((cs ++ [q]).getD j bz).bs := fun j => by
 by_cases h1 : j < hs.length
 ·rw [getD_lt _ _ _ h1, getD_lt _ _ _ (by omega)]; exact h j
 by_cases h2 : j = hs.length
 ·subst h2
  rw [getD_snoc, ← hl, getD_snoc]; exact hp
 rw [List.getD_eq_getElem?_getD, List.getD_eq_getElem?_getD, List.getElem?_eq_none (by rw [List.length_append, List.length_singleton]; omega), List.getElem?_eq_none (by rw [List.length_append, List.length_singleton]; omega)]
theorem same_ok (x y : Value) (a b : List UInt8) (w : World) (hx : RdE byteV w x a) (hy : RdE byteV w y b) (hla : a.length ≤ 9223372036854775807) : Calls Tryz.prog 15 [x, y].toArray w (Rt fun r w' => r = .bool (decide (a = b)) ∧ Upd [] w w') := by
 have hM0 : Mem w [] w [] := Mem.nil w []
 refine calls_vc mixed Tryz.func15 rfl C15 (by simp [Tryz.ntmps15]) <| seq fun _ h1 => mv <| h1 _ _ <| seq fun _ h2 => seq fun _ h3 => mv <| stp (v := .int .i64 (a.length : Nat)) (o_lenR (hx.upd hM0.upd) rfl rfl) <| mv <| stp (v := .int .i64 (b.length : Nat)) (o_lenR (hy.upd hM0.upd) rfl rfl) <| bneq rfl rfl <| h3 _ _ <| cndP rfl (fun c4 => ?_) (fun c4 => ?_)
 ·refine seq fun _ h5 => mv <| h5 _ _ <| ⟨(.bool false), rfl, ⟨by rw [decide_eq_false (fun e => c4 (by rw [e]))], hM0.upd⟩⟩
 refine h2 _ _ <| seq fun _ h6 => seq fun _ h7 => mv <| h7 _ _ <| lp (n := fun _ _ => False) (ι := (Nat)) (fun i f w' => f 0 = x ∧ f 1 = y ∧ f 5 = .int .i64 (i : Nat) ∧ Mem w [] w' [] ∧ (i ≤ a.length) ∧ (a.take i = b.take i)) (fun i => a.length - i) (0) ?_ ?_
 ·exact ⟨rfl, rfl, vi, hM0, by omega, by simp⟩
 rintro i f w8 ⟨e8_0, e8_1, e8_5, hM8, hi, hp⟩ K9 h9
 obtain ⟨frm, rfl⟩ := re3 e8_0 e8_1 e8_5
 refine seq fun _ h10 => seq fun _ h11 => mv <| mv <| stp (v := .int .i64 (a.length : Nat)) (o_lenR (hx.upd hM8.upd) rfl rfl) <| bn rfl rfl <| h11 _ _ <| cndP rfl (fun c12 => ?_) (fun c12 => ?_)
 ·refine h10 _ _ <| seq fun _ h13 => seq fun _ h14 => ?_
  intro wd e1 e2 e3 e4
  have hd := Upd.same e1 e2 e3 e4 []
  have hM15 := hM8.pure hd
  clear e1 e2 e3 e4
  refine ⟨none, ?_⟩
  show vd _ _ _ _ _ _ _
  refine dmv <| dmv <| dqp (m_idxE 0 (j := i) (hx.upd hM15.upd) rfl rfl (by omega) fun b16 o16 hp16 => ?_)
  show vd _ _ _ _ _ _ _
  refine dmv <| dmv <| dqp (m_idxE 0 (j := i) (hy.upd hM15.upd) rfl rfl (by omega) fun b17 o17 hp17 => ?_)
  show vd _ _ _ _ _ _ _
  refine dqld rfl (trivial) (v := byteV (b.getD i 0)) (hp17) <| dl (ld (v := byteV (a.getD i 0)) rfl (hp16) <| ⟨rfl, dq (v := .bool (decide (¬ ((a.getD i 0).toNat : Int) = ((b.getD i 0).toNat : Int)))) (o_bin rfl rfl v_neq) <| h14 _ _ <| cndP rfl (fun c18 => ?_) (fun c18 => ?_)⟩)
  ·refine seq fun _ h19 => mv <| h19 _ _ <| ⟨(.bool false), rfl, ⟨by rw [decide_eq_false (ne_atG 0 i (nat_neG (by assumption)))], hM15.upd⟩⟩
  refine h13 _ _ <| mv <| stp (v := .int .i64 ((i : Nat) + 1)) (o_bin rfl rfl (v_add64 (by omega))) <| mv <| h9 (i + 1) _ _ ⟨rfl, rfl, vi, hM15, by omega, take_eqG 0 hp (by omega) (by omega) (u8_eq (by omega))⟩ (by (try dsimp only); omega)
 refine h6 _ _ <| seq fun _ h20 => mv <| h20 _ _ <| ⟨(.bool true), rfl, ⟨by rw [decide_eq_true]; rw [← List.take_of_length_le (l := a) (i := i) (by omega), ← List.take_of_length_le (l := b) (i := i) (by omega), hp], hM8.upd⟩⟩
set_option maxRecDepth 100000 in
theorem BlockBuilds_ok (r0 m0 : Int) (x : Value) (l : List Pr2) (y : Value) (fs : List Int) (w : World) (hr0i : inK .i64 r0) (hm0i : inK .i64 m0) (hx : RdS pairC w x l) (hl : l.length ≤ 1048576) (hll : ∀ i, (l.getD i ([], [])).1.length ≤ 140737488355328 ∧ (l.getD i ([], [])).2.length ≤ 140737488355328) (hy : RdE i64V w y fs) (hfl : fs.length ≤ 140737488351232) : Calls Tryz.prog 3 [.int .i64 r0, .int .i64 m0, x, y].toArray w (Rt fun r w' => r = .bool true ∧ Upd [] w w') := by
 have hM0 : Mem w [] w [] := Mem.nil w []
 obtain ⟨g, hge⟩ : ∃ g, g = gX r0 m0 := ⟨_, rfl⟩
 obtain ⟨R, hRe⟩ : ∃ R, R = RX0 r0 m0 := ⟨_, rfl⟩
 obtain ⟨M, hMe⟩ : ∃ M, M = MX0 r0 m0 := ⟨_, rfl⟩
 have hRb : 1 ≤ R ∧ R ≤ 64 := by rw [hRe]; exact RX0_b r0 m0
 have hMb : 64 ≤ M ∧ M ≤ 65536 := by rw [hMe]; exact MX0_b r0 m0
 refine calls_vc mixed Tryz.func3 rfl C3 (by simp [Tryz.ntmps3]) <| seq fun _ h1 => stp (v := .bool false) (o_mv rfl) <| h1 _ _ <| seq fun _ h2 => stp (v := .int .i64 r0) (o_mv rfl) <| stp (v := .int .i64 m0) (o_mv rfl) <| m_call (BXnew_ok r0 m0 w hr0i hm0i) rfl fun v3 w3 ⟨b3_, rs3, hr3, hB3, hm3⟩ => ?_
 have hM3 : Mem w [] w3 [rs3] := hM0.add hm3
 rw [← hge] at hr3 hB3
 rw [← hRe, ← hMe] at hB3
 subst hr3
 refine stp (v := .tuple [b3_, .int .i64 (if g then 0 else 3)].toArray) (o_mv rfl) <| stp (v := b3_) (o_ext rfl rfl) <| stp (v := .int .i64 (if g then 0 else 3)) (o_ext rfl rfl) <| stp (v := b3_) (o_mv rfl) <| stp (v := .int .i64 (if g then 0 else 3)) (o_mv rfl) <| h2 _ _ <| seq fun _ h4 => stp (v := .int .i64 r0) (o_mv rfl) <| stp (v := .int .i64 m0) (o_mv rfl) <| m_call (RXnew_ok r0 m0 w3 hr0i hm0i) rfl fun v5 w5 ⟨b5_, rs5, hr5, hB5, hm5⟩ => ?_
 have hM5 : Mem w [] w5 [rs3, rs5] := hM3.add hm5
 rw [← hge] at hr5 hB5
 rw [← hRe, ← hMe] at hB5
 subst hr5
 refine stp (v := .tuple [b5_, .int .i64 (if g then 0 else 3)].toArray) (o_mv rfl) <| stp (v := b5_) (o_ext rfl rfl) <| stp (v := .int .i64 (if g then 0 else 3)) (o_ext rfl rfl) <| stp (v := b5_) (o_mv rfl) <| stp (v := .int .i64 (if g then 0 else 3)) (o_mv rfl) <| h4 _ _ <| seq fun _ h6 => seq fun _ h7 => stp (v := .int .i64 (if g then 0 else 3)) (o_mv rfl) <| stp (v := .int .i64 (if g then 0 else 3)) (o_mv rfl) <| stp (v := .bool false) (o_bin rfl rfl v_neF) <| stp (v := .bool false) (o_mv rfl) <| splitF rfl <| stg rfl (v := b3_) (o_mv rfl) ?_
 refine stg rfl (v := .bool (!g)) (o_isnilX hB3 rfl) <| stg rfl (v := b5_) (o_mv rfl) <| stg rfl (v := .bool (!g)) (o_isnilR hB5 rfl) <| stg rfl (v := .bool false) (o_beq rfl rfl (by simp)) <| stp (v := .bool false) (o_pickF rfl rfl) <| h7 _ _ <| cndF rfl <| h6 _ _ <| seq fun _ h8 => stp (v := .slice none 0 0) (o_mv rfl) <| stp (v := .slice none 0 0) (o_mv rfl) <| h8 _ _ <| seq fun _ h9 => stp (v := .slice none 0 0) (o_mv rfl) ?_
 refine stp (v := .slice none 0 0) (o_mv rfl) <| h9 _ _ <| seq fun _ h10 => seq fun _ h11 => ?_
 have hM12 : Mem w [] w5 [rs3, rs5, [], [], []] := hM5.addNil.addNil.addNil
 refine stp (v := .int .i64 0) (o_mv rfl) <| h11 _ _ ?_
 have hM13 : Mem w [] w5 [rs3, rs5, [], [], [], []] := hM12.addNil
 have hs13 : SlS bsC 1 31 (.slice none 0 0) [] [] := Sl.nil 1 31
 have hM14 : Mem w [] w5 [rs3, rs5, [], [], [], [], []] := hM13.addNil
 have hs14 : SlS bsC 1 31 (.slice none 0 0) [] [] := Sl.nil 1 31
 refine lp (n := fun _ _ => False) (ι := (Nat) × (List Pr2) × (List Ent) × (List Ent) × (Value) × (Value) × (List UInt8) × (List Ent) × (List Bs) × (List Bs) × (List Ent) × (List Ent) × (Value) × (List Ent) × (Value) × (List Ent)) (fun ⟨i, tk, rb, rr, y13, y14, ml, rO, hs, cs, NH, NC, y15_, r15_, y16_, r16_⟩ f w' => f 17 = .int .i64 (i : Nat) ∧ f 9 = b3_ ∧ f 11 = b5_ ∧ f 13 = y13 ∧ f 14 = y14 ∧ f 15 = y15_ ∧ f 16 = y16_ ∧ f 2 = x ∧ f 3 = y ∧ Mem w [] w' [rb, rr, rO, NH, NC, r15_, r16_] ∧ (i ≤ l.length + 1) ∧ (BX g R M b3_ tk rb) ∧ (RX g R M b5_ tk rr) ∧ (OKT R tk) ∧ (∀ w2, (∀ e ∈ rO, Own w2 e) → RdE byteV w2 y13 ml ∧ RdE byteV w2 y14 ml) ∧ (ml.length ≤ 300000) ∧ (Nst BsQ hs NH) ∧ (Nst BsQ cs NC) ∧ (hs.length ≤ i ∧ cs.length = hs.length) ∧ (∀ j, (hs.getD j bz).bs = (cs.getD j bz).bs) ∧ (i = l.length + 1 → tk = []) ∧ (SlS bsC 1 31 y15_ (hs) r15_) ∧ (SlS bsC 1 31 y16_ (cs) r16_)) (fun ⟨i, tk, rb, rr, y13, y14, ml, rO, hs, cs, NH, NC, y15_, r15_, y16_, r16_⟩ => l.length + 1 - i) (0, [], rs3, rs5, (.slice none 0 0), (.slice none 0 0), [], [], [], [], [], [], ((.slice none 0 0)), ([]), ((.slice none 0 0)), ([])) ?_ ?_
 ·exact ⟨vi, rfl, rfl, rfl, rfl, rfl, rfl, rfl, rfl, hM14, by omega, hB3, hB5, OKT.nil R, fun w2 _ => ⟨Rd.nilE byteV w2, Rd.nilE byteV w2⟩, by simp, trivial, trivial, by simp, fun j => rfl, fun _ => rfl, by first | exact hs13 | simpa using hs13, by first | exact hs14 | simpa using hs14⟩
 rintro ⟨i, tk, rb, rr, y13, y14, ml, rO, hs, cs, NH, NC, y15_, r15_, y16_, r16_⟩ f w15 ⟨e15_17, e15_9, e15_11, e15_13, e15_14, e15_15, e15_16, e15_2, e15_3, hM15, hi, hB, hQ, ho, hO, hml, hNh, hNc, hhl, hsm, hla, hy15_, hy16_⟩ K16 h16
 obtain ⟨frm, rfl⟩ := re9 e15_17 e15_9 e15_11 e15_13 e15_14 e15_15 e15_16 e15_2 e15_3
 refine seq fun _ h17 => seq fun _ h18 => stp (v := .int .i64 (i : Nat)) (o_mv rfl) <| stp (v := x) (o_mv rfl) <| stp (v := .int .i64 (l.length : Nat)) (o_lenR (hx.upd hM15.upd) rfl rfl) <| stp (v := .bool (decide (((i : Nat) : Int) ≤ (l.length : Nat)))) (o_bin rfl rfl rfl) <| h18 _ _ <| cndP rfl (fun c19 => ?_) (fun c19 => ?_)
 ·refine h17 _ _ <| seq fun _ h20 => seq fun _ h21 => stp (v := .int .i64 (i : Nat)) (o_mv rfl) <| stp (v := x) (o_mv rfl) <| stp (v := .int .i64 (l.length : Nat)) (o_lenR (hx.upd hM15.upd) rfl rfl) <| stp (v := .bool (decide (((i : Nat) : Int) = (l.length : Nat)))) (o_bin rfl rfl rfl) <| stp (v := .bool (decide (((i : Nat) : Int) = (l.length : Nat)))) (o_mv rfl) <| h21 _ _ <| seqc (fun f w' => ∃ (tk : List Pr2) (rb : List Ent) (rr : List Ent), f 2 = x ∧ f 3 = y ∧ f 9 = b3_ ∧ f 11 = b5_ ∧ f 13 = y13 ∧ f 14 = y14 ∧ f 15 = y15_ ∧ f 16 = y16_ ∧ f 17 = .int .i64 (i : Nat) ∧ f 18 = .bool (decide (((i : Nat) : Int) = (l.length : Nat))) ∧ Mem w [] w' [rb, rr, rO, NH, NC, r15_, r16_] ∧ (BX g R M b3_ tk rb) ∧ (RX g R M b5_ tk rr) ∧ (OKT R tk)) ?_ ?_
  ·intro K22 h22
   refine seq fun _ h24 => stp (v := .bool (decide (((i : Nat) : Int) = (l.length : Nat)))) (o_mv rfl) <| stp (v := .bool (decide (¬ (((i : Nat) : Int) = (l.length : Nat))))) (o_not rfl v_not) <| h24 _ _ <| cndP rfl (fun c25 => ?_) (fun c25 => ?_)
   ·refine seq fun _ h26 => ?_
    intro wd e1 e2 e3 e4
    have hd := Upd.same e1 e2 e3 e4 []
    have hM27 := hM15.pure hd
    clear e1 e2 e3 e4
    refine ⟨(some [(blkV x)]), ?_⟩
    show vd _ _ _ _ _ _ _
    refine dq (v := b3_) (o_mv rfl) <| dq (v := x) (o_mv rfl) <| dq (v := .int .i64 (i : Nat)) (o_mv rfl) <| dqp (m_idxS3 ([], []) (j := i) (hx.upd hM27.upd) (hx.upd hM27.upd) rfl rfl (by omega) fun b28 o28 hp28 hbb28 => ?_)
    show vd _ _ _ _ _ _ _
    subst hbb28
    refine dq (v := .pointer (some ⟨(blkV x), o28, none⟩)) (o_fa rfl rfl) <| dq (v := x) (o_mv rfl) <| dq (v := .int .i64 (i : Nat)) (o_mv rfl) <| dqp (m_idxS3 ([], []) (j := i) (hx.upd hM27.upd) (hx.upd hM27.upd) rfl rfl (by omega) fun b29 o29 hp29 hbb29 => ?_)
    show vd _ _ _ _ _ _ _
    subst hbb29
    refine dq (v := .pointer (some ⟨(blkV x), o29 + 1, none⟩)) (o_fa rfl rfl) <| dq (v := b5_) (o_mv rfl) <| dq (v := x) (o_mv rfl) <| dq (v := .int .i64 (i : Nat)) (o_mv rfl) <| dqp (m_idxS3 ([], []) (j := i) (hx.upd hM27.upd) (hx.upd hM27.upd) rfl rfl (by omega) fun b30 o30 hp30 hbb30 => ?_)
    show vd _ _ _ _ _ _ _
    subst hbb30
    refine dq (v := .pointer (some ⟨(blkV x), o30, none⟩)) (o_fa rfl rfl) <| dq (v := x) (o_mv rfl) <| dq (v := .int .i64 (i : Nat)) (o_mv rfl) <| dqp (m_idxS3 ([], []) (j := i) (hx.upd hM27.upd) (hx.upd hM27.upd) rfl rfl (by omega) fun b31 o31 hp31 hbb31 => ?_)
    show vd _ _ _ _ _ _ _
    subst hbb31
    refine dq (v := .pointer (some ⟨(blkV x), o31 + 1, none⟩)) (o_fa rfl rfl) <| dqld rfl (by simp [isHeld]) (v := .string (str ((l.getD i ([], [])).2))) (hp31.get 1 rfl) <| dqld rfl (by simp [isHeld]) (v := .string (str ((l.getD i ([], [])).1))) (hp30.get 0 rfl) <| dqld rfl (by simp [isHeld]) (v := .string (str ((l.getD i ([], [])).2))) (hp29.get 1 rfl) <| dl (ld (v := .string (str ((l.getD i ([], [])).1))) rfl (hp28.get 0 rfl) <| ⟨(fun b hb => rfl), dl (m_call (BXadd_ok g R M b3_ tk ((l.getD i ([], [])).1) ((l.getD i ([], [])).2) rb wd hB (hM27.res (i := 0) rfl) hRb hMb.2 ho (hll _).1 (hll _).2) rfl fun v32 w32 ⟨r'32, hr32, hB32, ho32, hm32⟩ => ?_)⟩)
    have hM32 : Mem w [] w32 [r'32, rr, rO, NH, NC, r15_, r16_] := hM27.step 0 rfl hm32
    subst hr32
    have hh32 := held_upd (wr := wd) (bs := [(blkV x)]) hm32.upd (fun b hb => by
     simp only [List.mem_cons, List.not_mem_nil, or_false] at hb
     rw [hb]; exact ⟨Rd.blkV_ltS (hx.upd hM27.upd) (by omega), hM27.old (i := 0) rfl (Rd.blkV_ltS hx (by omega))⟩) (fun b hb => rfl)
    refine ⟨hh32, dl (m_call (RXadd_ok g R M b5_ tk ((l.getD i ([], [])).1) ((l.getD i ([], [])).2) rr w32 hQ (hM32.res (i := 1) rfl) hRb hMb.2 ho (hll _).1 (hll _).2) rfl fun v33 w33 ⟨r'33, hr33, hB33, ho33, hm33⟩ => ?_)⟩
    have hM33 : Mem w [] w33 [r'32, r'33, rO, NH, NC, r15_, r16_] := hM32.step 1 rfl hm33
    subst hr33
    have hh33 := held_upd (wr := wd) (bs := [(blkV x)]) hm33.upd (fun b hb => by
     simp only [List.mem_cons, List.not_mem_nil, or_false] at hb
     rw [hb]; exact ⟨Rd.blkV_ltS (hx.upd hM32.upd) (by omega), hM32.old (i := 1) rfl (Rd.blkV_ltS hx (by omega))⟩) hh32
    refine ⟨hh33, dq (v := .bool false) (o_bin rfl rfl v_neF) <| h26 _ _ <| cndF rfl <| h22 _ _ ⟨(nxtX g R M tk ((l.getD i ([], [])).1) ((l.getD i ([], [])).2)), r'32, r'33, rfl, rfl, rfl, rfl, rfl, rfl, rfl, rfl, vi, by first | rfl | simp [upd], hM33, hB32, hB33, ho32⟩⟩
   refine h22 _ _ ⟨tk, rb, rr, rfl, rfl, rfl, rfl, rfl, rfl, rfl, rfl, vi, by first | rfl | simp [upd], hM15, hB, hQ, ho⟩
  rintro f w23 ⟨tk, rb, rr, e23_2, e23_3, e23_9, e23_11, e23_13, e23_14, e23_15, e23_16, e23_17, e23_18, hM23, hB, hQ, ho⟩
  obtain ⟨frm, rfl⟩ := re10 e23_2 e23_3 e23_9 e23_11 e23_13 e23_14 e23_15 e23_16 e23_17 e23_18
  refine seq fun _ h34 => seq fun _ h35 => stp (v := b3_) (o_mv rfl) <| m_call (BXsize_ok g R M b3_ tk rb w23 hB (hM23.res (i := 0) rfl) hRb ho) rfl fun v36 w36 ⟨hr36, hm36⟩ => ?_
  have hM36 : Mem w [] w36 [rb, rr, rO, NH, NC, r15_, r16_] := hM23.step 0 rfl hm36
  subst hr36
  refine stp (v := b5_) (o_mv rfl) <| m_call (RXsize_ok g R M b5_ tk rr w36 hQ (hM36.res (i := 1) rfl) hRb ho) rfl fun v37 w37 ⟨hr37, hm37⟩ => ?_
  have hM37 : Mem w [] w37 [rb, rr, rO, NH, NC, r15_, r16_] := hM36.step 1 rfl hm37
  subst hr37
  refine stp (v := .bool false) (o_bin rfl rfl v_neF) <| stp (v := .bool false) (o_mv rfl) <| splitF rfl <| stg rfl (v := b3_) (o_mv rfl) <| gyesl rfl <| m_call (BXlen_ok g R M b3_ tk rb w37 hB (hM37.res (i := 0) rfl) hRb ho) rfl fun v38 w38 ⟨hr38, hm38⟩ => ?_
  have hM38 : Mem w [] w38 [rb, rr, rO, NH, NC, r15_, r16_] := hM37.step 0 rfl hm38
  subst hr38
  refine stg rfl (v := b5_) (o_mv rfl) <| gyesl rfl <| m_call (RXlen_ok g R M b5_ tk rr w38 hQ (hM38.res (i := 1) rfl) hRb ho) rfl fun v39 w39 ⟨hr39, hm39⟩ => ?_
  have hM39 : Mem w [] w39 [rb, rr, rO, NH, NC, r15_, r16_] := hM38.step 1 rfl hm39
  subst hr39
  refine stg rfl (v := .bool false) (o_bin rfl rfl v_neF) <| stp (v := .bool false) (o_pickF rfl rfl) <| h35 _ _ <| cndF rfl <| h34 _ _ <| seq fun _ h40 => stp (v := .bool (decide (((i : Nat) : Int) = (l.length : Nat)))) (o_mv rfl) <| stp (v := .bool (decide (((i : Nat) : Int) = (l.length : Nat)))) (o_mv rfl) <| h40 _ _ <| seq fun _ h41 => seq fun _ h42 => stp (v := .int .i64 0) (o_mv rfl) <| h42 _ _ <| lp (n := fun _ _ => False) (ι := (Nat) × (Bool)) (fun ⟨k, en⟩ f w' => f 20 = .int .i64 (k : Nat) ∧ f 19 = .bool en ∧ f 2 = x ∧ f 3 = y ∧ f 9 = b3_ ∧ f 11 = b5_ ∧ f 13 = y13 ∧ f 14 = y14 ∧ f 15 = y15_ ∧ f 16 = y16_ ∧ f 17 = .int .i64 (i : Nat) ∧ Mem w [] w' [rb, rr, rO, NH, NC, r15_, r16_] ∧ (k ≤ fs.length) ∧ (i = l.length → en = true)) (fun ⟨k, en⟩ => fs.length - k) (0, decide ((i : Int) = (l.length : Nat))) ?_ ?_
  ·exact ⟨vi, rfl, rfl, rfl, rfl, rfl, rfl, rfl, rfl, rfl, vi, hM39, by omega, fun e => decide_eq_true (by omega)⟩
  rintro ⟨k, en⟩ f w43 ⟨e43_20, e43_19, e43_2, e43_3, e43_9, e43_11, e43_13, e43_14, e43_15, e43_16, e43_17, hM43, hk, hen⟩ K44 h44
  obtain ⟨frm, rfl⟩ := re11 e43_20 e43_19 e43_2 e43_3 e43_9 e43_11 e43_13 e43_14 e43_15 e43_16 e43_17
  refine seq fun _ h45 => seq fun _ h46 => stp (v := .int .i64 (k : Nat)) (o_mv rfl) <| stp (v := y) (o_mv rfl) <| stp (v := .int .i64 (fs.length : Nat)) (o_lenR (hy.upd hM43.upd) rfl rfl) <| stp (v := .bool (decide (((k : Nat) : Int) < (fs.length : Nat)))) (o_bin rfl rfl rfl) <| h46 _ _ <| cndP rfl (fun c47 => ?_) (fun c47 => ?_)
  ·refine h45 _ _ <| seq fun _ h48 => stp (v := .bool en) (o_mv rfl) <| stp (v := .bool en) (o_mv rfl) <| split rfl (fun cT => ?_) (fun cF => ?_)
   ·refine gx rfl <| gx rfl <| gx rfl <| gxl rfl <| gx rfl <| gx rfl <| stp (v := .bool true) (o_pickT rfl rfl) <| stp (v := .bool true) (o_mv rfl) <| h48 _ _ <| stp (v := .int .i64 (k : Nat)) (o_mv rfl) <| stp (v := .int .i64 ((k : Nat) + 1)) (o_bin rfl rfl (v_add64 (by omega))) <| stp (v := .int .i64 ((k : Nat) + 1)) (o_mv rfl) <| h44 (k + 1, true) _ _ ⟨vi, rfl, rfl, rfl, rfl, rfl, rfl, rfl, rfl, rfl, vi, hM43, by omega, by first | exact fun _ => rfl | exact fun e => absurd ((hen e).symm.trans cF) (by decide)⟩ (by (try dsimp only); omega)
   refine stg rfl (v := y) (o_mv rfl) <| stg rfl (v := .int .i64 (k : Nat)) (o_mv rfl) <| gyes rfl rfl (m_idxE 0 (j := k) (hy.upd hM43.upd) rfl rfl (by omega) fun b50 o50 hp50 => gyesl rfl <| ld (v := .int .i64 (fs.getD k 0)) rfl (hp50) <| stg rfl (v := .int .i64 (i : Nat)) (o_mv rfl) <| stg rfl (v := .bool (decide ((fs.getD k 0) = (i : Nat)))) (o_bin rfl rfl rfl) <| stp (v := .bool (decide ((fs.getD k 0) = (i : Nat)))) (o_pickF rfl rfl) <| stp (v := .bool (decide ((fs.getD k 0) = (i : Nat)))) (o_mv rfl) <| h48 _ _ <| stp (v := .int .i64 (k : Nat)) (o_mv rfl) <| stp (v := .int .i64 ((k : Nat) + 1)) (o_bin rfl rfl (v_add64 (by omega))) <| stp (v := .int .i64 ((k : Nat) + 1)) (o_mv rfl) <| h44 (k + 1, decide ((fs.getD k 0) = (i : Nat))) _ _ ⟨vi, rfl, rfl, rfl, rfl, rfl, rfl, rfl, rfl, rfl, vi, hM43, by omega, by first | exact fun _ => rfl | exact fun e => absurd ((hen e).symm.trans cF) (by decide)⟩ (by (try dsimp only); omega))
  refine h41 _ _ <| seq fun _ h51 => seq fun _ h52 => stp (v := .bool en) (o_mv rfl) <| stp (v := .bool (!en)) (o_not rfl rfl) <| h52 _ _ <| cnd rfl (fun cT2 => ?_) (fun cF2 => ?_)
  ·refine h20 _ _ <| stp (v := .int .i64 (i : Nat)) (o_mv rfl) <| stp (v := .int .i64 ((i : Nat) + 1)) (o_bin rfl rfl (v_add64 (by omega))) <| stp (v := .int .i64 ((i : Nat) + 1)) (o_mv rfl) <| h16 (i + 1, tk, rb, rr, y13, y14, ml, rO, hs, cs, NH, NC, y15_, r15_, y16_, r16_) _ _ ⟨vi, rfl, rfl, rfl, rfl, rfl, rfl, rfl, rfl, hM43, by omega, hB, hQ, ho, hO, hml, hNh, hNc, by omega, hsm, fun e => by have q := hen (by omega); rw [q] at cT2; exact absurd cT2 (by decide), by first | exact hy15_ | simpa using hy15_, by first | exact hy16_ | simpa using hy16_⟩ (by (try dsimp only); omega)
  refine h51 _ _ <| seq fun _ h54 => stp (v := b3_) (o_mv rfl) ?_
  have htl := tilX_len hRb.1 ho
  refine m_call (BXfin_ok g R M b3_ tk rb w43 hB (hM43.res (i := 0) rfl) hRb ho) rfl fun v55 w55 ⟨v55_, rb55, rs55, hr55, hs55, hB55, hm55⟩ => ?_
  have hM55 : Mem w [] w55 [rb55, rr, rO, NH, NC, r15_, r16_, rs55] := hM43.stepAdd 0 rfl hm55
  subst hr55
  refine stp (v := .tuple [v55_, .int .i64 (rawX R tk : Nat), .int .i64 (finX g tk)].toArray) (o_mv rfl) <| stp (v := v55_) (o_ext rfl rfl) <| stp (v := .int .i64 (rawX R tk : Nat)) (o_ext rfl rfl) <| stp (v := .int .i64 (finX g tk)) (o_ext rfl rfl) <| stp (v := v55_) (o_mv rfl) <| stp (v := .int .i64 (rawX R tk : Nat)) (o_mv rfl) <| stp (v := .int .i64 (finX g tk)) (o_mv rfl) <| h54 _ _ <| seq fun _ h56 => stp (v := b5_) (o_mv rfl) <| m_call (RXfin_ok g R M b5_ tk rr w55 hQ (hM55.res (i := 1) rfl) hRb ho) rfl fun v57 w57 ⟨v57_, rb57, rs57, hr57, hs57, hB57, hm57⟩ => ?_
  have hM57 : Mem w [] w57 [rb55, rb57, rO, NH, NC, r15_, r16_, rs55, rs57] := hM55.stepAdd 1 rfl hm57
  subst hr57
  refine stp (v := .tuple [v57_, .int .i64 (rawX R tk : Nat), .int .i64 (finX g tk)].toArray) (o_mv rfl) <| stp (v := v57_) (o_ext rfl rfl) <| stp (v := .int .i64 (rawX R tk : Nat)) (o_ext rfl rfl) <| stp (v := .int .i64 (finX g tk)) (o_ext rfl rfl) <| stp (v := v57_) (o_mv rfl) <| stp (v := .int .i64 (rawX R tk : Nat)) (o_mv rfl) <| stp (v := .int .i64 (finX g tk)) (o_mv rfl) <| h56 _ _ <| seq fun _ h58 => seq fun _ h59 => stp (v := .int .i64 (finX g tk)) (o_mv rfl) <| stp (v := .int .i64 (finX g tk)) (o_mv rfl) <| stp (v := .bool false) (o_bin rfl rfl v_neF) <| stp (v := .bool false) (o_mv rfl) <| splitF rfl <| stg rfl (v := .int .i64 (rawX R tk : Nat)) (o_mv rfl) <| stg rfl (v := .int .i64 (rawX R tk : Nat)) (o_mv rfl) <| stg rfl (v := .bool false) (o_bin rfl rfl v_neF) <| stp (v := .bool false) (o_pickF rfl rfl) <| stp (v := .bool false) (o_mv rfl) <| splitF rfl <| stg rfl (v := v55_) (o_mv rfl) <| stg rfl (v := v57_) (o_mv rfl) <| gyesl rfl <| m_call (same_ok _ _ (tilX R tk) (tilX R tk) w57 (hs55.rd hM57 (i := 7) rfl) (hs57.rd hM57 (i := 8) rfl) (by omega)) rfl fun v60 w60 ⟨hr60, hu60⟩ => ?_
  have hM60 : Mem w [] w60 [rb55, rb57, rO, NH, NC, r15_, r16_, rs55, rs57] := hM57.pure hu60
  obtain rfl : v60 = .bool true := hr60.trans (by simp)
  clear hr60
  refine stg rfl (v := .bool false) (o_not rfl rfl) <| stp (v := .bool false) (o_pickF rfl rfl) <| stp (v := .bool false) (o_mv rfl) <| splitF rfl <| stg rfl (v := y13) (o_mv rfl) <| stg rfl (v := y14) (o_mv rfl) <| gyesl rfl <| m_call (same_ok _ _ ml ml w60 ((hO _ (hM60.res (i := 2) rfl).1).1) ((hO _ (hM60.res (i := 2) rfl).1).2) (by omega)) rfl fun v61 w61 ⟨hr61, hu61⟩ => ?_
  have hM61 : Mem w [] w61 [rb55, rb57, rO, NH, NC, r15_, r16_, rs55, rs57] := hM60.pure hu61
  obtain rfl : v61 = .bool true := hr61.trans (by simp)
  clear hr61
  refine stg rfl (v := .bool false) (o_not rfl rfl) <| stp (v := .bool false) (o_pickF rfl rfl) <| h59 _ _ <| cndF rfl <| h58 _ _ <| seq fun _ h62 => seq fun _ h63 => stp (v := .int .i64 (i : Nat)) (o_mv rfl) <| stp (v := .int .i64 (i % 2 : Nat)) (o_rem rfl rfl (by omega) ((v_rem (Int.natCast_nonneg _)).trans rfl)) <| stp (v := .bool (decide (((i % 2 : Nat) : Int) = 0))) (o_bin rfl rfl rfl) <| h63 _ _ <| cndP rfl (fun c64 => ?_) (fun c64 => ?_)
  ·refine seq fun _ h65 => stp (v := y15_) (o_mv rfl) <| stp (v := v55_) (o_mv rfl) ?_
   obtain ⟨a66_, n66_, c66_, rfl⟩ := Sl.isSlice hs55
   refine m_app1S (enc := bsC) (q := (⟨a66_, n66_, c66_, tilX R tk⟩ : Bs)) hM61 (i := 5) rfl hy15_ rfl (by simp) (rfl) (rfl) (by first | omega | (simp; omega)) (by omega) fun v67 w67 r67 u67 (hs67 : SlS bsC 1 31 v67 (hs ++ [(⟨a66_, n66_, c66_, tilX R tk⟩ : Bs)]) r67) (hM67 : Mem w [] w67 [rb55, rb57, rO, NH, NC, r67, r16_, rs55, rs57]) => stp (v := v67) (o_mv rfl) <| h65 _ _ <| seq fun _ h68 => stp (v := y16_) (o_mv rfl) <| stp (v := v57_) (o_mv rfl) ?_
   obtain ⟨a69_, n69_, c69_, rfl⟩ := Sl.isSlice hs57
   refine m_app1S (enc := bsC) (q := (⟨a69_, n69_, c69_, tilX R tk⟩ : Bs)) hM67 (i := 6) rfl hy16_ rfl (by simp) (rfl) (rfl) (by first | omega | (simp; omega)) (by omega) fun v70 w70 r70 u70 (hs70 : SlS bsC 1 31 v70 (cs ++ [(⟨a69_, n69_, c69_, tilX R tk⟩ : Bs)]) r70) (hM70 : Mem w [] w70 [rb55, rb57, rO, NH, NC, r67, r70, rs55, rs57]) => stp (v := v70) (o_mv rfl) <| h68 _ _ <| h20 _ _ <| stp (v := .int .i64 (i : Nat)) (o_mv rfl) <| stp (v := .int .i64 ((i : Nat) + 1)) (o_bin rfl rfl (v_add64 (by omega))) <| stp (v := .int .i64 ((i : Nat) + 1)) (o_mv rfl) <| h16 (i + 1, [], rb55, rb57, y13, y14, ml, rO, hs ++ [(⟨a66_, n66_, c66_, tilX R tk⟩ : Bs)], cs ++ [(⟨a69_, n69_, c69_, tilX R tk⟩ : Bs)], rs55 ++ NH, rs57 ++ NC, v67, r67, v70, r70) _ _ ⟨vi, rfl, rfl, rfl, rfl, rfl, rfl, rfl, rfl, Mem.nest2 (hM70.perm (by simp [List.append_assoc])), by omega, hB55, hB57, OKT.nil R, hO, hml, Nst.perm (Nst.app hNh ⟨hs55, by show (tilX R tk).length ≤ _; omega⟩) List.perm_append_comm, Nst.perm (Nst.app hNc ⟨hs57, by show (tilX R tk).length ≤ _; omega⟩) List.perm_append_comm, by rw [List.length_append, List.length_append, List.length_singleton, List.length_singleton]; omega, hsnoc hhl.2 hsm rfl, fun _ => rfl, by first | exact hs67 | simpa using hs67, by first | exact hs70 | simpa using hs70⟩ (by (try dsimp only); omega)
  refine h62 _ _ <| seq fun _ h71 => seq fun _ h72 => stp (v := .int .i64 0) (o_mv rfl) <| h72 _ _ <| lp (n := fun _ _ => False) (ι := (Nat) × (List UInt8) × (List Ent)) (fun ⟨k, X, r21_⟩ f w' => f 27 = .int .i64 (k : Nat) ∧ f 21 = v55_ ∧ f 2 = x ∧ f 3 = y ∧ f 9 = b3_ ∧ f 11 = b5_ ∧ f 15 = y15_ ∧ f 16 = y16_ ∧ f 17 = .int .i64 (i : Nat) ∧ Mem w [] w' [rb55, rb57, rO, NH, NC, r15_, r16_, r21_, rs57] ∧ (k ≤ X.length ∧ X.length ≤ 200005) ∧ (SlE byteV 5 v55_ (X) r21_)) (fun ⟨k, X, r21_⟩ => X.length - k) (0, (tilX R tk), rs55) ?_ ?_
  ·exact ⟨vi, rfl, rfl, rfl, rfl, rfl, rfl, rfl, vi, hM61, by omega, by first | exact hs55 | simpa using hs55⟩
  rintro ⟨k, X, r21_⟩ f w73 ⟨e73_27, e73_21, e73_2, e73_3, e73_9, e73_11, e73_15, e73_16, e73_17, hM73, hk, hy21_⟩ K74 h74
  obtain ⟨frm, rfl⟩ := re9 e73_27 e73_21 e73_2 e73_3 e73_9 e73_11 e73_15 e73_16 e73_17
  refine seq fun _ h75 => seq fun _ h76 => stp (v := .int .i64 (k : Nat)) (o_mv rfl) <| stp (v := v55_) (o_mv rfl) <| stp (v := .int .i64 (X.length : Nat)) (o_lenR (hy21_.rd hM73 (i := 7) rfl) rfl rfl) <| stp (v := .bool (decide (((k : Nat) : Int) < (X.length : Nat)))) (o_bin rfl rfl rfl) <| h76 _ _ <| cndP rfl (fun c77 => ?_) (fun c77 => ?_)
  ·refine h75 _ _ <| seq fun _ h78 => stp (v := v55_) (o_mv rfl) <| stp (v := .int .i64 (k : Nat)) (o_mv rfl) <| stp (v := .int .i64 (i : Nat)) (o_mv rfl) <| stp (v := byteV ((i % 256).toUInt8)) (o_conv rfl (v_b256 i)) <| m_set (E := byteV) (q := (i % 256).toUInt8) (j := k) hM73 (i := 7) rfl hy21_ rfl rfl (by omega) (by simp) (rfl) fun w79 r79 u79 he79 hs79 (hM79 : Mem w [] w79 [rb55, rb57, rO, NH, NC, r15_, r16_, r79, rs57]) => h78 _ _ <| stp (v := .int .i64 (k : Nat)) (o_mv rfl) <| stp (v := .int .i64 ((k : Nat) + 1)) (o_bin rfl rfl (v_add64 (by omega))) <| stp (v := .int .i64 ((k : Nat) + 1)) (o_mv rfl) <| h74 (k + 1, X.set k ((i % 256).toUInt8), r79) _ _ ⟨vi, rfl, rfl, rfl, rfl, rfl, rfl, rfl, vi, hM79, by rw [List.length_set]; omega, by first | exact hs79 | simpa using hs79⟩ (by (try dsimp only); rw [List.length_set]; omega)
  refine h71 _ _ <| seq fun _ h80 => stp (v := v55_) (o_mv rfl) <| stp (v := v55_) (o_mv rfl) <| h80 _ _ <| seq fun _ h81 => m_bs hM73 rfl fun b82 w83 (hM83 : Mem w [] w83 [rb55, rb57, rO, NH, NC, r15_, r16_, r21_, rs57, [⟨b82, 5, []⟩]]) => stp (v := v55_) (o_mv rfl) ?_
  have hs84 : SlE byteV 5 (.slice (some ⟨b82, 0, none⟩) 0 0) [] [⟨b82, 5, []⟩] := SlE.lit (l := []) rfl
  refine m_appE hM83 (i := 9) rfl hs84 rfl rfl (hy21_.rd hM83 (i := 7) rfl) (by first | omega | (simp; omega)) (by omega) fun v85 w85 r85 (hs85 : SlE byteV 5 v85 (X) r85) (hM85 : Mem w [] w85 [rb55, rb57, rO, NH, NC, r15_, r16_, r21_, rs57, r85]) => stp (v := v85) (o_mv rfl) <| h81 _ _ <| seq fun _ h86 => ?_
  have hg := Gr.zero hy21_
  refine stp (v := .int .i64 0) (o_mv rfl) <| h86 _ _ <| lp (n := fun _ _ => False) (ι := (Nat) × (Value) × (List Ent)) (fun ⟨k, x21, r21⟩ f w' => f 28 = .int .i64 (k : Nat) ∧ f 21 = x21 ∧ f 2 = x ∧ f 3 = y ∧ f 9 = b3_ ∧ f 11 = b5_ ∧ f 13 = v55_ ∧ f 14 = v85 ∧ f 15 = y15_ ∧ f 16 = y16_ ∧ f 17 = .int .i64 (i : Nat) ∧ Mem w [] w' [rb55, rb57, rO, NH, NC, r15_, r16_, r21, rs57, r85] ∧ (k ≤ 64) ∧ (Gr byteV 5 v55_ x21 X (List.replicate k 9) r21)) (fun ⟨k, x21, r21⟩ => 64 - k) (0, v55_, r21_) ?_ ?_
  ·exact ⟨vi, rfl, rfl, rfl, rfl, rfl, rfl, rfl, rfl, rfl, vi, hM85, by omega, hg⟩
  rintro ⟨k, x21, r21⟩ f w87 ⟨e87_28, e87_21, e87_2, e87_3, e87_9, e87_11, e87_13, e87_14, e87_15, e87_16, e87_17, hM87, hk, hg⟩ K88 h88
  obtain ⟨frm, rfl⟩ := re11 e87_28 e87_21 e87_2 e87_3 e87_9 e87_11 e87_13 e87_14 e87_15 e87_16 e87_17
  refine seq fun _ h89 => seq fun _ h90 => stp (v := .int .i64 (k : Nat)) (o_mv rfl) <| stp (v := .bool (decide (((k : Nat) : Int) < 64))) (o_bin rfl rfl rfl) <| h90 _ _ <| cndP rfl (fun c91 => ?_) (fun c91 => ?_)
  ·refine h89 _ _ <| seq fun _ h92 => stp (v := x21) (o_mv rfl) <| m_grow1 (E := byteV) (q := 9) hM87 (i := 7) rfl hg rfl (by simp) (rfl) (by first | omega | (simp; omega)) (by omega) fun v93 w93 r93 u93 hs93 (hM93 : Mem w [] w93 [rb55, rb57, rO, NH, NC, r15_, r16_, r93, rs57, r85]) => stp (v := v93) (o_mv rfl) <| h92 _ _ <| stp (v := .int .i64 (k : Nat)) (o_mv rfl) <| stp (v := .int .i64 ((k : Nat) + 1)) (o_bin rfl rfl (v_add64 (by omega))) <| stp (v := .int .i64 ((k : Nat) + 1)) (o_mv rfl) <| h88 (k + 1, v93, r93) _ _ ⟨vi, rfl, rfl, rfl, rfl, rfl, rfl, rfl, rfl, rfl, vi, hM93, by omega, by rw [List.replicate_succ']; exact hs93⟩ (by (try dsimp only); omega)
  refine h20 _ _ ?_
  obtain ⟨ra, hra, hsa⟩ := hg.base
  refine stp (v := .int .i64 (i : Nat)) (o_mv rfl) <| stp (v := .int .i64 ((i : Nat) + 1)) (o_bin rfl rfl (v_add64 (by omega))) <| stp (v := .int .i64 ((i : Nat) + 1)) (o_mv rfl) <| h16 (i + 1, [], rb55, rb57, v55_, v85, X, r21 ++ r85, hs, cs, NH, NC, y15_, r15_, y16_, r16_) _ _ ⟨vi, rfl, rfl, rfl, rfl, rfl, rfl, rfl, rfl, Mem.nestO hM87, by omega, hB55, hB57, OKT.nil R, fun w2 hw => ⟨hsa.rdOwn fun e he => hw e (List.mem_append_left _ (hra.subset he)), (hs85).rdOwn fun e he => hw e (List.mem_append_right _ he)⟩, by omega, hNh, hNc, by omega, hsm, fun _ => rfl, by first | exact hy15_ | simpa using hy15_, by first | exact hy16_ | simpa using hy16_⟩ (by (try dsimp only); omega)
 refine h10 _ _ <| seq fun _ h94 => seq fun _ h95 => stp (v := .int .i64 0) (o_mv rfl) <| h95 _ _ <| lp (n := fun _ _ => False) (ι := (Nat)) (fun j f w' => f 29 = .int .i64 (j : Nat) ∧ f 9 = b3_ ∧ f 15 = y15_ ∧ f 16 = y16_ ∧ Mem w [] w' [rb, rr, rO, NH, NC, r15_, r16_] ∧ (j ≤ hs.length)) (fun j => hs.length - j) (0) ?_ ?_
 ·exact ⟨vi, rfl, rfl, rfl, hM15, by omega⟩
 rintro j f w96 ⟨e96_29, e96_9, e96_15, e96_16, hM96, hj⟩ K97 h97
 obtain ⟨frm, rfl⟩ := re4 e96_29 e96_9 e96_15 e96_16
 refine seq fun _ h98 => seq fun _ h99 => stp (v := .int .i64 (j : Nat)) (o_mv rfl) <| stp (v := y15_) (o_mv rfl) <| stp (v := .int .i64 (hs.length : Nat)) (o_lenR (hy15_.rd hM96 (i := 5) rfl) rfl rfl) <| stp (v := .bool (decide (((j : Nat) : Int) < (hs.length : Nat)))) (o_bin rfl rfl rfl) <| h99 _ _ <| cndP rfl (fun c100 => ?_) (fun c100 => ?_)
 ·refine h98 _ _ <| seq fun _ h101 => seq fun _ h102 => ?_
  intro wd e1 e2 e3 e4
  have hd := Upd.same e1 e2 e3 e4 []
  have hM103 := hM96.pure hd
  clear e1 e2 e3 e4
  refine ⟨(some [(blkV y16_)]), ?_⟩
  show vd _ _ _ _ _ _ _
  have hb8 := (hNh.bs (hM103.res (i := 3) rfl).1 _ (getD_memG bz (l := hs) (i := j) (by omega))).2
  refine dq (v := y15_) (o_mv rfl) <| dq (v := .int .i64 (j : Nat)) (o_mv rfl) <| dqp (m_idxS bz (j := j) (hy15_.rd hM103 (i := 5) rfl) rfl rfl (by omega) fun b104 o104 hp104 => ?_)
  show vd _ _ _ _ _ _ _
  refine dq (v := y16_) (o_mv rfl) <| dq (v := .int .i64 (j : Nat)) (o_mv rfl) <| dqp (m_idxS3 bz (j := j) (hy16_.rd hM103 (i := 6) rfl) (hy16_.rd hM103 (i := 6) rfl) rfl rfl (by omega) fun b105 o105 hp105 hbb105 => ?_)
  show vd _ _ _ _ _ _ _
  subst hbb105
  refine dqld rfl (by simp [isHeld]) (v := (cs.getD j bz).v) (hp105.get 0 rfl) <| dl (ld (v := (hs.getD j bz).v) rfl (hp104.get 0 rfl) <| ⟨(fun b hb => rfl), dl (m_call (same_ok _ _ ((hs.getD j bz).bs) ((cs.getD j bz).bs) wd ((hNh.bs (hM103.res (i := 3) rfl).1 _ (getD_memG bz (l := hs) (i := j) (by omega))).1) ((hNc.bs (hM103.res (i := 4) rfl).1 _ (getD_memG bz (l := cs) (i := j) (by omega))).1) (by omega)) rfl fun v106 w106 ⟨hr106, hu106⟩ => ?_)⟩)
  have hM106 : Mem w [] w106 [rb, rr, rO, NH, NC, r15_, r16_] := hM103.pure hu106
  obtain rfl : v106 = .bool true := hr106.trans (by rw [decide_eq_true (hsm j)])
  clear hr106
  have hh106 := held_upd (wr := wd) (bs := [(blkV y16_)]) hu106 (fun b hb => by
   simp only [List.mem_cons, List.not_mem_nil, or_false] at hb
   rw [hb]; exact ⟨Rd.blkV_ltS (hy16_.rd hM103 (i := 6) rfl) (by omega), by simp⟩) (fun b hb => rfl)
  refine ⟨hh106, dq (v := .bool false) (o_not rfl rfl) <| h102 _ _ <| cndF rfl <| h101 _ _ <| stp (v := .int .i64 (j : Nat)) (o_mv rfl) <| stp (v := .int .i64 ((j : Nat) + 1)) (o_bin rfl rfl (v_add64 (by omega))) <| stp (v := .int .i64 ((j : Nat) + 1)) (o_mv rfl) <| h97 (j + 1) _ _ ⟨vi, rfl, rfl, rfl, hM106, by omega⟩ (by (try dsimp only); omega)⟩
 refine h94 _ _ <| seq fun _ h107 => ?_
 have htk : tk.length = 0 := by rw [hla (by omega)]; rfl
 have hsz : szX R tk = 0 := by rw [hla (by omega)]; rfl
 refine stp (v := y15_) (o_mv rfl) <| m_call (apart_ok _ hs r15_ NH w96 hy15_ hNh (Mem.res2 hM96 5 3 rfl rfl (by decide)) (by omega)) rfl fun v108 w108 ⟨hr108, hm108⟩ => ?_
 have hM108 : Mem w [] w108 [rb, rr, rO, [], NC, [], r16_] := Mem.step2 hM96 5 3 rfl rfl (by decide) (hm108.keep (by simp) : Mem _ _ _ [[], []])
 subst hr108
 refine stp (v := .bool true) (o_mv rfl) <| splitT rfl <| stg rfl (v := b3_) (o_mv rfl) <| gyesl rfl <| m_call (BXlen_ok g R M b3_ tk rb w108 hB (hM108.res (i := 0) rfl) hRb ho) rfl fun v109 w109 ⟨hr109, hm109⟩ => ?_
 have hM109 : Mem w [] w109 [rb, rr, rO, [], NC, [], r16_] := hM108.step 0 rfl hm109
 subst hr109
 refine stg rfl (v := .bool (decide (((tk.length : Nat) : Int) = 0))) (o_bin rfl rfl rfl) <| stp (v := .bool (decide (((tk.length : Nat) : Int) = 0))) (o_pickT rfl rfl) <| stp (v := .bool (decide (((tk.length : Nat) : Int) = 0))) (o_mv rfl) <| splitP rfl (fun c110 => ?_) (fun c110 => (c110 (by omega)).elim)
 refine stg rfl (v := b3_) (o_mv rfl) <| gyesl rfl <| m_call (BXsize_ok g R M b3_ tk rb w109 hB (hM109.res (i := 0) rfl) hRb ho) rfl fun v111 w111 ⟨hr111, hm111⟩ => ?_
 have hM111 : Mem w [] w111 [rb, rr, rO, [], NC, [], r16_] := hM109.step 0 rfl hm111
 subst hr111
 refine stg rfl (v := .bool (decide (((szX R tk : Nat) : Int) = 0))) (o_bin rfl rfl rfl) <| stp (v := .bool (decide (((szX R tk : Nat) : Int) = 0))) (o_pickT rfl rfl) <| stp (v := .bool (decide (((szX R tk : Nat) : Int) = 0))) (o_mv rfl) <| h107 _ _ <| ⟨(.bool (decide (((szX R tk : Nat) : Int) = 0))), rfl, ⟨by first | rfl | exact congrArg Value.bool (decide_eq_true (by omega)), hM111.upd⟩⟩
end Go.Proofs.YtifnmbmijljhfaaGreat.E
namespace Go.Proofs.YtifnmbmijljhfaaGreat.E
open Go
def PrOk (f : Pr2) : Prop := f.1.length ≤ 140737488351232 ∧ f.2.length ≤ 140737488351232
theorem two_of {cs : List Value} (h : cs.length = 2) : ∃ a b, cs = [a, b] := by
 match cs, h with
 | [a, b], _ => exact ⟨a, b, rfl⟩
theorem open_pr {W : World} {cs : List Value} (h : Arg Tryz.prog W 35 cs) : ∃ f : Pr2, cs = pairC f ∧ PrOk f := by
 obtain ⟨hl, hf⟩ := h.struct Tryz.underlying35
 have c9 : Tryz.prog.cellsOf 9 = 1 := by kernel_rfl
 rw [show Tryz.prog.cellsOf 35 = 2 by kernel_rfl] at hl
 obtain ⟨a0, a1, rfl⟩ := two_of hl
 obtain ⟨n0, e0, k0⟩ := (hf 0 _ rfl).str Tryz.underlying9
 obtain ⟨n1, e1, k1⟩ := (hf 1 _ rfl).str Tryz.underlying9
 have e0' : a0 = .string (str n0) := by simpa [c9] using e0
 have e1' : a1 = .string (str n1) := by simpa [c9] using e1
 subst e0'
 subst e1'
 exact ⟨(n0, n1), rfl, k0, k1⟩
theorem open_prs {W : World} {cs : List Value} (h : Arg Tryz.prog W 22 cs) : ∃ (v : Value) (l : List Pr2), cs = [v] ∧ RdS pairC W v l ∧ (∀ x ∈ l, PrOk x) ∧ l.length * 32 ≤ 140737488351232 := by
 have := h.slices Tryz.underlying22 (fun c hc _ => open_pr hc)
 rwa [show Tryz.prog.bytesOf 35 = 32 by kernel_rfl] at this
theorem pr_all {l : List Pr2} (h : ∀ x ∈ l, PrOk x) (i : Nat) : (l.getD i ([], [])).1.length ≤ 140737488355328 ∧ (l.getD i ([], [])).2.length ≤ 140737488355328 := by
 by_cases hi : i < l.length
 ·rw [List.getD_eq_getElem?_getD, List.getElem?_eq_getElem hi]
  have := h _ (List.getElem_mem hi)
  unfold PrOk at this
  show l[i].1.length ≤ _ ∧ l[i].2.length ≤ _
  omega
 rw [List.getD_eq_getElem?_getD, List.getElem?_eq_none (by omega)]
 exact ⟨Nat.zero_le _, Nat.zero_le _⟩
end Go.Proofs.YtifnmbmijljhfaaGreat.E
namespace Go.Proofs.YtifnmbmijljhfaaGreat.E
open Go
theorem rds_len {α : Type} {enc : α → List Value} {w : World} {a : Option Addr} {n c : Nat} {l : List α} (h : RdS enc w (.slice a n c) l) : n = l.length := by
 obtain ⟨a', c', e, _⟩ := h.form
 injection e
theorem BlockBuilds_row (r0 m0 : Int) (x : Value) (l : List Pr2) (y : Value) (fs : List Int) (hr0 : inK .i64 r0) (hm0 : inK .i64 m0) (w : World) (hx : RdS pairC w x l) (hok : ∀ z ∈ l, PrOk z) (_ : l.length * 32 ≤ 140737488351232) (hl : l.length ≤ 1048576) (hy : RdE i64V w y fs) (_ : ∀ z ∈ fs, inK .i64 z) (hfl : fs.length * 8 ≤ 140737488351232) : Calls Tryz.prog 3 [.int .i64 r0, .int .i64 m0, x, y].toArray w (Rt fun r w' => r = .bool true ∧ Upd [] w w') :=
 BlockBuilds_ok r0 m0 x l y fs w hr0 hm0 hx hl (pr_all hok) hy (by omega)
end Go.Proofs.YtifnmbmijljhfaaGreat.E
