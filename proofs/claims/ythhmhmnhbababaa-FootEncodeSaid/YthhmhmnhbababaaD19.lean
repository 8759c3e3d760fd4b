/- Footers: tiles. -/
import Derived.Test.YthhmhmnhbababaaD34
namespace Go.Proofs.Ythhmhmnhbababaa.E
open Go
/-- a tile -/
structure Ti where
  kd : Int
  fr : Int
  to : Int
def tiC (t : Ti) : List Value := [.int .i64 t.kd, .int .i64 t.fr, .int .i64 t.to]
instance : Enc tiC 3 := ⟨fun _ => rfl, by omega, fun c => by intro v hv; simp only [tiC, List.mem_cons, List.not_mem_nil, or_false] at hv; rcases hv with rfl | rfl | rfl <;> rfl⟩
def ti0 : Ti := ⟨0, 0, 0⟩
def tlsB : Int → List Bi → List Ti
  | _, [] => []
  | a, b :: bs => ⟨0, a, a + (b.st + 5)⟩ :: tlsB (a + (b.st + 5)) bs
def tlsP : Int → List Pp → List Ti
  | _, [] => []
  | a, p :: ps => tlsB a p.bl ++ tlsP (a + spB p.bl) ps
def tlsG : Nat → Int → Int → List Ti
  | 0, _, _ => []
  | k + 1, a, left => if left ≤ 0 then [] else ⟨1, a, a + min left 4100⟩ :: tlsG k (a + min left 4100) (left - min left 4100)
def tailT (sp : Int) (n : Nat) : List Ti := tlsG n sp n ++ [⟨2, sp + n, sp + n + 24⟩]
def tilesF (parts : Int) (ps : List Pp) : List Ti := if (encT parts ps).2 = 0 then tlsP 0 ps ++ tailT (spaceF ps) (pagesF (bodyF parts ps)).length else []
section
variable {ps : List Pr} {i : Nat}
theorem tlsP_cons {a : Int} (h : i < ps.length) : tlsP a ((ps.drop i).map Pr.p) = tlsB a (ps.getD i pz).bl ++ tlsP (a + spB (ps.getD i pz).bl) ((ps.drop (i + 1)).map Pr.p) := by rw [drop_p h]; rfl
theorem tlsP_end {a : Int} (h : ps.length ≤ i) : tlsP a ((ps.drop i).map Pr.p) = [] := by rw [List.drop_eq_nil_of_le h]; rfl
theorem tlsB_cons {a : Int} {bl : List Bi} {k : Nat} (h : k < bl.length) : tlsB a (bl.drop k) = ⟨0, a, a + ((bl.getD k bz).st + 5)⟩ :: tlsB (a + ((bl.getD k bz).st + 5)) (bl.drop (k + 1)) := by rw [dropG bz h]; rfl
theorem tlsB_end {a : Int} {bl : List Bi} {k : Nat} (h : bl.length ≤ k) : tlsB a (bl.drop k) = [] := by rw [List.drop_eq_nil_of_le h]; rfl
theorem tlsG_cons {k : Nat} {a left : Int} (h : 0 < left) (hk : left ≤ (k : Nat)) : tlsG k a left = ⟨1, a, a + min left 4100⟩ :: tlsG (k - 1) (a + min left 4100) (left - min left 4100) := by
  cases k with
  | zero => omega
  | succ k => rw [tlsG, if_neg (by omega)]; rfl
theorem tlsG_end {k : Nat} {a left : Int} (h : left ≤ 0) : tlsG k a left = [] := by
  cases k with
  | zero => rfl
  | succ k => rw [tlsG, if_pos h]
end

/-- foot.Tiles$1 -/
theorem tile_ok (kd n : Int) (bl bt : Nat) (v : Value) (rb : List Ent) (L : List Ti) (a : Int) (w : World) (hs : SlS tiC 3 47 v L rb) (hr : Res w ([⟨bl, 43, [v]⟩, ⟨bt, 2, [.int .i64 a]⟩] ++ rb)) (hb : 0 ≤ a ∧ 0 ≤ n ∧ a + n ≤ 1152921504606846976) (hL : L.length ≤ 1152921504606) : Calls Try.prog 63 [.int .i64 kd, .int .i64 n, .pointer (some ⟨bl, 0, none⟩), .pointer (some ⟨bt, 0, none⟩)].toArray w (Rt fun _ w' => ∃ v' rb', SlS tiC 3 47 v' (L ++ [(⟨kd, a, a + n⟩ : Ti)]) rb' ∧ Mem w (ids ([⟨bl, 43, [v]⟩, ⟨bt, 2, [.int .i64 a]⟩] ++ rb)) w' [[⟨bl, 43, [v']⟩, ⟨bt, 2, [.int .i64 (a + n)]⟩], rb']) := by
  have hM0 : Mem w (ids ([⟨bl, 43, [v]⟩, ⟨bt, 2, [.int .i64 a]⟩] ++ rb)) w [[⟨bl, 43, [v]⟩], [⟨bt, 2, [.int .i64 a]⟩], rb] := (Mem.start hr).keep (by simp)
  refine calls_vc mixed Try.func63 rfl C63 (by simp [Try.ntmps63]) ?_
  refine seq fun K1 h1 => ?_
  refine m_ld (v := v) hM0 (i := 0) (j := 0) rfl rfl rfl rfl ?_
  refine stp (v := .int .i64 kd) (o_mv rfl) ?_
  refine m_ld (v := .int .i64 a) hM0 (i := 1) (j := 0) rfl rfl rfl rfl ?_
  refine m_ld (v := .int .i64 a) hM0 (i := 1) (j := 0) rfl rfl rfl rfl ?_
  refine stp (v := .int .i64 n) (o_mv rfl) ?_
  refine stp (v := .int .i64 (a + n)) (o_bin rfl rfl (v_add64 (by constructor <;> omega))) ?_
  refine stp (v := .agg ([.int .i64 kd, .int .i64 a, .int .i64 (a + n)] : List Value).toArray) (o_bld rfl rfl) ?_
  refine m_app1S (enc := tiC) (q := (⟨kd, a, a + n⟩ : Ti)) hM0 (i := 2) rfl hs rfl (by simp) (rfl) (rfl) (by first | omega | (simp; omega)) (by omega) fun v2 w2 r2 u2 (hs2 : SlS tiC 3 47 v2 (L ++ [(⟨kd, a, a + n⟩ : Ti)]) r2) (hM2 : Mem w (ids ([⟨bl, 43, [v]⟩, ⟨bt, 2, [.int .i64 a]⟩] ++ rb)) w2 [[⟨bl, 43, [v]⟩], [⟨bt, 2, [.int .i64 a]⟩], r2]) => ?_
  refine m_st (v := v2) hM2 (i := 0) rfl rfl rfl (Sl.one hs2) (by simp) fun w3 (hM3 : Mem w (ids ([⟨bl, 43, [v]⟩, ⟨bt, 2, [.int .i64 a]⟩] ++ rb)) w3 [[⟨bl, 43, [v2]⟩], [⟨bt, 2, [.int .i64 a]⟩], r2]) => ?_
  refine h1 _ _ ?_
  clear h1
  refine m_ld (v := .int .i64 a) hM3 (i := 1) (j := 0) rfl rfl rfl rfl ?_
  refine stp (v := .int .i64 n) (o_mv rfl) ?_
  refine stp (v := .int .i64 (a + n)) (o_bin rfl rfl (v_add64 (by constructor <;> omega))) ?_
  refine m_st (v := .int .i64 (a + n)) hM3 (i := 1) rfl rfl rfl rfl (by simp) fun w4 (hM4 : Mem w (ids ([⟨bl, 43, [v]⟩, ⟨bt, 2, [.int .i64 a]⟩] ++ rb)) w4 [[⟨bl, 43, [v2]⟩], [⟨bt, 2, [.int .i64 (a + n)]⟩], r2]) => ?_
  refine ⟨(.tuple [].toArray), rfl, ?_⟩
  exact ⟨_, _, hs2, hM4.keep (by simp)⟩

/-- foot.Tiles -/
theorem Tiles_no (parts : Int) (x : Value) (ps : List Pr) (w : World) (hx : RdS prC w x ps) (hok : ∀ p ∈ ps, p.ok w) (hl : ps.length ≤ 1954687338211) (hp : inK .i64 parts) (he : ¬ (encT parts (ps.map Pr.p)).2 = 0) : Calls Try.prog 26 [.agg [.int .i64 parts, x].toArray].toArray w (Rt fun r w' => ∃ v rs, r = v ∧ SlS tiC 3 47 v (tilesF parts (ps.map Pr.p)) rs ∧ Mem w [] w' [rs]) := by
  have hM0 : Mem w [] w [] := Mem.nil w []
  simp only [inK] at hp
  refine calls_vc mixed Try.func26 rfl C26 (by simp [Try.ntmps26]) ?_
  refine seq fun K1 h1 => ?_
  refine m_bx (v := .agg ([.int .i64 parts, x] : List Value).toArray) hM0 rfl rfl fun b2 w3 (hM3 : Mem w [] w3 [[⟨b2, 24, [.int .i64 parts, x]⟩]]) => ?_
  refine stp (v := .slice none 0 0) (o_mv rfl) ?_
  refine h1 _ _ ?_
  clear h1
  refine seq fun K4 h4 => ?_
  refine m_ldA (l := [.int .i64 parts, x]) hM3 (i := 0) (j := 0) rfl rfl rfl rfl rfl ?_
  refine m_call (Encode_ok parts _ ps w3 (hx.upd hM3.upd) (fun p hp => (hok p hp).upd hM3.upd) (by omega) (by simp only [inK]; omega)) rfl fun v5 w5 ⟨y5, rs5, hr5, hs5, hm5⟩ => ?_
  have hM5 : Mem w [] w5 [[⟨b2, 24, [.int .i64 parts, x]⟩], rs5] := hM3.add hm5
  subst hr5
  refine stp (v := .tuple [y5, .int .i64 ((encT parts (List.map Pr.p ps)).2)].toArray) (o_mv rfl) ?_
  refine stp (v := y5) (o_ext rfl rfl) ?_
  refine stp (v := .int .i64 ((encT parts (List.map Pr.p ps)).2)) (o_ext rfl rfl) ?_
  refine stp (v := y5) (o_mv rfl) ?_
  refine stp (v := .int .i64 ((encT parts (List.map Pr.p ps)).2)) (o_mv rfl) ?_
  refine h4 _ _ ?_
  clear h4
  refine seq fun K6 h6 => ?_
  refine seq fun K7 h7 => ?_
  refine stp (v := .int .i64 ((encT parts (List.map Pr.p ps)).2)) (o_mv rfl) ?_
  refine stp (v := .bool (decide (¬ ((encT parts (List.map Pr.p ps)).2) = 0))) (o_bin rfl rfl v_neq) ?_
  refine h7 _ _ ?_
  clear h7
  refine cndP rfl (fun c8 => ?_) (fun c8 => (c8 (he)).elim)
  refine seq fun K9 h9 => ?_
  refine stp (v := .slice none 0 0) (o_mv rfl) ?_
  refine h9 _ _ ?_
  clear h9
  refine ⟨(.slice none 0 0), rfl, ?_⟩
  exact ⟨_, [], rfl, by unfold tilesF; rw [if_neg he]; exact Sl.nil 3 47, hM5.keep (by simp)⟩

/-- foot.Tiles -/
theorem Tiles_yes (parts : Int) (x : Value) (ps : List Pr) (w : World) (hx : RdS prC w x ps) (hok : ∀ p ∈ ps, p.ok w) (hl : ps.length ≤ 1954687338211) (hp : inK .i64 parts) (he : (encT parts (ps.map Pr.p)).2 = 0) : Calls Try.prog 26 [.agg [.int .i64 parts, x].toArray].toArray w (Rt fun r w' => ∃ v rs, r = v ∧ SlS tiC 3 47 v (tilesF parts (ps.map Pr.p)) rs ∧ Mem w [] w' [rs]) := by
  have hM0 : Mem w [] w [] := Mem.nil w []
  simp only [inK] at hp
  obtain ⟨hft, hm, henc⟩ := enc_0 he
  have hm2 := hm
  unfold mayT at hm2
  refine calls_vc mixed Try.func26 rfl C26 (by simp [Try.ntmps26]) ?_
  refine seq fun K1 h1 => ?_
  refine m_bx (v := .agg ([.int .i64 parts, x] : List Value).toArray) hM0 rfl rfl fun b2 w3 (hM3 : Mem w [] w3 [[⟨b2, 24, [.int .i64 parts, x]⟩]]) => ?_
  refine stp (v := .slice none 0 0) (o_mv rfl) ?_
  refine h1 _ _ ?_
  clear h1
  refine seq fun K4 h4 => ?_
  refine m_ldA (l := [.int .i64 parts, x]) hM3 (i := 0) (j := 0) rfl rfl rfl rfl rfl ?_
  refine m_call (Encode_ok parts _ ps w3 (hx.upd hM3.upd) (fun p hp => (hok p hp).upd hM3.upd) (by omega) (by simp only [inK]; omega)) rfl fun v5 w5 ⟨y5, rs5, hr5, hs5, hm5⟩ => ?_
  have hM5 : Mem w [] w5 [[⟨b2, 24, [.int .i64 parts, x]⟩], rs5] := hM3.add hm5
  rw [henc] at hr5 hs5
  dsimp only at hr5 hs5
  subst hr5
  have hel5 : ((pagesF (bodyF parts (List.map Pr.p ps))) ++ (trF (spaceF (List.map Pr.p ps)) (pagesF (bodyF parts (List.map Pr.p ps))).length)).length = (pagesF (bodyF parts (List.map Pr.p ps))).length + 24 := by rw [List.length_append, trF_len]
  refine stp (v := .tuple [y5, .int .i64 0].toArray) (o_mv rfl) ?_
  refine stp (v := y5) (o_ext rfl rfl) ?_
  refine stp (v := .int .i64 0) (o_ext rfl rfl) ?_
  refine stp (v := y5) (o_mv rfl) ?_
  refine stp (v := .int .i64 0) (o_mv rfl) ?_
  refine h4 _ _ ?_
  clear h4
  refine seq fun K6 h6 => ?_
  refine seq fun K7 h7 => ?_
  refine stp (v := .int .i64 0) (o_mv rfl) ?_
  refine stp (v := .bool false) (o_bin rfl rfl v_neF) ?_
  refine h7 _ _ ?_
  clear h7
  refine cndF rfl ?_
  refine h6 _ _ ?_
  clear h6
  refine seq fun K8 h8 => ?_
  refine m_al hM5 fun b9 w10 (hM10 : Mem w [] w10 [[⟨b2, 24, [.int .i64 parts, x]⟩], rs5, [⟨b9, 43, [.slice none 0 0]⟩]]) => ?_
  refine h8 _ _ ?_
  clear h8
  refine seq fun K11 h11 => ?_
  refine m_al hM10 fun b12 w13 (hM13 : Mem w [] w13 [[⟨b2, 24, [.int .i64 parts, x]⟩], rs5, [⟨b9, 43, [.slice none 0 0]⟩], [⟨b12, 2, [.int .i64 0]⟩]]) => ?_
  refine m_st (v := .int .i64 0) hM13 (i := 3) rfl rfl rfl rfl (by simp) fun w14 (hM14 : Mem w [] w14 [[⟨b2, 24, [.int .i64 parts, x]⟩], rs5, [⟨b9, 43, [.slice none 0 0]⟩], [⟨b12, 2, [.int .i64 0]⟩]]) => ?_
  refine h11 _ _ ?_
  clear h11
  refine seq fun K15 h15 => ?_
  refine stp (v := .func (.func 63) [].toArray [.pointer (some ⟨b9, 0, none⟩), .pointer (some ⟨b12, 0, none⟩)].toArray) (o_mkf rfl) ?_
  refine stp (v := .func (.func 63) [].toArray [.pointer (some ⟨b9, 0, none⟩), .pointer (some ⟨b12, 0, none⟩)].toArray) (o_mv rfl) ?_
  refine h15 _ _ ?_
  clear h15
  refine seq fun K16 h16 => ?_
  refine seq fun K17 h17 => ?_
  refine stp (v := .pointer (some ⟨b2, 1, none⟩)) (o_fa rfl rfl) ?_
  refine m_ld (v := x) hM14 (i := 0) (j := 0) rfl rfl rfl rfl ?_
  refine stp (v := .int .i64 (ps.length : Nat)) (o_lenR (hx.upd hM14.upd) rfl rfl) ?_
  refine stp (v := .int .i64 0) (o_mv rfl) ?_
  refine h17 _ _ ?_
  clear h17
  refine lp (n := fun _ _ => False) (ι := (Nat) × (Int) × (Nat) × (Int) × (List Ti) × (Value) × (List Ent)) (fun ⟨i, last, n, a, L, v, rb⟩ f w' => f 25 = .int .i64 (i : Nat) ∧ f 3 = y5 ∧ f 5 = .pointer (some ⟨b9, 0, none⟩) ∧ f 7 = .func (.func 63) [].toArray [.pointer (some ⟨b9, 0, none⟩), .pointer (some ⟨b12, 0, none⟩)].toArray ∧ f 23 = x ∧ f 24 = .int .i64 (ps.length : Nat) ∧ Mem w [] w' [[⟨b2, 24, [.int .i64 parts, x]⟩], rs5, [⟨b9, 43, [v]⟩, ⟨b12, 2, [.int .i64 a]⟩], rb] ∧ (SlS tiC 3 47 v L rb) ∧ (i ≤ ps.length) ∧ (infOk parts last n ((ps.drop i).map Pr.p)) ∧ (n ≤ 262144) ∧ (0 ≤ a ∧ a ≤ n * 65541) ∧ (spaceF (ps.map Pr.p) = a + spaceF ((ps.drop i).map Pr.p)) ∧ (L.length = n) ∧ (tlsP 0 (ps.map Pr.p) = L ++ tlsP a ((ps.drop i).map Pr.p))) (fun ⟨i, last, n, a, L, v, rb⟩ => ps.length - i) (0, (-1), 0, 0, [], .slice none 0 0, []) ?_ ?_
  · exact ⟨by first | rfl | exact v_int (by omega) | exact v_int (by simp) | exact v_int (by simp; omega), rfl, rfl, rfl, rfl, by first | rfl | exact v_int (by omega) | exact v_int (by simp) | exact v_int (by simp; omega), hM14.addNil.keep (by simp), Sl.nil 3 47, by omega, hft.2, by omega, by omega, by rw [List.drop_zero]; omega, rfl, by rw [List.drop_zero]; rfl⟩
  · rintro ⟨i, last, n, a, L, v, rb⟩ f w18 ⟨e18_25, e18_3, e18_5, e18_7, e18_23, e18_24, hM18, hs, hi, hI, hn, ha, hE, hLn, hL⟩ K19 h19
    obtain ⟨frm, rfl⟩ : ∃ frm, f = (upd (upd (upd (upd (upd (upd frm 25 (.int .i64 (i : Nat))) 3 (y5)) 5 (.pointer (some ⟨b9, 0, none⟩))) 7 (.func (.func 63) [].toArray [.pointer (some ⟨b9, 0, none⟩), .pointer (some ⟨b12, 0, none⟩)].toArray)) 23 (x)) 24 (.int .i64 (ps.length : Nat))) := ⟨f, by rw [upd_self e18_25, upd_self e18_3, upd_self e18_5, upd_self e18_7, upd_self e18_23, upd_self e18_24]⟩
    clear e18_25 e18_3 e18_5 e18_7 e18_23 e18_24
    refine seq fun K20 h20 => ?_
    refine stp (v := .bool (decide (((i : Nat) : Int) < (ps.length : Nat)))) (o_bin rfl rfl rfl) ?_
    refine h20 _ _ ?_
    clear h20
    refine seq fun K21 h21 => ?_
    refine cndP rfl (fun c22 => ?_) (fun c22 => ?_)
    ·
      refine h21 _ _ ?_
      clear h21
      refine seq fun K23 h23 => ?_
      refine seq fun K24 h24 => ?_
      have hpi := hok _ (getD_memG pz (l := ps) (i := i) (by omega))
      have hic := (inf_cons (ps := ps) (i := i) (parts := parts) (last := last) (n := n) (by omega)).1 hI
      have hsc := sp_cons (ps := ps) (i := i) (by omega)
      have htc := tlsP_cons (ps := ps) (i := i) (a := a) (by omega)
      refine m_idxS pz (j := i) (hx.upd hM18.upd) rfl rfl (by omega) fun b25 o25 hp25 => ?_
      refine ldA (cs := [.int .i64 ((ps.getD i pz).part), (ps.getD i pz).bv, .bool ((ps.getD i pz).a), .int .i64 ((ps.getD i pz).h), (ps.getD i pz).dv]) rfl rfl (hp25.row (k := 0) rfl rfl) ?_
      refine m_al hM18 fun b26 w27 (hM27 : Mem w [] w27 [[⟨b2, 24, [.int .i64 parts, x]⟩], rs5, [⟨b9, 43, [v]⟩, ⟨b12, 2, [.int .i64 a]⟩], rb, [⟨b26, 71, [.int .i64 0, .slice none 0 0, .bool false, .int .i64 0, .slice none 0 0]⟩]]) => ?_
      refine m_stA (l := [.int .i64 ((ps.getD i pz).part), (ps.getD i pz).bv, .bool ((ps.getD i pz).a), .int .i64 ((ps.getD i pz).h), (ps.getD i pz).dv]) hM27 (i := 4) rfl rfl rfl rfl (by simp [oneCells, Value.oneCell', byteV]) (by simp) fun w28 (hM28 : Mem w [] w28 [[⟨b2, 24, [.int .i64 parts, x]⟩], rs5, [⟨b9, 43, [v]⟩, ⟨b12, 2, [.int .i64 a]⟩], rb, [⟨b26, 71, [.int .i64 ((ps.getD i pz).part), (ps.getD i pz).bv, .bool ((ps.getD i pz).a), .int .i64 ((ps.getD i pz).h), (ps.getD i pz).dv]⟩]]) => ?_
      refine h24 _ _ ?_
      clear h24
      refine seq fun K29 h29 => ?_
      refine stp (v := .pointer (some ⟨b26, 1, none⟩)) (o_fa rfl rfl) ?_
      refine m_ld (v := (ps.getD i pz).bv) hM28 (i := 4) (j := 0) rfl rfl rfl rfl ?_
      refine stp (v := .int .i64 (((ps.getD i pz).bl).length : Nat)) (o_lenR (((fun p hp => (hok p hp).upd hM28.upd) _ (getD_memG pz (by omega))).rb) rfl rfl) ?_
      refine stp (v := .int .i64 0) (o_mv rfl) ?_
      refine h29 _ _ ?_
      clear h29
      refine lp (n := fun _ _ => False) (ι := (Nat) × (List UInt8) × (Int) × (List Ti) × (Value) × (List Ent)) (fun ⟨k, key, a2, L2, v2, rb2⟩ f w' => f 32 = .int .i64 (k : Nat) ∧ f 3 = y5 ∧ f 5 = .pointer (some ⟨b9, 0, none⟩) ∧ f 7 = .func (.func 63) [].toArray [.pointer (some ⟨b9, 0, none⟩), .pointer (some ⟨b12, 0, none⟩)].toArray ∧ f 23 = x ∧ f 24 = .int .i64 (ps.length : Nat) ∧ f 25 = .int .i64 (i : Nat) ∧ f 30 = (ps.getD i pz).bv ∧ f 31 = .int .i64 (((ps.getD i pz).bl).length : Nat) ∧ Mem w [] w' [[⟨b2, 24, [.int .i64 parts, x]⟩], rs5, [⟨b9, 43, [v2]⟩, ⟨b12, 2, [.int .i64 a2]⟩], rb2, [⟨b26, 71, [.int .i64 ((ps.getD i pz).part), (ps.getD i pz).bv, .bool ((ps.getD i pz).a), .int .i64 ((ps.getD i pz).h), (ps.getD i pz).dv]⟩]] ∧ (SlS tiC 3 47 v2 L2 rb2) ∧ (k ≤ (ps.getD i pz).bl.length) ∧ (blsOk key ((ps.getD i pz).bl.drop k)) ∧ (0 ≤ a2 ∧ a2 ≤ (n + k : Nat) * 65541) ∧ (a + spB (ps.getD i pz).bl = a2 + spB ((ps.getD i pz).bl.drop k)) ∧ (L2.length = n + k) ∧ (L ++ tlsB a (ps.getD i pz).bl = L2 ++ tlsB a2 ((ps.getD i pz).bl.drop k))) (fun ⟨k, key, a2, L2, v2, rb2⟩ => (ps.getD i pz).bl.length - k) (0, [], a, L, v, rb) ?_ ?_
      · exact ⟨by first | rfl | exact v_int (by omega) | exact v_int (by simp) | exact v_int (by simp; omega), rfl, rfl, rfl, rfl, by first | rfl | exact v_int (by omega) | exact v_int (by simp) | exact v_int (by simp; omega), by first | rfl | exact v_int (by omega) | exact v_int (by simp) | exact v_int (by simp; omega), rfl, by first | rfl | exact v_int (by omega) | exact v_int (by simp) | exact v_int (by simp; omega), hM28, hs, by omega, hic.1.1.2.2.2.2, by omega, by rw [List.drop_zero], by omega, by rw [List.drop_zero]⟩
      · rintro ⟨k, key, a2, L2, v2, rb2⟩ f w30 ⟨e30_32, e30_3, e30_5, e30_7, e30_23, e30_24, e30_25, e30_30, e30_31, hM30, hs2, hk, hB, ht, hT, hLk, hL2⟩ K31 h31
        obtain ⟨frm, rfl⟩ : ∃ frm, f = (upd (upd (upd (upd (upd (upd (upd (upd (upd frm 32 (.int .i64 (k : Nat))) 3 (y5)) 5 (.pointer (some ⟨b9, 0, none⟩))) 7 (.func (.func 63) [].toArray [.pointer (some ⟨b9, 0, none⟩), .pointer (some ⟨b12, 0, none⟩)].toArray)) 23 (x)) 24 (.int .i64 (ps.length : Nat))) 25 (.int .i64 (i : Nat))) 30 ((ps.getD i pz).bv)) 31 (.int .i64 (((ps.getD i pz).bl).length : Nat))) := ⟨f, by rw [upd_self e30_32, upd_self e30_3, upd_self e30_5, upd_self e30_7, upd_self e30_23, upd_self e30_24, upd_self e30_25, upd_self e30_30, upd_self e30_31]⟩
        clear e30_32 e30_3 e30_5 e30_7 e30_23 e30_24 e30_25 e30_30 e30_31
        refine seq fun K32 h32 => ?_
        refine stp (v := .bool (decide (((k : Nat) : Int) < (((ps.getD i pz).bl).length : Nat)))) (o_bin rfl rfl rfl) ?_
        refine h32 _ _ ?_
        clear h32
        refine seq fun K33 h33 => ?_
        refine cndP rfl (fun c34 => ?_) (fun c34 => ?_)
        ·
          refine h33 _ _ ?_
          clear h33
          refine seq fun K35 h35 => ?_
          refine seq fun K36 h36 => ?_
          have hbc := (bls_cons (last := key) (bl := (ps.getD i pz).bl) (k := k) (by omega)).1 hB
          have hbk := hbc.1.1.1
          have hsk := spB_cons (bl := (ps.getD i pz).bl) (k := k) (by omega)
          refine m_idxS bz (j := k) (((fun p hp => (hok p hp).upd hM30.upd) _ (getD_memG pz (by omega))).rb) rfl rfl (by omega) fun b37 o37 hp37 => ?_
          refine ldA (cs := [.int .i64 ((((ps.getD i pz).bl).getD k bz).st), .int .i64 ((((ps.getD i pz).bl).getD k bz).ra), .int .i64 ((((ps.getD i pz).bl).getD k bz).ct), .string (str ((((ps.getD i pz).bl).getD k bz).cut))]) rfl rfl (hp37.row (k := 0) rfl rfl) ?_
          refine m_al hM30 fun b38 w39 (hM39 : Mem w [] w39 [[⟨b2, 24, [.int .i64 parts, x]⟩], rs5, [⟨b9, 43, [v2]⟩, ⟨b12, 2, [.int .i64 a2]⟩], rb2, [⟨b26, 71, [.int .i64 ((ps.getD i pz).part), (ps.getD i pz).bv, .bool ((ps.getD i pz).a), .int .i64 ((ps.getD i pz).h), (ps.getD i pz).dv]⟩], [⟨b38, 74, [.int .i64 0, .int .i64 0, .int .i64 0, .string (str ([]))]⟩]]) => ?_
          refine m_stA (l := [.int .i64 ((((ps.getD i pz).bl).getD k bz).st), .int .i64 ((((ps.getD i pz).bl).getD k bz).ra), .int .i64 ((((ps.getD i pz).bl).getD k bz).ct), .string (str ((((ps.getD i pz).bl).getD k bz).cut))]) hM39 (i := 5) rfl rfl rfl rfl (by simp [oneCells, Value.oneCell', byteV]) (by simp) fun w40 (hM40 : Mem w [] w40 [[⟨b2, 24, [.int .i64 parts, x]⟩], rs5, [⟨b9, 43, [v2]⟩, ⟨b12, 2, [.int .i64 a2]⟩], rb2, [⟨b26, 71, [.int .i64 ((ps.getD i pz).part), (ps.getD i pz).bv, .bool ((ps.getD i pz).a), .int .i64 ((ps.getD i pz).h), (ps.getD i pz).dv]⟩], [⟨b38, 74, [.int .i64 ((((ps.getD i pz).bl).getD k bz).st), .int .i64 ((((ps.getD i pz).bl).getD k bz).ra), .int .i64 ((((ps.getD i pz).bl).getD k bz).ct), .string (str ((((ps.getD i pz).bl).getD k bz).cut))]⟩]]) => ?_
          refine h36 _ _ ?_
          clear h36
          refine stp (v := .func (.func 63) [].toArray [.pointer (some ⟨b9, 0, none⟩), .pointer (some ⟨b12, 0, none⟩)].toArray) (o_mv rfl) ?_
          refine stp (v := .pointer (some ⟨b38, 0, none⟩)) (o_fa rfl rfl) ?_
          refine m_ld (v := .int .i64 ((((ps.getD i pz).bl).getD k bz).st)) hM40 (i := 5) (j := 0) rfl rfl rfl rfl ?_
          refine stp (v := .int .i64 (((((ps.getD i pz).bl).getD k bz).st) + 5)) (o_bin rfl rfl (v_add64 (by constructor <;> omega))) ?_
          refine m_callv rfl (by kernel_rfl) (tile_ok 0 (((((ps.getD i pz).bl).getD k bz).st) + 5) b9 b12 _ rb2 L2 a2 w40 hs2 (hM40.res2 2 3 rfl rfl (by decide)) (by omega) (by omega)) rfl fun v41 w41 ⟨v41, rb41, hs41, hm41⟩ => ?_
          have hM41 : Mem w [] w41 [[⟨b2, 24, [.int .i64 parts, x]⟩], rs5, [⟨b9, 43, [v41]⟩, ⟨b12, 2, [.int .i64 (a2 + (((((ps.getD i pz).bl).getD k bz).st) + 5))]⟩], rb41, [⟨b26, 71, [.int .i64 ((ps.getD i pz).part), (ps.getD i pz).bv, .bool ((ps.getD i pz).a), .int .i64 ((ps.getD i pz).h), (ps.getD i pz).dv]⟩], [⟨b38, 74, [.int .i64 ((((ps.getD i pz).bl).getD k bz).st), .int .i64 ((((ps.getD i pz).bl).getD k bz).ra), .int .i64 ((((ps.getD i pz).bl).getD k bz).ct), .string (str ((((ps.getD i pz).bl).getD k bz).cut))]⟩]] := hM40.step2 2 3 rfl rfl (by decide) hm41
          refine h35 _ _ ?_
          clear h35
          refine stp (v := .int .i64 ((k : Nat) + 1)) (o_bin rfl rfl (v_add64 (by constructor <;> omega))) ?_
          refine stp (v := .int .i64 ((k : Nat) + 1)) (o_mv rfl) ?_
          refine h31 (k + 1, ((ps.getD i pz).bl.getD k bz).cut, a2 + (((((ps.getD i pz).bl).getD k bz).st) + 5), L2 ++ [(⟨0, a2, a2 + (((((ps.getD i pz).bl).getD k bz).st) + 5)⟩ : Ti)], v41, rb41) _ _ ⟨by first | rfl | exact v_int (by omega) | exact v_int (by simp) | exact v_int (by simp; omega), rfl, rfl, rfl, rfl, by first | rfl | exact v_int (by omega) | exact v_int (by simp) | exact v_int (by simp; omega), by first | rfl | exact v_int (by omega) | exact v_int (by simp) | exact v_int (by simp; omega), rfl, by first | rfl | exact v_int (by omega) | exact v_int (by simp) | exact v_int (by simp; omega), hM41.keep (by simp), hs41, by omega, hbc.2, by omega, by omega, by rw [List.length_append]; simp only [List.length_cons, List.length_nil]; omega, by rw [hL2, tlsB_cons (by omega), List.append_assoc]; rfl⟩ (by (try dsimp only); omega)
        ·
          refine h23 _ _ ?_
          clear h23
          refine stp (v := .int .i64 ((i : Nat) + 1)) (o_bin rfl rfl (v_add64 (by constructor <;> omega))) ?_
          refine stp (v := .int .i64 ((i : Nat) + 1)) (o_mv rfl) ?_
          refine h19 (i + 1, (ps.getD i pz).part, n + (ps.getD i pz).bl.length, a2, L2, v2, rb2) _ _ ⟨by first | rfl | exact v_int (by omega) | exact v_int (by simp) | exact v_int (by simp; omega), rfl, rfl, rfl, rfl, by first | rfl | exact v_int (by omega) | exact v_int (by simp) | exact v_int (by simp; omega), hM30.keep (by simp), hs2, by omega, hic.2, hic.1.2, by have := spB_end (bl := (ps.getD i pz).bl) (k := k) (by omega); omega, by have := spB_end (bl := (ps.getD i pz).bl) (k := k) (by omega); omega, by omega, by have h9 := spB_end (bl := (ps.getD i pz).bl) (k := k) (by omega); rw [hL, htc, ← List.append_assoc, hL2, tlsB_end (by omega), List.append_nil, show a + spB (ps.getD i pz).bl = a2 by omega]⟩ (by (try dsimp only); omega)
    ·
      refine h16 _ _ ?_
      clear h16
      refine seq fun K42 h42 => ?_
      refine seq fun K43 h43 => ?_
      refine stp (v := y5) (o_mv rfl) ?_
      refine stp (v := .int .i64 (((pagesF (bodyF parts (List.map Pr.p ps))) ++ (trF (spaceF (List.map Pr.p ps)) (pagesF (bodyF parts (List.map Pr.p ps))).length)).length : Nat)) (o_lenR (hs5.rd hM18 (i := 1) rfl) rfl rfl) ?_
      refine stp (v := .int .i64 ((pagesF (bodyF parts (List.map Pr.p ps))).length : Nat)) (o_bin rfl rfl ((v_sub64 (by omega)).trans (v_int (by omega)))) ?_
      refine stp (v := .int .i64 ((pagesF (bodyF parts (List.map Pr.p ps))).length : Nat)) (o_mv rfl) ?_
      refine h43 _ _ ?_
      clear h43
      refine lp (n := fun _ _ => False) (ι := (Int) × (Nat) × (Int) × (List Ti) × (Value) × (List Ent)) (fun ⟨left, q, a3, L3, v3, rb3⟩ f w' => f 12 = .int .i64 left ∧ f 5 = .pointer (some ⟨b9, 0, none⟩) ∧ f 7 = .func (.func 63) [].toArray [.pointer (some ⟨b9, 0, none⟩), .pointer (some ⟨b12, 0, none⟩)].toArray ∧ Mem w [] w' [[⟨b2, 24, [.int .i64 parts, x]⟩], rs5, [⟨b9, 43, [v3]⟩, ⟨b12, 2, [.int .i64 a3]⟩], rb3] ∧ (SlS tiC 3 47 v3 L3 rb3) ∧ (0 ≤ left ∧ left ≤ q) ∧ (0 ≤ a3 ∧ a3 + left = (spaceF (List.map Pr.p ps)) + (pagesF (bodyF parts (List.map Pr.p ps))).length) ∧ ((L3.length : Int) + left ≤ 262144 + (pagesF (bodyF parts (List.map Pr.p ps))).length) ∧ (tlsP 0 (ps.map Pr.p) ++ tlsG (pagesF (bodyF parts (List.map Pr.p ps))).length (spaceF (List.map Pr.p ps)) (pagesF (bodyF parts (List.map Pr.p ps))).length = L3 ++ tlsG q a3 left)) (fun ⟨left, q, a3, L3, v3, rb3⟩ => left.toNat) (((pagesF (bodyF parts (List.map Pr.p ps))).length : Nat), (pagesF (bodyF parts (List.map Pr.p ps))).length, a, L, v, rb) ?_ ?_
      · exact ⟨by first | rfl | exact v_int (by omega) | exact v_int (by simp) | exact v_int (by simp; omega), rfl, rfl, hM18, hs, by omega, by have := sp_end (ps := ps) (i := i) (by omega); omega, by omega, by have h9 := sp_end (ps := ps) (i := i) (by omega); rw [hL, tlsP_end (by omega), List.append_nil, show (spaceF (List.map Pr.p ps)) = a by omega]⟩
      · rintro ⟨left, q, a3, L3, v3, rb3⟩ f w44 ⟨e44_12, e44_5, e44_7, hM44, hs3, hl3, ha3, hL3n, hL3⟩ K45 h45
        obtain ⟨frm, rfl⟩ : ∃ frm, f = (upd (upd (upd frm 12 (.int .i64 left)) 5 (.pointer (some ⟨b9, 0, none⟩))) 7 (.func (.func 63) [].toArray [.pointer (some ⟨b9, 0, none⟩), .pointer (some ⟨b12, 0, none⟩)].toArray)) := ⟨f, by rw [upd_self e44_12, upd_self e44_5, upd_self e44_7]⟩
        clear e44_12 e44_5 e44_7
        refine seq fun K46 h46 => ?_
        refine seq fun K47 h47 => ?_
        refine stp (v := .int .i64 left) (o_mv rfl) ?_
        refine stp (v := .bool (decide ((0 : Int) < left))) (o_bin rfl rfl rfl) ?_
        refine h47 _ _ ?_
        clear h47
        refine cndP rfl (fun c48 => ?_) (fun c48 => ?_)
        ·
          refine h46 _ _ ?_
          clear h46
          refine seq fun K49 h49 => ?_
          refine stp (v := .int .i64 left) (o_mv rfl) ?_
          refine stp (v := .int .i64 (min (left : Int) (4100 : Int))) (o_mm rfl rfl rfl) ?_
          refine stp (v := .int .i64 (min (left : Int) (4100 : Int))) (o_mv rfl) ?_
          refine h49 _ _ ?_
          clear h49
          refine seq fun K50 h50 => ?_
          refine stp (v := .func (.func 63) [].toArray [.pointer (some ⟨b9, 0, none⟩), .pointer (some ⟨b12, 0, none⟩)].toArray) (o_mv rfl) ?_
          refine stp (v := .int .i64 (min (left : Int) (4100 : Int))) (o_mv rfl) ?_
          refine m_callv rfl (by kernel_rfl) (tile_ok 1 (min (left : Int) (4100 : Int)) b9 b12 _ rb3 L3 a3 w44 hs3 (hM44.res2 2 3 rfl rfl (by decide)) (by omega) (by omega)) rfl fun v51 w51 ⟨v51, rb51, hs51, hm51⟩ => ?_
          have hM51 : Mem w [] w51 [[⟨b2, 24, [.int .i64 parts, x]⟩], rs5, [⟨b9, 43, [v51]⟩, ⟨b12, 2, [.int .i64 (a3 + (min (left : Int) (4100 : Int)))]⟩], rb51] := hM44.step2 2 3 rfl rfl (by decide) hm51
          refine h50 _ _ ?_
          clear h50
          refine stp (v := .int .i64 left) (o_mv rfl) ?_
          refine stp (v := .int .i64 (min (left : Int) (4100 : Int))) (o_mv rfl) ?_
          refine stp (v := .int .i64 (left - (min (left : Int) (4100 : Int)))) (o_bin rfl rfl (v_sub64 (by constructor <;> omega))) ?_
          refine stp (v := .int .i64 (left - (min (left : Int) (4100 : Int)))) (o_mv rfl) ?_
          refine h45 (left - min left 4100, q - 1, a3 + (min (left : Int) (4100 : Int)), L3 ++ [(⟨1, a3, a3 + (min (left : Int) (4100 : Int))⟩ : Ti)], v51, rb51) _ _ ⟨by first | rfl | exact v_int (by omega) | exact v_int (by simp) | exact v_int (by simp; omega), rfl, rfl, hM51.keep (by simp), hs51, by omega, by omega, by rw [List.length_append]; simp only [List.length_cons, List.length_nil]; omega, by rw [hL3, tlsG_cons (by omega) (by omega), List.append_assoc]; rfl⟩ (by (try dsimp only); omega)
        ·
          refine h42 _ _ ?_
          clear h42
          refine seq fun K52 h52 => ?_
          refine stp (v := .func (.func 63) [].toArray [.pointer (some ⟨b9, 0, none⟩), .pointer (some ⟨b12, 0, none⟩)].toArray) (o_mv rfl) ?_
          refine m_callv rfl (by kernel_rfl) (tile_ok 2 24 b9 b12 _ rb3 L3 a3 w44 hs3 (hM44.res2 2 3 rfl rfl (by decide)) (by omega) (by omega)) rfl fun v53 w53 ⟨v53, rb53, hs53, hm53⟩ => ?_
          have hM53 : Mem w [] w53 [[⟨b2, 24, [.int .i64 parts, x]⟩], rs5, [⟨b9, 43, [v53]⟩, ⟨b12, 2, [.int .i64 (a3 + 24)]⟩], rb53] := hM44.step2 2 3 rfl rfl (by decide) hm53
          refine h52 _ _ ?_
          clear h52
          refine seq fun K54 h54 => ?_
          refine m_ld (v := v53) hM53 (i := 2) (j := 0) rfl rfl rfl rfl ?_
          refine stp (v := v53) (o_mv rfl) ?_
          refine h54 _ _ ?_
          clear h54
          refine ⟨v53, rfl, ?_⟩
          have hT9 : tilesF parts (ps.map Pr.p) = L3 ++ [⟨2, a3, a3 + 24⟩] := by
            unfold tilesF tailT
            rw [if_pos he, ← List.append_assoc, hL3, tlsG_end (by omega), List.append_nil, show (spaceF (List.map Pr.p ps)) + (((pagesF (bodyF parts (List.map Pr.p ps))).length : Nat) : Int) = a3 by omega]
          exact ⟨_, _, rfl, by rw [hT9]; exact hs53, hM53.keep (by simp; repeat first | exact List.Sublist.refl _ | exact List.sublist_append_left _ _ | exact .cons _ (by assumption) | refine .cons _ ?_ | refine List.sublist_append_of_sublist_right ?_)⟩

theorem Tiles_ok (parts : Int) (x : Value) (ps : List Pr) (w : World) (hx : RdS prC w x ps) (hok : ∀ p ∈ ps, p.ok w) (hl : ps.length ≤ 1954687338211) (hp : inK .i64 parts) : Calls Try.prog 26 [.agg [.int .i64 parts, x].toArray].toArray w (Rt fun r w' => ∃ v rs, r = v ∧ SlS tiC 3 47 v (tilesF parts (ps.map Pr.p)) rs ∧ Mem w [] w' [rs]) := by
  by_cases h : (encT parts (ps.map Pr.p)).2 = 0
  · exact Tiles_yes parts x ps w hx hok hl hp h
  · exact Tiles_no parts x ps w hx hok hl hp h
