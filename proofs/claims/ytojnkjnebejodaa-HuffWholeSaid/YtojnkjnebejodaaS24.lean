/- HuffWhole: the law's walk. -/
import Derived.Test.YtojnkjnebejodaaS23
import Derived.Test.YtojnkjnebejodaaS19
namespace Go.Proofs.Ytojnkjnebejodaa.E
open Go
theorem krK_lens {cs : List Int} (hl : cs.length ≤ 256) (h0 : ∀ i, 0 ≤ cs.getD i 0) {lim : Nat} (h1 : 1 ≤ lim) (h15 : lim ≤ 15) (hk : (thF cs).length ≤ 2 ^ lim) : krK (lensF cs lim) 15 (lensF cs lim).length = if 2 ≤ (thF cs).length then 32768 else (thF cs).length * 16384 := by
  rw [krK_used, ← kr_used (lens_inB h1 h15), lens_len]
  by_cases c : 2 ≤ (thF cs).length
  · rw [if_pos c, lens_kr hl h0 h1 h15 hk c]
  · rw [if_neg c]
    by_cases d : (thF cs).length = 1
    · rw [lens_kr1 d, d]
    · rw [lens_kr0 (by omega), show (thF cs).length = 0 by omega]
theorem mem_tot {cs : List Int} {i : Nat} : ∀ {l : List Th}, Ones cs l → 0 < tot i l → one (cs.getD i 0) i ∈ l
  | [], _, h => by simp [tot] at h
  | x :: l, h, ht => by
    obtain ⟨k, rfl, _, _⟩ := h x List.mem_cons_self
    rw [tot_cons] at ht
    have hf : (one (cs.getD k 0) k).f i = if i = k then 1 else 0 := rfl
    rw [hf] at ht
    by_cases c : i = k
    · subst c; exact List.mem_cons_self
    · rw [if_neg c] at ht
      exact List.mem_cons_of_mem _ (mem_tot (fun t ht => h t (List.mem_cons_of_mem _ ht)) (by omega))
theorem fs_mono {cs : List Int} (hl : cs.length ≤ 256) {i k : Nat} (hk : k < cs.length) (h1 : cs.getD k 0 < cs.getD i 0) (h2 : 0 < cs.getD k 0) (s : Nat) : tot i ((thF cs).take s) ≤ tot k ((thF cs).take s) := by
  have hi1 := fs_tot_le (cs := cs) i s
  rcases Nat.lt_or_ge (tot k ((thF cs).take s)) 1 with c | c
  · rcases Nat.lt_or_ge 0 (tot i ((thF cs).take s)) with d | d
    · exfalso
      have hall := tot_append k ((thF cs).take s) ((thF cs).drop s)
      rw [List.take_append_drop, thF_tot, if_pos ⟨hk, h2⟩] at hall
      have m1 := mem_tot ((thF_ones cs).take s) d
      have m2 := mem_tot (cs := cs) (i := k) (l := (thF cs).drop s) (fun t ht => thF_ones cs t (List.mem_of_mem_drop ht)) (by omega)
      have hs := thF_srtW hl
      rw [← List.take_append_drop s (thF cs)] at hs
      have := (List.pairwise_append.1 hs).2.2 _ m1 _ m2
      have e1 : (one (cs.getD i 0) i).w = cs.getD i 0 := rfl
      have e2 : (one (cs.getD k 0) k).w = cs.getD k 0 := rfl
      omega
    · omega
  · omega
theorem dF_mono {cs : List Int} (hl : cs.length ≤ 256) (h0 : ∀ i, 0 ≤ cs.getD i 0) {i k : Nat} (hk : k < cs.length) (h1 : cs.getD k 0 < cs.getD i 0) (h2 : 0 < cs.getD k 0) : ∀ j m, m ≤ (rowF (thF cs) j).length → tot i ((rowF (thF cs) j).take m) ≤ tot k ((rowF (thF cs) j).take m)
  | 0, m, _ => by rw [rowF]; exact fs_mono hl hk h1 h2 m
  | j + 1, m, hm => by
    obtain ⟨s, p, _, _, h5, h6, _⟩ := row_split hl h0 hm
    have a := fs_mono hl hk h1 h2 s
    have b := dF_mono hl h0 hk h1 h2 j (2 * p) h5
    rw [h6, h6]; omega
theorem lens_mono {cs : List Int} (hl : cs.length ≤ 256) (h0 : ∀ i, 0 ≤ cs.getD i 0) {lim : Nat} (h1 : 1 ≤ lim) (hk2 : (thF cs).length ≤ 2 ^ lim) {i k : Nat} (hi : i < cs.length) (hk : k < cs.length) (h3 : cs.getD k 0 < cs.getD i 0) (h4 : 0 < cs.getD k 0) : dF cs lim i ≤ dF cs lim k := by
  unfold dF takeF
  have h5 : 1 ≤ (thF cs).length := by
    have hs := sumU_ge (g := fun i => if 0 < cs.getD i 0 then 1 else 0) hk
    rw [thF_count] at hs
    rw [if_pos h4] at hs; omega
  exact dF_mono hl h0 hk h3 h4 (lim - 1) _ (rowT_len h1 (by omega) (by omega))
/-- a greater limit costs no more -/
theorem cost_more {cs : List Int} (hl : cs.length ≤ 256) (h0 : ∀ i, 0 ≤ cs.getD i 0) {lim : Nat} (h1 : 1 ≤ lim) (h15 : lim ≤ 15) (hk : (thF cs).length ≤ 2 ^ lim) : dot cs (lensF cs 15) ≤ dot cs (lensF cs lim) := by
  have e : ∀ q, dot cs (lensF cs q) = sumN cs.length fun i => cs.getD i 0 * (dF cs q i : Nat) := fun q => by
    have e := dot_sumN cs.length cs (lensF cs q) (Nat.le_refl _) (by rw [lens_len]; exact Nat.le_refl _)
    have hll := lens_len cs q
    rw [List.take_length, ← hll, List.take_length, hll] at e
    rw [e]
    exact sumN_congr fun i hi => by rw [lens_get hi]
  rw [e, e]
  have hkr := (lens_codes hl h0 h1 h15 hk).1
  rw [← kr_used (lens_inB h1 h15), kr_sum, lens_len] at hkr
  refine least_lens hl h0 (by omega) (Nat.le_trans hk (Nat.pow_le_pow_right (show 0 < 2 by omega) h15)) _ (fun i => Nat.le_trans (dF_le h1 i) h15) (fun i hi hc => dF_all hl h0 h1 hk hi hc) (fun i hi => dF_absent hi) ?_
  refine Nat.le_trans (Nat.le_of_eq (sumU_congr fun i hi => ?_)) hkr
  rw [lens_get hi]
  by_cases c : 0 < cs.getD i 0
  · have := dF_all hl h0 h1 hk hi c
    rw [if_pos c, if_pos (by omega), Int.toNat_natCast]; rfl
  · rw [if_neg c, dF_absent (fun k => c k.2), if_neg (by omega)]
/-! all counts doubled -/
def dblF (cs : List Int) : List Int := mapR cs.length fun s => 2 * cs.getD s 0
@[simp] theorem dbl_len (cs : List Int) : (dblF cs).length = cs.length := mapR_len _ _
theorem dbl_get (cs : List Int) (i : Nat) : (dblF cs).getD i 0 = 2 * cs.getD i 0 := by
  rcases Nat.lt_or_ge i cs.length with h | h
  · unfold dblF; rw [mapR_get h]
  · rw [List.getD_eq_getElem?_getD, List.getElem?_eq_none (by rw [dbl_len]; exact h), List.getD_eq_getElem?_getD, List.getElem?_eq_none h]; rfl
def dblT (t : Th) : Th := ⟨2 * t.w, t.f, t.r + 256 * t.w⟩
theorem dbl_one (c : Int) (i : Nat) : dblT (one c i) = one (2 * c) i := by
  unfold dblT one
  dsimp only
  congr 1; omega
theorem thsA_dbl (cs : List Int) : ∀ j, thsA (dblF cs) j = (thsA cs j).map dblT
  | 0 => rfl
  | j + 1 => by
    rw [thsA, thsA, thsA_dbl cs j, dbl_len, dbl_get, List.map_append]
    by_cases c : 0 < cs.getD (cs.length - 1 - j) 0
    · rw [if_pos c, if_pos (by omega), List.map_cons, List.map_nil, dbl_one]
    · rw [if_neg c, if_neg (by omega)]; rfl
theorem thF_dbl {cs : List Int} (hl : cs.length ≤ 256) : (thF cs).map dblT = thF (dblF cs) := by
  refine thF_eq (by rw [dbl_len]; exact hl) ?_ ?_
  · rw [dbl_len, thsA_dbl]; exact (thF_perm cs).map _
  · refine List.pairwise_map.2 (List.Pairwise.imp_of_mem (fun {a b} ha hb hab => ?_) (thF_srt hl))
    obtain ⟨i, rfl, hi, _⟩ := thF_ones cs a ha
    obtain ⟨k, rfl, hk, _⟩ := thF_ones cs b hb
    rw [dbl_one, dbl_one]
    unfold one at hab ⊢
    dsimp only at hab ⊢
    omega
/-- alike but for weights, which are doubled -/
inductive RelL : List Th → List Th → Prop
  | nil : RelL [] []
  | cons {a b : Th} {l m : List Th} (h1 : b.w = 2 * a.w) (h2 : b.f = a.f) (h : RelL l m) : RelL (a :: l) (b :: m)
theorem rel_merge (n : Nat) : ∀ {fs fs' ps ps' : List Th}, fs.length + ps.length ≤ n → RelL fs fs' → RelL ps ps' → RelL (mergeL fs ps) (mergeL fs' ps') := by
  induction n with
  | zero =>
    intro fs fs' ps ps' hn h1 h2
    cases h1 with
    | nil => rw [mergeL_nilL, mergeL_nilL]; exact h2
    | cons e1 e2 r1 => simp at hn
  | succ n ih =>
    intro fs fs' ps ps' hn h1 h2
    cases h1 with
    | nil => rw [mergeL_nilL, mergeL_nilL]; exact h2
    | @cons a b l m e1 e2 r1 =>
      cases h2 with
      | nil => rw [mergeL_nilR, mergeL_nilR]; exact .cons e1 e2 r1
      | @cons c d l2 m2 g1 g2 r2 =>
        simp only [List.length_cons] at hn
        by_cases k : a.w ≤ c.w
        · rw [mergeL_le k, mergeL_le (by omega)]
          exact .cons e1 e2 (ih (by simp only [List.length_cons]; omega) r1 (.cons g1 g2 r2))
        · rw [mergeL_gt k, mergeL_gt (by omega)]
          exact .cons g1 g2 (ih (by simp only [List.length_cons]; omega) (.cons e1 e2 r1) r2)
theorem rel_pairs : ∀ {l m : List Th}, RelL l m → RelL (pairsL l) (pairsL m)
  | _, _, .nil => .nil
  | _, _, .cons _ _ .nil => .nil
  | _, _, .cons e1 e2 (.cons g1 g2 h) => .cons (by show _ + _ = 2 * (_ + _); omega) (by show (fun k => _ + _) = fun k => _ + _; rw [e2, g2]) (rel_pairs h)
theorem rel_map : ∀ l : List Th, RelL l (l.map dblT)
  | [] => .nil
  | _ :: l => .cons rfl rfl (rel_map l)
theorem rel_row {fs fs' : List Th} (h : RelL fs fs') : ∀ j, RelL (rowF fs j) (rowF fs' j)
  | 0 => h
  | j + 1 => rel_merge _ (Nat.le_refl _) h (rel_pairs (rel_row h j))
theorem rel_tot (k : Nat) : ∀ (m : Nat) {l l' : List Th}, RelL l l' → tot k (l'.take m) = tot k (l.take m)
  | 0, _, _, _ => by simp [tot]
  | _ + 1, _, _, .nil => by simp [tot]
  | m + 1, _, _, .cons _ e2 h => by rw [List.take_succ_cons, List.take_succ_cons, tot_cons, tot_cons, rel_tot k m h, e2]
theorem lens_dbl {cs : List Int} (hl : cs.length ≤ 256) (lim : Nat) : lensF (dblF cs) lim = lensF cs lim ∧ (thF (dblF cs)).length = (thF cs).length := by
  have e := thF_dbl hl
  have e2 : (thF (dblF cs)).length = (thF cs).length := by rw [← e, List.length_map]
  refine ⟨?_, e2⟩
  unfold lensF takeF
  rw [dbl_len, e2]
  refine mapR_ext fun s _ => ?_
  have hr := rel_row (rel_map (thF cs)) (lim - 1)
  rw [e] at hr
  rw [rel_tot s _ hr]
theorem dot_dbl : ∀ (n : Nat) (cs ls : List Int), n ≤ cs.length → n ≤ ls.length → sumN n (fun i => (dblF cs).getD i 0 * ls.getD i 0) = 2 * sumN n fun i => cs.getD i 0 * ls.getD i 0
  | 0, _, _, _, _ => rfl
  | n + 1, cs, ls, h1, h2 => by
    rw [sumN, sumN, dot_dbl n cs ls (by omega) (by omega), dbl_get, Int.mul_add, Int.mul_assoc]
theorem cost_dbl {cs ls : List Int} (h : ls.length = cs.length) : dot (dblF cs) ls = 2 * dot cs ls := by
  have e1 := dot_sumN cs.length (dblF cs) ls (by rw [dbl_len]; exact Nat.le_refl _) (by omega)
  have e2 := dot_sumN cs.length cs ls (Nat.le_refl _) (by omega)
  rw [List.take_of_length_le (by rw [dbl_len]; exact Nat.le_refl _), List.take_of_length_le (by omega)] at e1
  rw [List.take_length, List.take_of_length_le (by omega)] at e2
  rw [e1, e2, dot_dbl _ _ _ (Nat.le_refl _) (by omega)]
theorem dblR_set {cs : List Int} {i : Nat} : (mapR cs.length fun s => if s < i then 2 * cs.getD s 0 else 0).set i (2 * cs.getD i 0) = mapR cs.length fun s => if s < i + 1 then 2 * cs.getD s 0 else 0 := by
  rw [mapR_set]
  refine mapR_ext fun s _ => ?_
  by_cases c : s = i
  · subst c; rw [if_pos rfl, if_pos (by omega)]
  · rw [if_neg c]
    by_cases d : s < i
    · rw [if_pos d, if_pos (by omega)]
    · rw [if_neg d, if_neg (by omega)]
theorem dblR_end {cs : List Int} {i : Nat} (h : cs.length ≤ i) : (mapR cs.length fun s => if s < i then 2 * cs.getD s 0 else 0) = dblF cs := mapR_ext fun s hs => by rw [if_pos (by omega)]
theorem shl14 {k : Nat} (h : k ≤ 256) : Value.int .i64 (IntKind.i64.wrap ((k : Int) * 2 ^ min (14 : Int).toNat IntKind.i64.bits)) = .int .i64 ((k * 16384 : Nat) : Int) :=
  v_int (shlI_nat (k := .i64) (a := k) (n := 14) (by simp only [IntKind.bits]; omega) (by simp only [inK]; omega))
theorem sumN_bd {g : Nat → Int} {B : Int} : ∀ {n : Nat}, (∀ i, i < n → 0 ≤ g i ∧ g i ≤ B) → 0 ≤ sumN n g ∧ sumN n g ≤ n * B
  | 0, _ => by simp [sumN]
  | n + 1, h => by
    have h1 := sumN_bd (n := n) fun i hi => h i (by omega)
    have h2 := h n (by omega)
    have e : ((n + 1 : Nat) : Int) * B = n * B + B := by rw [Int.natCast_add, Int.add_mul]; simp
    rw [sumN, e]; omega
theorem dot_bd {cs ls : List Int} (h1 : inB 0 1099511627776 cs = true) (h2 : inB 0 15 ls = true) (he : ls.length = cs.length) (hl : cs.length ≤ 256) : 0 ≤ dot cs ls ∧ dot cs ls ≤ 4222124650659840 := by
  have e2 := dot_sumN cs.length cs ls (Nat.le_refl _) (by omega)
  rw [List.take_length, List.take_of_length_le (by omega)] at e2
  have hb := sumN_bd (n := cs.length) (g := fun i => cs.getD i 0 * ls.getD i 0) (B := 16492674416640) fun i hi => mul_bd (inB_iff.1 h1 i hi) (inB_iff.1 h2 i (by omega))
  rw [e2]; omega

set_option maxHeartbeats 1000000 in
set_option maxRecDepth 100000 in
/-- winnowlaw4.HuffWhole -/
theorem HuffWhole_ok (x : Value) (cs : List Int) (lim : Int) (hk : inK .i64 lim) (w : World) (hx : RdE i64V w x cs) (_ : ∀ c ∈ cs, inK .i64 c) (hl : cs.length * 8 ≤ 140737488351232) : Calls Try.prog 11 [x, .int .i64 lim].toArray w (Rt fun r w' => r = .bool true ∧ Upd [] w w') := by
  have hM0 : Mem w [] w [] := Mem.nil w []
  simp only [inK] at hk
  refine calls_vc mixed Try.func11 rfl C11 (by simp [Try.ntmps11]) ?_
  refine seq fun K1 h1 => ?_
  refine stp (v := .bool false) (o_mv rfl) ?_
  refine h1 _ _ ?_
  clear h1
  refine seq fun K2 h2 => ?_
  refine stp (v := x) (o_mv rfl) ?_
  refine m_call (bent_ok _ cs w (hx.upd hM0.upd) (by omega)) rfl fun v3 w3 ⟨rs3, hs3, hm3⟩ => ?_
  have hM3 : Mem w [] w3 [rs3] := hM0.add hm3
  have hbl := bent_len cs
  have hb0 : ∀ i, 0 ≤ (bentF cs).getD i 0 := fun i => (bent_bd cs i).1
  refine stp (v := v3) (o_mv rfl) ?_
  refine h2 _ _ ?_
  clear h2
  refine seq fun K4 h4 => ?_
  refine stp (v := v3) (o_mv rfl) ?_
  refine m_call (used_ok _ (bentF cs) w3 (hs3.rd hM3 (i := 0) rfl) (by omega)) rfl fun v5 w5 ⟨hr5, hu5⟩ => ?_
  have hM5 : Mem w [] w5 [rs3] := hM3.pure hu5
  rw [used_eq] at hr5
  subst hr5
  have hfl := thF_len (bentF cs)
  refine stp (v := .int .i64 ((thF (bentF cs)).length : Nat)) (o_mv rfl) ?_
  refine h4 _ _ ?_
  clear h4
  refine seq fun K6 h6 => ?_
  refine stp (v := .int .i64 lim) (o_mv rfl) ?_
  refine stp (v := .int .i64 ((thF (bentF cs)).length : Nat)) (o_mv rfl) ?_
  refine m_call (limited_ok lim ((thF (bentF cs)).length) w5 (by simp only [inK]; omega) (by omega)) rfl fun v7 w7 ⟨L, hr7, hL, hu7⟩ => ?_
  have hM7 : Mem w [] w7 [rs3] := hM5.pure hu7
  subst hr7
  have hinB : inB 0 1099511627776 (bentF cs) = true := inB_iff.2 fun i _ => (by have := bent_bd cs i; omega)
  have hlen : lenF (bentF cs) (L : Nat) = ((lensF (bentF cs) L), 0) := lenF_ok (by omega) ⟨hinB, by omega, by omega⟩ (by rw [Int.toNat_natCast]; omega)
  have hlb := lens_inB (cs := (bentF cs)) (lim := L) (by omega) (by omega)
  have hll := lens_len (bentF cs) L
  have hcost : cost (bentF cs) (lensF (bentF cs) L) = (dot (bentF cs) (lensF (bentF cs) L), 0) := cost_ok (by omega) hinB hlb
  refine stp (v := .int .i64 (L : Nat)) (o_mv rfl) ?_
  refine h6 _ _ ?_
  clear h6
  refine seq fun K8 h8 => ?_
  have hk15 : (thF (bentF cs)).length ≤ 2 ^ 15 := by omega
  have hlen15 : lenF (bentF cs) 15 = ((lensF (bentF cs) 15), 0) := lenF_ok (by omega) ⟨hinB, by omega, by omega⟩ (by have e : (15 : Int).toNat = 15 := rfl; rw [e]; omega)
  have hll15 := lens_len (bentF cs) 15
  have hcost15 : cost (bentF cs) (lensF (bentF cs) 15) = (dot (bentF cs) (lensF (bentF cs) 15), 0) := cost_ok (by omega) hinB (lens_inB (by omega) (by omega))
  have hdbl := lens_dbl (cs := (bentF cs)) (by omega) L
  have hinD : inB 0 1099511627776 (dblF (bentF cs)) = true := inB_iff.2 fun i _ => (by have := bent_bd cs i; rw [dbl_get]; omega)
  have hdl := dbl_len (bentF cs)
  have hlenD : lenF (dblF (bentF cs)) (L : Nat) = ((lensF (bentF cs) L), 0) := by
    have e := lenF_ok (cs := (dblF (bentF cs))) (lim := (L : Nat)) (by omega) ⟨hinD, by omega, by omega⟩ (by rw [Int.toNat_natCast, hdbl.2]; omega)
    rw [Int.toNat_natCast, hdbl.1] at e
    exact e
  have hcostD : cost (dblF (bentF cs)) (lensF (bentF cs) L) = (2 * dot (bentF cs) (lensF (bentF cs) L), 0) := by rw [← cost_dbl hll]; exact cost_ok (by omega) hinD hlb
  have hmore := cost_more (cs := (bentF cs)) (by omega) hb0 (lim := L) (by omega) (by omega) (by omega)
  have hkv := krK_lens (cs := (bentF cs)) (by omega) hb0 (lim := L) (by omega) (by omega) (by omega)
  have hdot := dot_bd (cs := (bentF cs)) (ls := (lensF (bentF cs) L)) hinB hlb hll (by omega)
  refine stp (v := v3) (o_mv rfl) ?_
  refine stp (v := .int .i64 (L : Nat)) (o_mv rfl) ?_
  refine m_call (Lengths_ok _ (bentF cs) (L : Nat) w7 (hs3.rd hM7 (i := 0) rfl) (by omega) (by simp only [inK]; omega)) rfl fun v9 w9 ⟨y9, rs9, hr9, hs9, hm9⟩ => ?_
  have hM9 : Mem w [] w9 [rs3, rs9] := hM7.add hm9
  rw [hlen] at hr9 hs9
  dsimp only at hr9 hs9
  subst hr9
  refine stp (v := .tuple [y9, .int .i64 0].toArray) (o_mv rfl) ?_
  refine stp (v := y9) (o_ext rfl rfl) ?_
  refine stp (v := .int .i64 0) (o_ext rfl rfl) ?_
  refine stp (v := y9) (o_mv rfl) ?_
  refine stp (v := .int .i64 0) (o_mv rfl) ?_
  refine h8 _ _ ?_
  clear h8
  refine seq fun K10 h10 => ?_
  refine seq fun K11 h11 => ?_
  refine stp (v := .int .i64 0) (o_mv rfl) ?_
  refine stp (v := .bool false) (o_bin rfl rfl v_neF) ?_
  refine stp (v := .bool false) (o_mv rfl) ?_
  refine splitF rfl ?_
  refine stg rfl (v := y9) (o_mv rfl) ?_
  refine stg rfl (v := .int .i64 ((lensF (bentF cs) L).length : Nat)) (o_lenR (hs9.rd hM9 (i := 1) rfl) rfl rfl) ?_
  refine stg rfl (v := v3) (o_mv rfl) ?_
  refine stg rfl (v := .int .i64 ((bentF cs).length : Nat)) (o_lenR (hs3.rd hM9 (i := 0) rfl) rfl rfl) ?_
  refine stg rfl (v := .bool (decide (¬ (((lensF (bentF cs) L).length : Nat) : Int) = ((bentF cs).length : Nat)))) (o_bin rfl rfl v_neq) ?_
  refine stp (v := .bool (decide (¬ (((lensF (bentF cs) L).length : Nat) : Int) = ((bentF cs).length : Nat)))) (o_pickF rfl rfl) ?_
  refine h11 _ _ ?_
  clear h11
  refine cndP rfl (fun c12 => absurd c12 (by omega)) (fun c12 => ?_)
  refine h10 _ _ ?_
  clear h10
  refine seq fun K13 h13 => ?_
  refine stp (v := y9) (o_mv rfl) ?_
  refine m_call (kraftL_ok _ (lensF (bentF cs) L) w9 (hs9.rd hM9 (i := 1) rfl) (by omega)) rfl fun v14 w14 ⟨hr14, hu14⟩ => ?_
  have hM14 : Mem w [] w14 [rs3, rs9] := hM9.pure hu14
  subst hr14
  refine stp (v := .bool (decide (((krK (lensF (bentF cs) L) 15 (lensF (bentF cs) L).length : Nat) : Int) = 32768))) (o_bin rfl rfl rfl) ?_
  refine stp (v := .bool (decide (((krK (lensF (bentF cs) L) 15 (lensF (bentF cs) L).length : Nat) : Int) = 32768))) (o_mv rfl) ?_
  refine h13 _ _ ?_
  clear h13
  refine seq fun K15 h15 => ?_
  refine seq fun K16 h16 => ?_
  refine stp (v := .int .i64 ((thF (bentF cs)).length : Nat)) (o_mv rfl) ?_
  refine stp (v := .bool (decide ((((thF (bentF cs)).length : Nat) : Int) < 2))) (o_bin rfl rfl rfl) ?_
  refine h16 _ _ ?_
  clear h16
  refine cndP rfl (fun c17 => ?_) (fun c17 => ?_)
  ·
    refine stp (v := y9) (o_mv rfl) ?_
    refine m_call (kraftL_ok _ (lensF (bentF cs) L) w14 (hs9.rd hM14 (i := 1) rfl) (by omega)) rfl fun v18 w18 ⟨hr18, hu18⟩ => ?_
    have hM18 : Mem w [] w18 [rs3, rs9] := hM14.pure hu18
    subst hr18
    refine stp (v := .int .i64 ((thF (bentF cs)).length : Nat)) (o_mv rfl) ?_
    refine stp (v := .int .i64 ((thF (bentF cs)).length * 16384 : Nat)) (o_shl rfl rfl (by omega) (shl14 (by omega))) ?_
    refine stp (v := .bool (decide (((krK (lensF (bentF cs) L) 15 (lensF (bentF cs) L).length : Nat) : Int) = ((thF (bentF cs)).length * 16384 : Nat)))) (o_bin rfl rfl rfl) ?_
    refine stp (v := .bool (decide (((krK (lensF (bentF cs) L) 15 (lensF (bentF cs) L).length : Nat) : Int) = ((thF (bentF cs)).length * 16384 : Nat)))) (o_mv rfl) ?_
    refine h15 _ _ ?_
    clear h15
    refine seq fun K19 h19 => ?_
    refine seq fun K20 h20 => ?_
    refine stp (v := .int .i64 0) (o_mv rfl) ?_
    refine h20 _ _ ?_
    clear h20
    refine lp (n := fun _ _ => False) (ι := (Nat)) (fun i f w' => f 11 = .int .i64 (i : Nat) ∧ f 5 = v3 ∧ f 7 = .int .i64 (L : Nat) ∧ f 8 = y9 ∧ f 10 = .bool (decide (((krK (lensF (bentF cs) L) 15 (lensF (bentF cs) L).length : Nat) : Int) = ((thF (bentF cs)).length * 16384 : Nat))) ∧ Mem w [] w' [rs3, rs9] ∧ (i ≤ (bentF cs).length)) (fun i => (bentF cs).length - i) (0) ?_ ?_
    · exact ⟨by first | rfl | exact v_int (by omega) | exact v_int (by simp) | exact v_int (by simp; omega), rfl, by first | rfl | exact v_int (by omega) | exact v_int (by simp) | exact v_int (by simp; omega), rfl, by first | rfl | simp [upd], hM18, by omega⟩
    · rintro i f w21 ⟨e21_11, e21_5, e21_7, e21_8, e21_10, hM21, hi⟩ K22 h22
      obtain ⟨frm, rfl⟩ : ∃ frm, f = (upd (upd (upd (upd (upd frm 11 (.int .i64 (i : Nat))) 5 (v3)) 7 (.int .i64 (L : Nat))) 8 (y9)) 10 (.bool (decide (((krK (lensF (bentF cs) L) 15 (lensF (bentF cs) L).length : Nat) : Int) = ((thF (bentF cs)).length * 16384 : Nat))))) := ⟨f, by rw [upd_self e21_11, upd_self e21_5, upd_self e21_7, upd_self e21_8, upd_self e21_10]⟩
      clear e21_11 e21_5 e21_7 e21_8 e21_10
      refine seq fun K23 h23 => ?_
      refine seq fun K24 h24 => ?_
      refine stp (v := .int .i64 (i : Nat)) (o_mv rfl) ?_
      refine stp (v := v3) (o_mv rfl) ?_
      refine stp (v := .int .i64 ((bentF cs).length : Nat)) (o_lenR (hs3.rd hM21 (i := 0) rfl) rfl rfl) ?_
      refine stp (v := .bool (decide (((i : Nat) : Int) < ((bentF cs).length : Nat)))) (o_bin rfl rfl rfl) ?_
      refine h24 _ _ ?_
      clear h24
      refine cndP rfl (fun c25 => ?_) (fun c25 => ?_)
      ·
        refine h23 _ _ ?_
        clear h23
        refine seq fun K26 h26 => ?_
        refine seq fun K27 h27 => ?_
        refine stp (v := .int .i64 0) (o_mv rfl) ?_
        refine h27 _ _ ?_
        clear h27
        refine lp (n := fun _ _ => False) (ι := (Nat)) (fun k f w' => f 12 = .int .i64 (k : Nat) ∧ f 5 = v3 ∧ f 7 = .int .i64 (L : Nat) ∧ f 8 = y9 ∧ f 10 = .bool (decide (((krK (lensF (bentF cs) L) 15 (lensF (bentF cs) L).length : Nat) : Int) = ((thF (bentF cs)).length * 16384 : Nat))) ∧ f 11 = .int .i64 (i : Nat) ∧ Mem w [] w' [rs3, rs9] ∧ (k ≤ (bentF cs).length)) (fun k => (bentF cs).length - k) (0) ?_ ?_
        · exact ⟨by first | rfl | exact v_int (by omega) | exact v_int (by simp) | exact v_int (by simp; omega), rfl, by first | rfl | exact v_int (by omega) | exact v_int (by simp) | exact v_int (by simp; omega), rfl, by first | rfl | simp [upd], by first | rfl | exact v_int (by omega) | exact v_int (by simp) | exact v_int (by simp; omega), hM21, by omega⟩
        · rintro k f w28 ⟨e28_12, e28_5, e28_7, e28_8, e28_10, e28_11, hM28, hkk⟩ K29 h29
          obtain ⟨frm, rfl⟩ : ∃ frm, f = (upd (upd (upd (upd (upd (upd frm 12 (.int .i64 (k : Nat))) 5 (v3)) 7 (.int .i64 (L : Nat))) 8 (y9)) 10 (.bool (decide (((krK (lensF (bentF cs) L) 15 (lensF (bentF cs) L).length : Nat) : Int) = ((thF (bentF cs)).length * 16384 : Nat))))) 11 (.int .i64 (i : Nat))) := ⟨f, by rw [upd_self e28_12, upd_self e28_5, upd_self e28_7, upd_self e28_8, upd_self e28_10, upd_self e28_11]⟩
          clear e28_12 e28_5 e28_7 e28_8 e28_10 e28_11
          refine seq fun K30 h30 => ?_
          refine seq fun K31 h31 => ?_
          refine stp (v := .int .i64 (k : Nat)) (o_mv rfl) ?_
          refine stp (v := v3) (o_mv rfl) ?_
          refine stp (v := .int .i64 ((bentF cs).length : Nat)) (o_lenR (hs3.rd hM28 (i := 0) rfl) rfl rfl) ?_
          refine stp (v := .bool (decide (((k : Nat) : Int) < ((bentF cs).length : Nat)))) (o_bin rfl rfl rfl) ?_
          refine h31 _ _ ?_
          clear h31
          refine cndP rfl (fun c32 => ?_) (fun c32 => ?_)
          ·
            refine h30 _ _ ?_
            clear h30
            refine seq fun K33 h33 => ?_
            refine seq fun K34 h34 => ?_
            intro wd e1 e2 e3 e4
            have hd := Upd.same e1 e2 e3 e4 []
            have hM35 := hM28.pure hd
            clear e1 e2 e3 e4
            refine ⟨none, ?_⟩
            show vd _ _ _ _ _ _ _
            refine dq (v := v3) (o_mv rfl) ?_
            refine dq (v := .int .i64 (i : Nat)) (o_mv rfl) ?_
            refine dqp (m_idxE 0 (j := i) (hs3.rd hM35 (i := 0) rfl) rfl rfl (by omega) fun b36 o36 hp36 => ?_)
            show vd _ _ _ _ _ _ _
            refine dq (v := v3) (o_mv rfl) ?_
            refine dq (v := .int .i64 (k : Nat)) (o_mv rfl) ?_
            refine dqp (m_idxE 0 (j := k) (hs3.rd hM35 (i := 0) rfl) rfl rfl (by omega) fun b37 o37 hp37 => ?_)
            show vd _ _ _ _ _ _ _
            refine dqld rfl (trivial) (v := .int .i64 ((bentF cs).getD k 0)) (hp37) ?_
            refine dl (ld (v := .int .i64 ((bentF cs).getD i 0)) rfl (hp36) ?_)
            refine ⟨rfl, ?_⟩
            refine dq (v := .bool (decide (((bentF cs).getD k 0) < ((bentF cs).getD i 0)))) (o_bin rfl rfl rfl) ?_
            refine dq (v := .bool (decide (((bentF cs).getD k 0) < ((bentF cs).getD i 0)))) (o_mv rfl) ?_
            refine dsplitP rfl (fun c38 => ?_) (fun c38 => ?_)
            ·
              refine dqg rfl (v := v3) (o_mv rfl) ?_
              refine dqg rfl (v := .int .i64 (k : Nat)) (o_mv rfl) ?_
              refine dgyes rfl rfl (dqp (m_idxE 0 (j := k) (hs3.rd hM35 (i := 0) rfl) rfl rfl (by omega) fun b39 o39 hp39 => ?_))
              show vd _ _ _ _ _ _ _
              refine dgyesl rfl ?_
              refine dl (ld (v := .int .i64 ((bentF cs).getD k 0)) rfl (hp39) ?_)
              refine ⟨rfl, ?_⟩
              refine dqg rfl (v := .bool (decide ((0 : Int) < ((bentF cs).getD k 0)))) (o_bin rfl rfl rfl) ?_
              refine dq (v := .bool (decide ((0 : Int) < ((bentF cs).getD k 0)))) (o_pickT rfl rfl) ?_
              refine dq (v := .bool (decide ((0 : Int) < ((bentF cs).getD k 0)))) (o_mv rfl) ?_
              refine dsplitP rfl (fun c40 => ?_) (fun c40 => ?_)
              ·
                have hgi := lens_get (cs := (bentF cs)) (lim := L) (i := i) (by omega)
                have hgk := lens_get (cs := (bentF cs)) (lim := L) (i := k) (by omega)
                have hmn := lens_mono (cs := (bentF cs)) (by omega) hb0 (lim := L) (by omega) (by omega) (i := i) (k := k) (by omega) (by omega) (by omega) (by omega)
                refine dqg rfl (v := y9) (o_mv rfl) ?_
                refine dqg rfl (v := .int .i64 (i : Nat)) (o_mv rfl) ?_
                refine dgyes rfl rfl (dqp (m_idxE 0 (j := i) (hs9.rd hM35 (i := 1) rfl) rfl rfl (by omega) fun b41 o41 hp41 => ?_))
                show vd _ _ _ _ _ _ _
                refine dqg rfl (v := y9) (o_mv rfl) ?_
                refine dqg rfl (v := .int .i64 (k : Nat)) (o_mv rfl) ?_
                refine dgyes rfl rfl (dqp (m_idxE 0 (j := k) (hs9.rd hM35 (i := 1) rfl) rfl rfl (by omega) fun b42 o42 hp42 => ?_))
                show vd _ _ _ _ _ _ _
                refine dqgyes rfl rfl ?_
                refine dqld rfl (trivial) (v := .int .i64 ((lensF (bentF cs) L).getD k 0)) (hp42) ?_
                refine dgyesl rfl ?_
                refine dl (ld (v := .int .i64 ((lensF (bentF cs) L).getD i 0)) rfl (hp41) ?_)
                refine ⟨rfl, ?_⟩
                refine dqg rfl (v := .bool (decide (((lensF (bentF cs) L).getD k 0) < ((lensF (bentF cs) L).getD i 0)))) (o_bin rfl rfl rfl) ?_
                refine dq (v := .bool (decide (((lensF (bentF cs) L).getD k 0) < ((lensF (bentF cs) L).getD i 0)))) (o_pickT rfl rfl) ?_
                refine h34 _ _ ?_
                clear h34
                refine cndP rfl (fun c43 => absurd c43 (by omega)) (fun c43 => ?_)
                refine h33 _ _ ?_
                clear h33
                refine stp (v := .int .i64 (k : Nat)) (o_mv rfl) ?_
                refine stp (v := .int .i64 ((k : Nat) + 1)) (o_bin rfl rfl (v_add64 (by constructor <;> omega))) ?_
                refine stp (v := .int .i64 ((k : Nat) + 1)) (o_mv rfl) ?_
                refine h29 (k + 1) _ _ ⟨by first | rfl | exact v_int (by omega) | exact v_int (by simp) | exact v_int (by simp; omega), rfl, by first | rfl | exact v_int (by omega) | exact v_int (by simp) | exact v_int (by simp; omega), rfl, by first | rfl | simp [upd], by first | rfl | exact v_int (by omega) | exact v_int (by simp) | exact v_int (by simp; omega), hM35, by omega⟩ (by (try dsimp only); omega)
              ·
                refine dgno rfl (by simp) ?_
                refine dgno rfl (by simp) ?_
                refine dgno rfl (by simp) ?_
                refine dgno rfl (by simp) ?_
                refine dgno rfl (by simp) ?_
                refine dgno rfl (by simp) ?_
                refine dqgno rfl (by simp) ?_
                refine dgnol rfl (by simp) ?_
                refine dgno rfl (by simp) ?_
                refine dq (v := .bool false) (o_pickF rfl rfl) ?_
                refine h34 _ _ ?_
                clear h34
                refine cndF rfl ?_
                refine h33 _ _ ?_
                clear h33
                refine stp (v := .int .i64 (k : Nat)) (o_mv rfl) ?_
                refine stp (v := .int .i64 ((k : Nat) + 1)) (o_bin rfl rfl (v_add64 (by constructor <;> omega))) ?_
                refine stp (v := .int .i64 ((k : Nat) + 1)) (o_mv rfl) ?_
                refine h29 (k + 1) _ _ ⟨by first | rfl | exact v_int (by omega) | exact v_int (by simp) | exact v_int (by simp; omega), rfl, by first | rfl | exact v_int (by omega) | exact v_int (by simp) | exact v_int (by simp; omega), rfl, by first | rfl | simp [upd], by first | rfl | exact v_int (by omega) | exact v_int (by simp) | exact v_int (by simp; omega), hM35, by omega⟩ (by (try dsimp only); omega)
            ·
              refine dgno rfl (by simp) ?_
              refine dgno rfl (by simp) ?_
              refine dgno rfl (by simp) ?_
              refine dgnol rfl (by simp) ?_
              refine dgno rfl (by simp) ?_
              refine dq (v := .bool false) (o_pickF rfl rfl) ?_
              refine dq (v := .bool false) (o_mv rfl) ?_
              refine dsplitF rfl ?_
              refine dgno rfl (by simp) ?_
              refine dgno rfl (by simp) ?_
              refine dgno rfl (by simp) ?_
              refine dgno rfl (by simp) ?_
              refine dgno rfl (by simp) ?_
              refine dgno rfl (by simp) ?_
              refine dqgno rfl (by simp) ?_
              refine dgnol rfl (by simp) ?_
              refine dgno rfl (by simp) ?_
              refine dq (v := .bool false) (o_pickF rfl rfl) ?_
              refine h34 _ _ ?_
              clear h34
              refine cndF rfl ?_
              refine h33 _ _ ?_
              clear h33
              refine stp (v := .int .i64 (k : Nat)) (o_mv rfl) ?_
              refine stp (v := .int .i64 ((k : Nat) + 1)) (o_bin rfl rfl (v_add64 (by constructor <;> omega))) ?_
              refine stp (v := .int .i64 ((k : Nat) + 1)) (o_mv rfl) ?_
              refine h29 (k + 1) _ _ ⟨by first | rfl | exact v_int (by omega) | exact v_int (by simp) | exact v_int (by simp; omega), rfl, by first | rfl | exact v_int (by omega) | exact v_int (by simp) | exact v_int (by simp; omega), rfl, by first | rfl | simp [upd], by first | rfl | exact v_int (by omega) | exact v_int (by simp) | exact v_int (by simp; omega), hM35, by omega⟩ (by (try dsimp only); omega)
          ·
            refine h26 _ _ ?_
            clear h26
            refine stp (v := .int .i64 (i : Nat)) (o_mv rfl) ?_
            refine stp (v := .int .i64 ((i : Nat) + 1)) (o_bin rfl rfl (v_add64 (by constructor <;> omega))) ?_
            refine stp (v := .int .i64 ((i : Nat) + 1)) (o_mv rfl) ?_
            refine h22 (i + 1) _ _ ⟨by first | rfl | exact v_int (by omega) | exact v_int (by simp) | exact v_int (by simp; omega), rfl, by first | rfl | exact v_int (by omega) | exact v_int (by simp) | exact v_int (by simp; omega), rfl, by first | rfl | simp [upd], hM28, by omega⟩ (by (try dsimp only); omega)
      ·
        refine h19 _ _ ?_
        clear h19
        refine seq fun K44 h44 => ?_
        refine stp (v := v3) (o_mv rfl) ?_
        refine stp (v := y9) (o_mv rfl) ?_
        refine m_call (Cost_ok _ _ (bentF cs) (lensF (bentF cs) L) w21 (hs3.rd hM21 (i := 0) rfl) (hs9.rd hM21 (i := 1) rfl) (by omega) (by omega)) rfl fun v45 w45 ⟨hr45, hu45⟩ => ?_
        have hM45 : Mem w [] w45 [rs3, rs9] := hM21.pure hu45
        rw [hcost] at hr45
        subst hr45
        refine stp (v := .tuple [.int .i64 (dot (bentF cs) (lensF (bentF cs) L)), .int .i64 0].toArray) (o_mv rfl) ?_
        refine stp (v := .int .i64 (dot (bentF cs) (lensF (bentF cs) L))) (o_ext rfl rfl) ?_
        refine stp (v := .int .i64 0) (o_ext rfl rfl) ?_
        refine stp (v := .int .i64 (dot (bentF cs) (lensF (bentF cs) L))) (o_mv rfl) ?_
        refine stp (v := .int .i64 0) (o_mv rfl) ?_
        refine h44 _ _ ?_
        clear h44
        refine seq fun K46 h46 => ?_
        refine stp (v := v3) (o_mv rfl) ?_
        refine m_call (Lengths_ok _ (bentF cs) 15 w45 (hs3.rd hM45 (i := 0) rfl) (by omega) (by simp only [inK]; omega)) rfl fun v47 w47 ⟨y47, rs47, hr47, hs47, hm47⟩ => ?_
        have hM47 : Mem w [] w47 [rs3, rs9, rs47] := hM45.add hm47
        rw [hlen15] at hr47 hs47
        dsimp only at hr47 hs47
        subst hr47
        refine stp (v := .tuple [y47, .int .i64 0].toArray) (o_mv rfl) ?_
        refine stp (v := y47) (o_ext rfl rfl) ?_
        refine stp (v := .int .i64 0) (o_ext rfl rfl) ?_
        refine stp (v := y47) (o_mv rfl) ?_
        refine stp (v := .int .i64 0) (o_mv rfl) ?_
        refine h46 _ _ ?_
        clear h46
        refine seq fun K48 h48 => ?_
        refine stp (v := v3) (o_mv rfl) ?_
        refine stp (v := y47) (o_mv rfl) ?_
        refine m_call (Cost_ok _ _ (bentF cs) (lensF (bentF cs) 15) w47 (hs3.rd hM47 (i := 0) rfl) (hs47.rd hM47 (i := 2) rfl) (by omega) (by omega)) rfl fun v49 w49 ⟨hr49, hu49⟩ => ?_
        have hM49 : Mem w [] w49 [rs3, rs9, rs47] := hM47.pure hu49
        rw [hcost15] at hr49
        subst hr49
        refine stp (v := .tuple [.int .i64 (dot (bentF cs) (lensF (bentF cs) 15)), .int .i64 0].toArray) (o_mv rfl) ?_
        refine stp (v := .int .i64 (dot (bentF cs) (lensF (bentF cs) 15))) (o_ext rfl rfl) ?_
        refine stp (v := .int .i64 0) (o_ext rfl rfl) ?_
        refine stp (v := .int .i64 (dot (bentF cs) (lensF (bentF cs) 15))) (o_mv rfl) ?_
        refine stp (v := .int .i64 0) (o_mv rfl) ?_
        refine h48 _ _ ?_
        clear h48
        refine seq fun K50 h50 => ?_
        refine stp (v := v3) (o_mv rfl) ?_
        refine stp (v := .int .i64 ((bentF cs).length : Nat)) (o_lenR (hs3.rd hM49 (i := 0) rfl) rfl rfl) ?_
        refine m_mksE (E := i64V) (z := 0) (n := (bentF cs).length) (c := (bentF cs).length) rfl hM49 (v_int (by omega)) (v_int (by omega)) (by omega) (by omega) (by omega) fun v51 w51 r51 hs51 (hM51 : Mem w [] w51 [rs3, rs9, rs47, r51]) => ?_
        refine stp (v := v51) (o_mv rfl) ?_
        refine h50 _ _ ?_
        clear h50
        refine seq fun K52 h52 => ?_
        refine seq fun K53 h53 => ?_
        refine stp (v := .int .i64 0) (o_mv rfl) ?_
        refine h53 _ _ ?_
        clear h53
        refine lp (n := fun _ _ => False) (ι := (Nat) × (Value) × (List Ent)) (fun ⟨i, y19_, r19_⟩ f w' => f 20 = .int .i64 (i : Nat) ∧ f 19 = y19_ ∧ f 5 = v3 ∧ f 7 = .int .i64 (L : Nat) ∧ f 10 = .bool (decide (((krK (lensF (bentF cs) L) 15 (lensF (bentF cs) L).length : Nat) : Int) = ((thF (bentF cs)).length * 16384 : Nat))) ∧ f 13 = .int .i64 (dot (bentF cs) (lensF (bentF cs) L)) ∧ f 16 = .int .i64 0 ∧ f 17 = .int .i64 (dot (bentF cs) (lensF (bentF cs) 15)) ∧ Mem w [] w' [rs3, rs9, rs47, r19_] ∧ (i ≤ (bentF cs).length) ∧ ((mapR (bentF cs).length fun s => if s < i then 2 * (bentF cs).getD s 0 else 0).length = (bentF cs).length) ∧ (SlE i64V 2 y19_ ((mapR (bentF cs).length fun s => if s < i then 2 * (bentF cs).getD s 0 else 0)) r19_)) (fun ⟨i, y19_, r19_⟩ => (bentF cs).length - i) (0, v51, r51) ?_ ?_
        · exact ⟨by first | rfl | exact v_int (by omega) | exact v_int (by simp) | exact v_int (by simp; omega), rfl, rfl, by first | rfl | exact v_int (by omega) | exact v_int (by simp) | exact v_int (by simp; omega), by first | rfl | simp [upd], by first | rfl | exact v_int (by omega) | exact v_int (by simp) | exact v_int (by simp; omega), by first | rfl | exact v_int (by omega) | exact v_int (by simp) | exact v_int (by simp; omega), by first | rfl | exact v_int (by omega) | exact v_int (by simp) | exact v_int (by simp; omega), hM51, by omega, mapR_len _ _, by
          have h9 := hs51
          rw [mapR_rep] at h9
          exact h9.eqL (mapR_ext fun s _ => by rw [if_neg (by omega)])⟩
        · rintro ⟨i, y19_, r19_⟩ f w54 ⟨e54_20, e54_19, e54_5, e54_7, e54_10, e54_13, e54_16, e54_17, hM54, hi, hml, hy19_⟩ K55 h55
          obtain ⟨frm, rfl⟩ : ∃ frm, f = (upd (upd (upd (upd (upd (upd (upd (upd frm 20 (.int .i64 (i : Nat))) 19 (y19_)) 5 (v3)) 7 (.int .i64 (L : Nat))) 10 (.bool (decide (((krK (lensF (bentF cs) L) 15 (lensF (bentF cs) L).length : Nat) : Int) = ((thF (bentF cs)).length * 16384 : Nat))))) 13 (.int .i64 (dot (bentF cs) (lensF (bentF cs) L)))) 16 (.int .i64 0)) 17 (.int .i64 (dot (bentF cs) (lensF (bentF cs) 15)))) := ⟨f, by rw [upd_self e54_20, upd_self e54_19, upd_self e54_5, upd_self e54_7, upd_self e54_10, upd_self e54_13, upd_self e54_16, upd_self e54_17]⟩
          clear e54_20 e54_19 e54_5 e54_7 e54_10 e54_13 e54_16 e54_17
          refine seq fun K56 h56 => ?_
          refine seq fun K57 h57 => ?_
          refine stp (v := .int .i64 (i : Nat)) (o_mv rfl) ?_
          refine stp (v := v3) (o_mv rfl) ?_
          refine stp (v := .int .i64 ((bentF cs).length : Nat)) (o_lenR (hs3.rd hM54 (i := 0) rfl) rfl rfl) ?_
          refine stp (v := .bool (decide (((i : Nat) : Int) < ((bentF cs).length : Nat)))) (o_bin rfl rfl rfl) ?_
          refine h57 _ _ ?_
          clear h57
          refine cndP rfl (fun c58 => ?_) (fun c58 => ?_)
          ·
            refine h56 _ _ ?_
            clear h56
            refine seq fun K59 h59 => ?_
            refine stp (v := y19_) (o_mv rfl) ?_
            refine stp (v := .int .i64 (i : Nat)) (o_mv rfl) ?_
            refine stp (v := v3) (o_mv rfl) ?_
            refine stp (v := .int .i64 (i : Nat)) (o_mv rfl) ?_
            refine m_idxE 0 (j := i) (hs3.rd hM54 (i := 0) rfl) rfl rfl (by omega) fun b60 o60 hp60 => ?_
            refine ld (v := .int .i64 ((bentF cs).getD i 0)) rfl (hp60) ?_
            have hbi := bent_bd cs i
            refine stp (v := .int .i64 (2 * ((bentF cs).getD i 0))) (o_bin rfl rfl (v_mul64 (by constructor <;> omega))) ?_
            refine m_set (E := i64V) (q := 2 * ((bentF cs).getD i 0)) (j := i) hM54 (i := 3) rfl hy19_ rfl rfl (by omega) (by simp) (rfl) fun w61 r61 u61 he61 hs61 (hM61 : Mem w [] w61 [rs3, rs9, rs47, r61]) => ?_
            refine h59 _ _ ?_
            clear h59
            refine stp (v := .int .i64 (i : Nat)) (o_mv rfl) ?_
            refine stp (v := .int .i64 ((i : Nat) + 1)) (o_bin rfl rfl (v_add64 (by constructor <;> omega))) ?_
            refine stp (v := .int .i64 ((i : Nat) + 1)) (o_mv rfl) ?_
            refine h55 (i + 1, y19_, r61) _ _ ⟨by first | rfl | exact v_int (by omega) | exact v_int (by simp) | exact v_int (by simp; omega), rfl, rfl, by first | rfl | exact v_int (by omega) | exact v_int (by simp) | exact v_int (by simp; omega), by first | rfl | simp [upd], by first | rfl | exact v_int (by omega) | exact v_int (by simp) | exact v_int (by simp; omega), by first | rfl | exact v_int (by omega) | exact v_int (by simp) | exact v_int (by simp; omega), by first | rfl | exact v_int (by omega) | exact v_int (by simp) | exact v_int (by simp; omega), hM61, by omega, mapR_len _ _, by rw [← dblR_set]; exact hs61⟩ (by (try dsimp only); omega)
          ·
            refine h52 _ _ ?_
            clear h52
            refine seq fun K62 h62 => ?_
            have hsD := SlE.eqL (m := (dblF (bentF cs))) hy19_ (dblR_end (by omega))
            refine stp (v := y19_) (o_mv rfl) ?_
            refine stp (v := .int .i64 (L : Nat)) (o_mv rfl) ?_
            refine m_call (Lengths_ok _ (dblF (bentF cs)) (L : Nat) w54 (hsD.rd hM54 (i := 3) rfl) (by rw [dbl_len]; omega) (by simp only [inK]; omega)) rfl fun v63 w63 ⟨y63, rs63, hr63, hs63, hm63⟩ => ?_
            have hM63 : Mem w [] w63 [rs3, rs9, rs47, r19_, rs63] := hM54.add hm63
            rw [hlenD] at hr63 hs63
            dsimp only at hr63 hs63
            subst hr63
            refine stp (v := .tuple [y63, .int .i64 0].toArray) (o_mv rfl) ?_
            refine stp (v := y63) (o_ext rfl rfl) ?_
            refine stp (v := .int .i64 0) (o_ext rfl rfl) ?_
            refine stp (v := y63) (o_mv rfl) ?_
            refine stp (v := .int .i64 0) (o_mv rfl) ?_
            refine h62 _ _ ?_
            clear h62
            refine seq fun K64 h64 => ?_
            refine stp (v := y19_) (o_mv rfl) ?_
            refine stp (v := y63) (o_mv rfl) ?_
            refine m_call (Cost_ok _ _ (dblF (bentF cs)) (lensF (bentF cs) L) w63 (hsD.rd hM63 (i := 3) rfl) (hs63.rd hM63 (i := 4) rfl) (by rw [dbl_len]; omega) (by omega)) rfl fun v65 w65 ⟨hr65, hu65⟩ => ?_
            have hM65 : Mem w [] w65 [rs3, rs9, rs47, r19_, rs63] := hM63.pure hu65
            rw [hcostD] at hr65
            subst hr65
            refine stp (v := .tuple [.int .i64 (2 * dot (bentF cs) (lensF (bentF cs) L)), .int .i64 0].toArray) (o_mv rfl) ?_
            refine stp (v := .int .i64 (2 * dot (bentF cs) (lensF (bentF cs) L))) (o_ext rfl rfl) ?_
            refine stp (v := .int .i64 0) (o_ext rfl rfl) ?_
            refine stp (v := .int .i64 (2 * dot (bentF cs) (lensF (bentF cs) L))) (o_mv rfl) ?_
            refine stp (v := .int .i64 0) (o_mv rfl) ?_
            refine h64 _ _ ?_
            clear h64
            refine seq fun K66 h66 => ?_
            refine stp (v := .bool (decide (((krK (lensF (bentF cs) L) 15 (lensF (bentF cs) L).length : Nat) : Int) = ((thF (bentF cs)).length * 16384 : Nat)))) (o_mv rfl) ?_
            refine stp (v := .bool (decide (((krK (lensF (bentF cs) L) 15 (lensF (bentF cs) L).length : Nat) : Int) = ((thF (bentF cs)).length * 16384 : Nat)))) (o_mv rfl) ?_
            refine splitP rfl (fun c67 => ?_) (fun c67 => (c67 (by first | (rw [if_pos (by omega)] at hkv; omega) | (rw [if_neg (by omega)] at hkv; omega))).elim)
            refine stg rfl (v := .int .i64 0) (o_mv rfl) ?_
            refine stg rfl (v := .bool true) (o_bin rfl rfl v_eqT) ?_
            refine stp (v := .bool true) (o_pickT rfl rfl) ?_
            refine stp (v := .bool true) (o_mv rfl) ?_
            refine splitT rfl ?_
            refine stg rfl (v := .int .i64 0) (o_mv rfl) ?_
            refine stg rfl (v := .bool true) (o_bin rfl rfl v_eqT) ?_
            refine stp (v := .bool true) (o_pickT rfl rfl) ?_
            refine stp (v := .bool true) (o_mv rfl) ?_
            refine splitT rfl ?_
            refine stg rfl (v := .int .i64 (dot (bentF cs) (lensF (bentF cs) 15))) (o_mv rfl) ?_
            refine stg rfl (v := .int .i64 (dot (bentF cs) (lensF (bentF cs) L))) (o_mv rfl) ?_
            refine stg rfl (v := .bool (decide ((dot (bentF cs) (lensF (bentF cs) 15)) ≤ (dot (bentF cs) (lensF (bentF cs) L))))) (o_bin rfl rfl rfl) ?_
            refine stp (v := .bool (decide ((dot (bentF cs) (lensF (bentF cs) 15)) ≤ (dot (bentF cs) (lensF (bentF cs) L))))) (o_pickT rfl rfl) ?_
            refine stp (v := .bool (decide ((dot (bentF cs) (lensF (bentF cs) 15)) ≤ (dot (bentF cs) (lensF (bentF cs) L))))) (o_mv rfl) ?_
            refine splitP rfl (fun c68 => ?_) (fun c68 => (c68 (by omega)).elim)
            refine stg rfl (v := .int .i64 (2 * dot (bentF cs) (lensF (bentF cs) L))) (o_mv rfl) ?_
            refine stg rfl (v := .int .i64 (dot (bentF cs) (lensF (bentF cs) L))) (o_mv rfl) ?_
            refine stg rfl (v := .int .i64 (2 * (dot (bentF cs) (lensF (bentF cs) L)))) (o_bin rfl rfl (v_mul64 (by constructor <;> omega))) ?_
            refine stg rfl (v := .bool (decide ((2 * dot (bentF cs) (lensF (bentF cs) L)) = (2 * (dot (bentF cs) (lensF (bentF cs) L)))))) (o_bin rfl rfl rfl) ?_
            refine stp (v := .bool (decide ((2 * dot (bentF cs) (lensF (bentF cs) L)) = (2 * (dot (bentF cs) (lensF (bentF cs) L)))))) (o_pickT rfl rfl) ?_
            refine stp (v := .bool (decide ((2 * dot (bentF cs) (lensF (bentF cs) L)) = (2 * (dot (bentF cs) (lensF (bentF cs) L)))))) (o_mv rfl) ?_
            refine splitP rfl (fun c69 => ?_) (fun c69 => (c69 (by omega)).elim)
            refine gyesl rfl ?_
            refine m_call (works_ok w65) rfl fun v70 w70 ⟨hr70, hu70⟩ => ?_
            have hM70 : Mem w [] w70 [rs3, rs9, rs47, r19_, rs63] := hM65.pure hu70
            subst hr70
            refine stp (v := .bool true) (o_pickT rfl rfl) ?_
            refine stp (v := .bool true) (o_mv rfl) ?_
            refine h66 _ _ ?_
            clear h66
            refine ⟨(.bool true), rfl, ?_⟩
            exact ⟨by first | rfl | simp, hM70.upd⟩
  ·
    refine h15 _ _ ?_
    clear h15
    refine seq fun K71 h71 => ?_
    refine seq fun K72 h72 => ?_
    refine stp (v := .int .i64 0) (o_mv rfl) ?_
    refine h72 _ _ ?_
    clear h72
    refine lp (n := fun _ _ => False) (ι := (Nat)) (fun i f w' => f 11 = .int .i64 (i : Nat) ∧ f 5 = v3 ∧ f 7 = .int .i64 (L : Nat) ∧ f 8 = y9 ∧ f 10 = .bool (decide (((krK (lensF (bentF cs) L) 15 (lensF (bentF cs) L).length : Nat) : Int) = 32768)) ∧ Mem w [] w' [rs3, rs9] ∧ (i ≤ (bentF cs).length)) (fun i => (bentF cs).length - i) (0) ?_ ?_
    · exact ⟨by first | rfl | exact v_int (by omega) | exact v_int (by simp) | exact v_int (by simp; omega), rfl, by first | rfl | exact v_int (by omega) | exact v_int (by simp) | exact v_int (by simp; omega), rfl, by first | rfl | simp [upd], hM14, by omega⟩
    · rintro i f w73 ⟨e73_11, e73_5, e73_7, e73_8, e73_10, hM73, hi⟩ K74 h74
      obtain ⟨frm, rfl⟩ : ∃ frm, f = (upd (upd (upd (upd (upd frm 11 (.int .i64 (i : Nat))) 5 (v3)) 7 (.int .i64 (L : Nat))) 8 (y9)) 10 (.bool (decide (((krK (lensF (bentF cs) L) 15 (lensF (bentF cs) L).length : Nat) : Int) = 32768)))) := ⟨f, by rw [upd_self e73_11, upd_self e73_5, upd_self e73_7, upd_self e73_8, upd_self e73_10]⟩
      clear e73_11 e73_5 e73_7 e73_8 e73_10
      refine seq fun K75 h75 => ?_
      refine seq fun K76 h76 => ?_
      refine stp (v := .int .i64 (i : Nat)) (o_mv rfl) ?_
      refine stp (v := v3) (o_mv rfl) ?_
      refine stp (v := .int .i64 ((bentF cs).length : Nat)) (o_lenR (hs3.rd hM73 (i := 0) rfl) rfl rfl) ?_
      refine stp (v := .bool (decide (((i : Nat) : Int) < ((bentF cs).length : Nat)))) (o_bin rfl rfl rfl) ?_
      refine h76 _ _ ?_
      clear h76
      refine cndP rfl (fun c77 => ?_) (fun c77 => ?_)
      ·
        refine h75 _ _ ?_
        clear h75
        refine seq fun K78 h78 => ?_
        refine seq fun K79 h79 => ?_
        refine stp (v := .int .i64 0) (o_mv rfl) ?_
        refine h79 _ _ ?_
        clear h79
        refine lp (n := fun _ _ => False) (ι := (Nat)) (fun k f w' => f 12 = .int .i64 (k : Nat) ∧ f 5 = v3 ∧ f 7 = .int .i64 (L : Nat) ∧ f 8 = y9 ∧ f 10 = .bool (decide (((krK (lensF (bentF cs) L) 15 (lensF (bentF cs) L).length : Nat) : Int) = 32768)) ∧ f 11 = .int .i64 (i : Nat) ∧ Mem w [] w' [rs3, rs9] ∧ (k ≤ (bentF cs).length)) (fun k => (bentF cs).length - k) (0) ?_ ?_
        · exact ⟨by first | rfl | exact v_int (by omega) | exact v_int (by simp) | exact v_int (by simp; omega), rfl, by first | rfl | exact v_int (by omega) | exact v_int (by simp) | exact v_int (by simp; omega), rfl, by first | rfl | simp [upd], by first | rfl | exact v_int (by omega) | exact v_int (by simp) | exact v_int (by simp; omega), hM73, by omega⟩
        · rintro k f w80 ⟨e80_12, e80_5, e80_7, e80_8, e80_10, e80_11, hM80, hkk⟩ K81 h81
          obtain ⟨frm, rfl⟩ : ∃ frm, f = (upd (upd (upd (upd (upd (upd frm 12 (.int .i64 (k : Nat))) 5 (v3)) 7 (.int .i64 (L : Nat))) 8 (y9)) 10 (.bool (decide (((krK (lensF (bentF cs) L) 15 (lensF (bentF cs) L).length : Nat) : Int) = 32768)))) 11 (.int .i64 (i : Nat))) := ⟨f, by rw [upd_self e80_12, upd_self e80_5, upd_self e80_7, upd_self e80_8, upd_self e80_10, upd_self e80_11]⟩
          clear e80_12 e80_5 e80_7 e80_8 e80_10 e80_11
          refine seq fun K82 h82 => ?_
          refine seq fun K83 h83 => ?_
          refine stp (v := .int .i64 (k : Nat)) (o_mv rfl) ?_
          refine stp (v := v3) (o_mv rfl) ?_
          refine stp (v := .int .i64 ((bentF cs).length : Nat)) (o_lenR (hs3.rd hM80 (i := 0) rfl) rfl rfl) ?_
          refine stp (v := .bool (decide (((k : Nat) : Int) < ((bentF cs).length : Nat)))) (o_bin rfl rfl rfl) ?_
          refine h83 _ _ ?_
          clear h83
          refine cndP rfl (fun c84 => ?_) (fun c84 => ?_)
          ·
            refine h82 _ _ ?_
            clear h82
            refine seq fun K85 h85 => ?_
            refine seq fun K86 h86 => ?_
            intro wd e1 e2 e3 e4
            have hd := Upd.same e1 e2 e3 e4 []
            have hM87 := hM80.pure hd
            clear e1 e2 e3 e4
            refine ⟨none, ?_⟩
            show vd _ _ _ _ _ _ _
            refine dq (v := v3) (o_mv rfl) ?_
            refine dq (v := .int .i64 (i : Nat)) (o_mv rfl) ?_
            refine dqp (m_idxE 0 (j := i) (hs3.rd hM87 (i := 0) rfl) rfl rfl (by omega) fun b88 o88 hp88 => ?_)
            show vd _ _ _ _ _ _ _
            refine dq (v := v3) (o_mv rfl) ?_
            refine dq (v := .int .i64 (k : Nat)) (o_mv rfl) ?_
            refine dqp (m_idxE 0 (j := k) (hs3.rd hM87 (i := 0) rfl) rfl rfl (by omega) fun b89 o89 hp89 => ?_)
            show vd _ _ _ _ _ _ _
            refine dqld rfl (trivial) (v := .int .i64 ((bentF cs).getD k 0)) (hp89) ?_
            refine dl (ld (v := .int .i64 ((bentF cs).getD i 0)) rfl (hp88) ?_)
            refine ⟨rfl, ?_⟩
            refine dq (v := .bool (decide (((bentF cs).getD k 0) < ((bentF cs).getD i 0)))) (o_bin rfl rfl rfl) ?_
            refine dq (v := .bool (decide (((bentF cs).getD k 0) < ((bentF cs).getD i 0)))) (o_mv rfl) ?_
            refine dsplitP rfl (fun c90 => ?_) (fun c90 => ?_)
            ·
              refine dqg rfl (v := v3) (o_mv rfl) ?_
              refine dqg rfl (v := .int .i64 (k : Nat)) (o_mv rfl) ?_
              refine dgyes rfl rfl (dqp (m_idxE 0 (j := k) (hs3.rd hM87 (i := 0) rfl) rfl rfl (by omega) fun b91 o91 hp91 => ?_))
              show vd _ _ _ _ _ _ _
              refine dgyesl rfl ?_
              refine dl (ld (v := .int .i64 ((bentF cs).getD k 0)) rfl (hp91) ?_)
              refine ⟨rfl, ?_⟩
              refine dqg rfl (v := .bool (decide ((0 : Int) < ((bentF cs).getD k 0)))) (o_bin rfl rfl rfl) ?_
              refine dq (v := .bool (decide ((0 : Int) < ((bentF cs).getD k 0)))) (o_pickT rfl rfl) ?_
              refine dq (v := .bool (decide ((0 : Int) < ((bentF cs).getD k 0)))) (o_mv rfl) ?_
              refine dsplitP rfl (fun c92 => ?_) (fun c92 => ?_)
              ·
                have hgi := lens_get (cs := (bentF cs)) (lim := L) (i := i) (by omega)
                have hgk := lens_get (cs := (bentF cs)) (lim := L) (i := k) (by omega)
                have hmn := lens_mono (cs := (bentF cs)) (by omega) hb0 (lim := L) (by omega) (by omega) (i := i) (k := k) (by omega) (by omega) (by omega) (by omega)
                refine dqg rfl (v := y9) (o_mv rfl) ?_
                refine dqg rfl (v := .int .i64 (i : Nat)) (o_mv rfl) ?_
                refine dgyes rfl rfl (dqp (m_idxE 0 (j := i) (hs9.rd hM87 (i := 1) rfl) rfl rfl (by omega) fun b93 o93 hp93 => ?_))
                show vd _ _ _ _ _ _ _
                refine dqg rfl (v := y9) (o_mv rfl) ?_
                refine dqg rfl (v := .int .i64 (k : Nat)) (o_mv rfl) ?_
                refine dgyes rfl rfl (dqp (m_idxE 0 (j := k) (hs9.rd hM87 (i := 1) rfl) rfl rfl (by omega) fun b94 o94 hp94 => ?_))
                show vd _ _ _ _ _ _ _
                refine dqgyes rfl rfl ?_
                refine dqld rfl (trivial) (v := .int .i64 ((lensF (bentF cs) L).getD k 0)) (hp94) ?_
                refine dgyesl rfl ?_
                refine dl (ld (v := .int .i64 ((lensF (bentF cs) L).getD i 0)) rfl (hp93) ?_)
                refine ⟨rfl, ?_⟩
                refine dqg rfl (v := .bool (decide (((lensF (bentF cs) L).getD k 0) < ((lensF (bentF cs) L).getD i 0)))) (o_bin rfl rfl rfl) ?_
                refine dq (v := .bool (decide (((lensF (bentF cs) L).getD k 0) < ((lensF (bentF cs) L).getD i 0)))) (o_pickT rfl rfl) ?_
                refine h86 _ _ ?_
                clear h86
                refine cndP rfl (fun c95 => absurd c95 (by omega)) (fun c95 => ?_)
                refine h85 _ _ ?_
                clear h85
                refine stp (v := .int .i64 (k : Nat)) (o_mv rfl) ?_
                refine stp (v := .int .i64 ((k : Nat) + 1)) (o_bin rfl rfl (v_add64 (by constructor <;> omega))) ?_
                refine stp (v := .int .i64 ((k : Nat) + 1)) (o_mv rfl) ?_
                refine h81 (k + 1) _ _ ⟨by first | rfl | exact v_int (by omega) | exact v_int (by simp) | exact v_int (by simp; omega), rfl, by first | rfl | exact v_int (by omega) | exact v_int (by simp) | exact v_int (by simp; omega), rfl, by first | rfl | simp [upd], by first | rfl | exact v_int (by omega) | exact v_int (by simp) | exact v_int (by simp; omega), hM87, by omega⟩ (by (try dsimp only); omega)
              ·
                refine dgno rfl (by simp) ?_
                refine dgno rfl (by simp) ?_
                refine dgno rfl (by simp) ?_
                refine dgno rfl (by simp) ?_
                refine dgno rfl (by simp) ?_
                refine dgno rfl (by simp) ?_
                refine dqgno rfl (by simp) ?_
                refine dgnol rfl (by simp) ?_
                refine dgno rfl (by simp) ?_
                refine dq (v := .bool false) (o_pickF rfl rfl) ?_
                refine h86 _ _ ?_
                clear h86
                refine cndF rfl ?_
                refine h85 _ _ ?_
                clear h85
                refine stp (v := .int .i64 (k : Nat)) (o_mv rfl) ?_
                refine stp (v := .int .i64 ((k : Nat) + 1)) (o_bin rfl rfl (v_add64 (by constructor <;> omega))) ?_
                refine stp (v := .int .i64 ((k : Nat) + 1)) (o_mv rfl) ?_
                refine h81 (k + 1) _ _ ⟨by first | rfl | exact v_int (by omega) | exact v_int (by simp) | exact v_int (by simp; omega), rfl, by first | rfl | exact v_int (by omega) | exact v_int (by simp) | exact v_int (by simp; omega), rfl, by first | rfl | simp [upd], by first | rfl | exact v_int (by omega) | exact v_int (by simp) | exact v_int (by simp; omega), hM87, by omega⟩ (by (try dsimp only); omega)
            ·
              refine dgno rfl (by simp) ?_
              refine dgno rfl (by simp) ?_
              refine dgno rfl (by simp) ?_
              refine dgnol rfl (by simp) ?_
              refine dgno rfl (by simp) ?_
              refine dq (v := .bool false) (o_pickF rfl rfl) ?_
              refine dq (v := .bool false) (o_mv rfl) ?_
              refine dsplitF rfl ?_
              refine dgno rfl (by simp) ?_
              refine dgno rfl (by simp) ?_
              refine dgno rfl (by simp) ?_
              refine dgno rfl (by simp) ?_
              refine dgno rfl (by simp) ?_
              refine dgno rfl (by simp) ?_
              refine dqgno rfl (by simp) ?_
              refine dgnol rfl (by simp) ?_
              refine dgno rfl (by simp) ?_
              refine dq (v := .bool false) (o_pickF rfl rfl) ?_
              refine h86 _ _ ?_
              clear h86
              refine cndF rfl ?_
              refine h85 _ _ ?_
              clear h85
              refine stp (v := .int .i64 (k : Nat)) (o_mv rfl) ?_
              refine stp (v := .int .i64 ((k : Nat) + 1)) (o_bin rfl rfl (v_add64 (by constructor <;> omega))) ?_
              refine stp (v := .int .i64 ((k : Nat) + 1)) (o_mv rfl) ?_
              refine h81 (k + 1) _ _ ⟨by first | rfl | exact v_int (by omega) | exact v_int (by simp) | exact v_int (by simp; omega), rfl, by first | rfl | exact v_int (by omega) | exact v_int (by simp) | exact v_int (by simp; omega), rfl, by first | rfl | simp [upd], by first | rfl | exact v_int (by omega) | exact v_int (by simp) | exact v_int (by simp; omega), hM87, by omega⟩ (by (try dsimp only); omega)
          ·
            refine h78 _ _ ?_
            clear h78
            refine stp (v := .int .i64 (i : Nat)) (o_mv rfl) ?_
            refine stp (v := .int .i64 ((i : Nat) + 1)) (o_bin rfl rfl (v_add64 (by constructor <;> omega))) ?_
            refine stp (v := .int .i64 ((i : Nat) + 1)) (o_mv rfl) ?_
            refine h74 (i + 1) _ _ ⟨by first | rfl | exact v_int (by omega) | exact v_int (by simp) | exact v_int (by simp; omega), rfl, by first | rfl | exact v_int (by omega) | exact v_int (by simp) | exact v_int (by simp; omega), rfl, by first | rfl | simp [upd], hM80, by omega⟩ (by (try dsimp only); omega)
      ·
        refine h71 _ _ ?_
        clear h71
        refine seq fun K96 h96 => ?_
        refine stp (v := v3) (o_mv rfl) ?_
        refine stp (v := y9) (o_mv rfl) ?_
        refine m_call (Cost_ok _ _ (bentF cs) (lensF (bentF cs) L) w73 (hs3.rd hM73 (i := 0) rfl) (hs9.rd hM73 (i := 1) rfl) (by omega) (by omega)) rfl fun v97 w97 ⟨hr97, hu97⟩ => ?_
        have hM97 : Mem w [] w97 [rs3, rs9] := hM73.pure hu97
        rw [hcost] at hr97
        subst hr97
        refine stp (v := .tuple [.int .i64 (dot (bentF cs) (lensF (bentF cs) L)), .int .i64 0].toArray) (o_mv rfl) ?_
        refine stp (v := .int .i64 (dot (bentF cs) (lensF (bentF cs) L))) (o_ext rfl rfl) ?_
        refine stp (v := .int .i64 0) (o_ext rfl rfl) ?_
        refine stp (v := .int .i64 (dot (bentF cs) (lensF (bentF cs) L))) (o_mv rfl) ?_
        refine stp (v := .int .i64 0) (o_mv rfl) ?_
        refine h96 _ _ ?_
        clear h96
        refine seq fun K98 h98 => ?_
        refine stp (v := v3) (o_mv rfl) ?_
        refine m_call (Lengths_ok _ (bentF cs) 15 w97 (hs3.rd hM97 (i := 0) rfl) (by omega) (by simp only [inK]; omega)) rfl fun v99 w99 ⟨y99, rs99, hr99, hs99, hm99⟩ => ?_
        have hM99 : Mem w [] w99 [rs3, rs9, rs99] := hM97.add hm99
        rw [hlen15] at hr99 hs99
        dsimp only at hr99 hs99
        subst hr99
        refine stp (v := .tuple [y99, .int .i64 0].toArray) (o_mv rfl) ?_
        refine stp (v := y99) (o_ext rfl rfl) ?_
        refine stp (v := .int .i64 0) (o_ext rfl rfl) ?_
        refine stp (v := y99) (o_mv rfl) ?_
        refine stp (v := .int .i64 0) (o_mv rfl) ?_
        refine h98 _ _ ?_
        clear h98
        refine seq fun K100 h100 => ?_
        refine stp (v := v3) (o_mv rfl) ?_
        refine stp (v := y99) (o_mv rfl) ?_
        refine m_call (Cost_ok _ _ (bentF cs) (lensF (bentF cs) 15) w99 (hs3.rd hM99 (i := 0) rfl) (hs99.rd hM99 (i := 2) rfl) (by omega) (by omega)) rfl fun v101 w101 ⟨hr101, hu101⟩ => ?_
        have hM101 : Mem w [] w101 [rs3, rs9, rs99] := hM99.pure hu101
        rw [hcost15] at hr101
        subst hr101
        refine stp (v := .tuple [.int .i64 (dot (bentF cs) (lensF (bentF cs) 15)), .int .i64 0].toArray) (o_mv rfl) ?_
        refine stp (v := .int .i64 (dot (bentF cs) (lensF (bentF cs) 15))) (o_ext rfl rfl) ?_
        refine stp (v := .int .i64 0) (o_ext rfl rfl) ?_
        refine stp (v := .int .i64 (dot (bentF cs) (lensF (bentF cs) 15))) (o_mv rfl) ?_
        refine stp (v := .int .i64 0) (o_mv rfl) ?_
        refine h100 _ _ ?_
        clear h100
        refine seq fun K102 h102 => ?_
        refine stp (v := v3) (o_mv rfl) ?_
        refine stp (v := .int .i64 ((bentF cs).length : Nat)) (o_lenR (hs3.rd hM101 (i := 0) rfl) rfl rfl) ?_
        refine m_mksE (E := i64V) (z := 0) (n := (bentF cs).length) (c := (bentF cs).length) rfl hM101 (v_int (by omega)) (v_int (by omega)) (by omega) (by omega) (by omega) fun v103 w103 r103 hs103 (hM103 : Mem w [] w103 [rs3, rs9, rs99, r103]) => ?_
        refine stp (v := v103) (o_mv rfl) ?_
        refine h102 _ _ ?_
        clear h102
        refine seq fun K104 h104 => ?_
        refine seq fun K105 h105 => ?_
        refine stp (v := .int .i64 0) (o_mv rfl) ?_
        refine h105 _ _ ?_
        clear h105
        refine lp (n := fun _ _ => False) (ι := (Nat) × (Value) × (List Ent)) (fun ⟨i, y19_, r19_⟩ f w' => f 20 = .int .i64 (i : Nat) ∧ f 19 = y19_ ∧ f 5 = v3 ∧ f 7 = .int .i64 (L : Nat) ∧ f 10 = .bool (decide (((krK (lensF (bentF cs) L) 15 (lensF (bentF cs) L).length : Nat) : Int) = 32768)) ∧ f 13 = .int .i64 (dot (bentF cs) (lensF (bentF cs) L)) ∧ f 16 = .int .i64 0 ∧ f 17 = .int .i64 (dot (bentF cs) (lensF (bentF cs) 15)) ∧ Mem w [] w' [rs3, rs9, rs99, r19_] ∧ (i ≤ (bentF cs).length) ∧ ((mapR (bentF cs).length fun s => if s < i then 2 * (bentF cs).getD s 0 else 0).length = (bentF cs).length) ∧ (SlE i64V 2 y19_ ((mapR (bentF cs).length fun s => if s < i then 2 * (bentF cs).getD s 0 else 0)) r19_)) (fun ⟨i, y19_, r19_⟩ => (bentF cs).length - i) (0, v103, r103) ?_ ?_
        · exact ⟨by first | rfl | exact v_int (by omega) | exact v_int (by simp) | exact v_int (by simp; omega), rfl, rfl, by first | rfl | exact v_int (by omega) | exact v_int (by simp) | exact v_int (by simp; omega), by first | rfl | simp [upd], by first | rfl | exact v_int (by omega) | exact v_int (by simp) | exact v_int (by simp; omega), by first | rfl | exact v_int (by omega) | exact v_int (by simp) | exact v_int (by simp; omega), by first | rfl | exact v_int (by omega) | exact v_int (by simp) | exact v_int (by simp; omega), hM103, by omega, mapR_len _ _, by
          have h9 := hs103
          rw [mapR_rep] at h9
          exact h9.eqL (mapR_ext fun s _ => by rw [if_neg (by omega)])⟩
        · rintro ⟨i, y19_, r19_⟩ f w106 ⟨e106_20, e106_19, e106_5, e106_7, e106_10, e106_13, e106_16, e106_17, hM106, hi, hml, hy19_⟩ K107 h107
          obtain ⟨frm, rfl⟩ : ∃ frm, f = (upd (upd (upd (upd (upd (upd (upd (upd frm 20 (.int .i64 (i : Nat))) 19 (y19_)) 5 (v3)) 7 (.int .i64 (L : Nat))) 10 (.bool (decide (((krK (lensF (bentF cs) L) 15 (lensF (bentF cs) L).length : Nat) : Int) = 32768)))) 13 (.int .i64 (dot (bentF cs) (lensF (bentF cs) L)))) 16 (.int .i64 0)) 17 (.int .i64 (dot (bentF cs) (lensF (bentF cs) 15)))) := ⟨f, by rw [upd_self e106_20, upd_self e106_19, upd_self e106_5, upd_self e106_7, upd_self e106_10, upd_self e106_13, upd_self e106_16, upd_self e106_17]⟩
          clear e106_20 e106_19 e106_5 e106_7 e106_10 e106_13 e106_16 e106_17
          refine seq fun K108 h108 => ?_
          refine seq fun K109 h109 => ?_
          refine stp (v := .int .i64 (i : Nat)) (o_mv rfl) ?_
          refine stp (v := v3) (o_mv rfl) ?_
          refine stp (v := .int .i64 ((bentF cs).length : Nat)) (o_lenR (hs3.rd hM106 (i := 0) rfl) rfl rfl) ?_
          refine stp (v := .bool (decide (((i : Nat) : Int) < ((bentF cs).length : Nat)))) (o_bin rfl rfl rfl) ?_
          refine h109 _ _ ?_
          clear h109
          refine cndP rfl (fun c110 => ?_) (fun c110 => ?_)
          ·
            refine h108 _ _ ?_
            clear h108
            refine seq fun K111 h111 => ?_
            refine stp (v := y19_) (o_mv rfl) ?_
            refine stp (v := .int .i64 (i : Nat)) (o_mv rfl) ?_
            refine stp (v := v3) (o_mv rfl) ?_
            refine stp (v := .int .i64 (i : Nat)) (o_mv rfl) ?_
            refine m_idxE 0 (j := i) (hs3.rd hM106 (i := 0) rfl) rfl rfl (by omega) fun b112 o112 hp112 => ?_
            refine ld (v := .int .i64 ((bentF cs).getD i 0)) rfl (hp112) ?_
            have hbi := bent_bd cs i
            refine stp (v := .int .i64 (2 * ((bentF cs).getD i 0))) (o_bin rfl rfl (v_mul64 (by constructor <;> omega))) ?_
            refine m_set (E := i64V) (q := 2 * ((bentF cs).getD i 0)) (j := i) hM106 (i := 3) rfl hy19_ rfl rfl (by omega) (by simp) (rfl) fun w113 r113 u113 he113 hs113 (hM113 : Mem w [] w113 [rs3, rs9, rs99, r113]) => ?_
            refine h111 _ _ ?_
            clear h111
            refine stp (v := .int .i64 (i : Nat)) (o_mv rfl) ?_
            refine stp (v := .int .i64 ((i : Nat) + 1)) (o_bin rfl rfl (v_add64 (by constructor <;> omega))) ?_
            refine stp (v := .int .i64 ((i : Nat) + 1)) (o_mv rfl) ?_
            refine h107 (i + 1, y19_, r113) _ _ ⟨by first | rfl | exact v_int (by omega) | exact v_int (by simp) | exact v_int (by simp; omega), rfl, rfl, by first | rfl | exact v_int (by omega) | exact v_int (by simp) | exact v_int (by simp; omega), by first | rfl | simp [upd], by first | rfl | exact v_int (by omega) | exact v_int (by simp) | exact v_int (by simp; omega), by first | rfl | exact v_int (by omega) | exact v_int (by simp) | exact v_int (by simp; omega), by first | rfl | exact v_int (by omega) | exact v_int (by simp) | exact v_int (by simp; omega), hM113, by omega, mapR_len _ _, by rw [← dblR_set]; exact hs113⟩ (by (try dsimp only); omega)
          ·
            refine h104 _ _ ?_
            clear h104
            refine seq fun K114 h114 => ?_
            have hsD := SlE.eqL (m := (dblF (bentF cs))) hy19_ (dblR_end (by omega))
            refine stp (v := y19_) (o_mv rfl) ?_
            refine stp (v := .int .i64 (L : Nat)) (o_mv rfl) ?_
            refine m_call (Lengths_ok _ (dblF (bentF cs)) (L : Nat) w106 (hsD.rd hM106 (i := 3) rfl) (by rw [dbl_len]; omega) (by simp only [inK]; omega)) rfl fun v115 w115 ⟨y115, rs115, hr115, hs115, hm115⟩ => ?_
            have hM115 : Mem w [] w115 [rs3, rs9, rs99, r19_, rs115] := hM106.add hm115
            rw [hlenD] at hr115 hs115
            dsimp only at hr115 hs115
            subst hr115
            refine stp (v := .tuple [y115, .int .i64 0].toArray) (o_mv rfl) ?_
            refine stp (v := y115) (o_ext rfl rfl) ?_
            refine stp (v := .int .i64 0) (o_ext rfl rfl) ?_
            refine stp (v := y115) (o_mv rfl) ?_
            refine stp (v := .int .i64 0) (o_mv rfl) ?_
            refine h114 _ _ ?_
            clear h114
            refine seq fun K116 h116 => ?_
            refine stp (v := y19_) (o_mv rfl) ?_
            refine stp (v := y115) (o_mv rfl) ?_
            refine m_call (Cost_ok _ _ (dblF (bentF cs)) (lensF (bentF cs) L) w115 (hsD.rd hM115 (i := 3) rfl) (hs115.rd hM115 (i := 4) rfl) (by rw [dbl_len]; omega) (by omega)) rfl fun v117 w117 ⟨hr117, hu117⟩ => ?_
            have hM117 : Mem w [] w117 [rs3, rs9, rs99, r19_, rs115] := hM115.pure hu117
            rw [hcostD] at hr117
            subst hr117
            refine stp (v := .tuple [.int .i64 (2 * dot (bentF cs) (lensF (bentF cs) L)), .int .i64 0].toArray) (o_mv rfl) ?_
            refine stp (v := .int .i64 (2 * dot (bentF cs) (lensF (bentF cs) L))) (o_ext rfl rfl) ?_
            refine stp (v := .int .i64 0) (o_ext rfl rfl) ?_
            refine stp (v := .int .i64 (2 * dot (bentF cs) (lensF (bentF cs) L))) (o_mv rfl) ?_
            refine stp (v := .int .i64 0) (o_mv rfl) ?_
            refine h116 _ _ ?_
            clear h116
            refine seq fun K118 h118 => ?_
            refine stp (v := .bool (decide (((krK (lensF (bentF cs) L) 15 (lensF (bentF cs) L).length : Nat) : Int) = 32768))) (o_mv rfl) ?_
            refine stp (v := .bool (decide (((krK (lensF (bentF cs) L) 15 (lensF (bentF cs) L).length : Nat) : Int) = 32768))) (o_mv rfl) ?_
            refine splitP rfl (fun c119 => ?_) (fun c119 => (c119 (by first | (rw [if_pos (by omega)] at hkv; omega) | (rw [if_neg (by omega)] at hkv; omega))).elim)
            refine stg rfl (v := .int .i64 0) (o_mv rfl) ?_
            refine stg rfl (v := .bool true) (o_bin rfl rfl v_eqT) ?_
            refine stp (v := .bool true) (o_pickT rfl rfl) ?_
            refine stp (v := .bool true) (o_mv rfl) ?_
            refine splitT rfl ?_
            refine stg rfl (v := .int .i64 0) (o_mv rfl) ?_
            refine stg rfl (v := .bool true) (o_bin rfl rfl v_eqT) ?_
            refine stp (v := .bool true) (o_pickT rfl rfl) ?_
            refine stp (v := .bool true) (o_mv rfl) ?_
            refine splitT rfl ?_
            refine stg rfl (v := .int .i64 (dot (bentF cs) (lensF (bentF cs) 15))) (o_mv rfl) ?_
            refine stg rfl (v := .int .i64 (dot (bentF cs) (lensF (bentF cs) L))) (o_mv rfl) ?_
            refine stg rfl (v := .bool (decide ((dot (bentF cs) (lensF (bentF cs) 15)) ≤ (dot (bentF cs) (lensF (bentF cs) L))))) (o_bin rfl rfl rfl) ?_
            refine stp (v := .bool (decide ((dot (bentF cs) (lensF (bentF cs) 15)) ≤ (dot (bentF cs) (lensF (bentF cs) L))))) (o_pickT rfl rfl) ?_
            refine stp (v := .bool (decide ((dot (bentF cs) (lensF (bentF cs) 15)) ≤ (dot (bentF cs) (lensF (bentF cs) L))))) (o_mv rfl) ?_
            refine splitP rfl (fun c120 => ?_) (fun c120 => (c120 (by omega)).elim)
            refine stg rfl (v := .int .i64 (2 * dot (bentF cs) (lensF (bentF cs) L))) (o_mv rfl) ?_
            refine stg rfl (v := .int .i64 (dot (bentF cs) (lensF (bentF cs) L))) (o_mv rfl) ?_
            refine stg rfl (v := .int .i64 (2 * (dot (bentF cs) (lensF (bentF cs) L)))) (o_bin rfl rfl (v_mul64 (by constructor <;> omega))) ?_
            refine stg rfl (v := .bool (decide ((2 * dot (bentF cs) (lensF (bentF cs) L)) = (2 * (dot (bentF cs) (lensF (bentF cs) L)))))) (o_bin rfl rfl rfl) ?_
            refine stp (v := .bool (decide ((2 * dot (bentF cs) (lensF (bentF cs) L)) = (2 * (dot (bentF cs) (lensF (bentF cs) L)))))) (o_pickT rfl rfl) ?_
            refine stp (v := .bool (decide ((2 * dot (bentF cs) (lensF (bentF cs) L)) = (2 * (dot (bentF cs) (lensF (bentF cs) L)))))) (o_mv rfl) ?_
            refine splitP rfl (fun c121 => ?_) (fun c121 => (c121 (by omega)).elim)
            refine gyesl rfl ?_
            refine m_call (works_ok w117) rfl fun v122 w122 ⟨hr122, hu122⟩ => ?_
            have hM122 : Mem w [] w122 [rs3, rs9, rs99, r19_, rs115] := hM117.pure hu122
            subst hr122
            refine stp (v := .bool true) (o_pickT rfl rfl) ?_
            refine stp (v := .bool true) (o_mv rfl) ?_
            refine h118 _ _ ?_
            clear h118
            refine ⟨(.bool true), rfl, ?_⟩
            exact ⟨by first | rfl | simp, hM122.upd⟩
