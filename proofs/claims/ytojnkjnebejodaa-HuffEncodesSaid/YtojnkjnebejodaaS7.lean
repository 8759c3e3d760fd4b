/- Things and rows of the reference. -/
import Derived.Test.YtojnkjnebejodaaS6
namespace Go.Proofs.Ytojnkjnebejodaa.E
open Go
def pkC (t : Th) : List Value := .int .i64 t.w :: (List.range 256).map fun i => .int .i64 ((t.f i : Nat) : Int)
@[simp] theorem pkC_len (t : Th) : (pkC t).length = 257 := by simp [pkC]
theorem pkC_one (t : Th) : oneCells (pkC t) := by
  intro v hv
  unfold pkC at hv
  rcases List.mem_cons.1 hv with rfl | hv
  · rfl
  · obtain ⟨i, _, rfl⟩ := List.mem_map.1 hv; rfl
instance : Enc pkC 257 := ⟨pkC_len, by omega, pkC_one⟩
theorem zcPk : List.replicate 257 (Value.int .i64 0) = pkC th0 := by kernel_rfl
theorem zcPk_len : (List.replicate 257 (Value.int .i64 0)).length = 257 := List.length_replicate
theorem pkC_set {t : Th} {i v : Nat} {r : Int} (hi : i < 256) : (pkC t).set (1 + i) (.int .i64 (v : Int)) = pkC ⟨t.w, fun k => if k = i then v else t.f k, r⟩ := by
  unfold pkC
  rw [Nat.add_comm 1 i, List.set_cons_succ]
  congr 1
  apply List.ext_getElem (by simp)
  intro k h1 h2
  simp only [List.length_set, List.length_map, List.length_range] at h1
  simp only [List.getElem_set, List.getElem_map, List.getElem_range]
  by_cases c : i = k
  · subst c; simp
  · rw [if_neg c, if_neg (fun e => c e.symm)]
theorem pkC_w {c : Int} : fillC (List.replicate 257 (Value.int .i64 0)) [(0, 1, .int .i64 c)] = some (pkC ⟨c, fun _ => 0, 0⟩) := by
  rw [zcPk]
  unfold fillC
  rw [if_pos ⟨rfl, by rw [pkC_len]; omega⟩]
  rfl
theorem pkC_cell {t : Th} {i : Nat} (hi : i < 256) : (pkC t)[1 + i]? = some (.int .i64 ((t.f i : Nat) : Int)) := by
  unfold pkC
  rw [Nat.add_comm 1 i, List.getElem?_cons_succ, List.getElem?_map, List.getElem?_range hi]; rfl
theorem pkC_ext {t u : Th} (h : t.w = u.w) (h2 : ∀ k, k < 256 → t.f k = u.f k) : pkC t = pkC u := by
  unfold pkC
  rw [h]
  congr 1
  apply List.map_congr_left
  intro k hk
  rw [h2 k (List.mem_range.1 hk)]
/-- the first i symbols gathered, anew -/
def accP (a b : Th) (i : Nat) : Th := ⟨a.w + b.w, fun k => if k < i then a.f k + b.f k else 0, 0⟩
theorem accP_zero {a b : Th} : fillC (List.replicate 257 (Value.int .i64 0)) [(0, 1, .int .i64 (a.w + b.w))] = some (pkC (accP a b 0)) := by
  rw [pkC_w]; congr 1
theorem accP_set {a b : Th} {i : Nat} (h : i < 256) : (pkC (accP a b i)).set (1 + i) (.int .i64 ((a.f i + b.f i : Nat) : Int)) = pkC (accP a b (i + 1)) := by
  rw [pkC_set (r := 0) h]
  refine pkC_ext rfl fun k _ => ?_
  show (if k = i then a.f i + b.f i else if k < i then a.f k + b.f k else 0) = if k < i + 1 then a.f k + b.f k else 0
  by_cases c : k = i
  · subst c; simp
  · rw [if_neg c]
    by_cases c2 : k < i
    · rw [if_pos c2, if_pos (by omega)]
    · rw [if_neg c2, if_neg (by omega)]
theorem accP_end {a b : Th} : pkC (accP a b 256) = pkC (bothT a b) := pkC_ext rfl fun k hk => by
  show (if k < 256 then _ else _) = _
  rw [if_pos hk]; rfl
theorem ins_at {A lc : List Th} {x : Th} {k : Nat} (hp : lc.Perm A) (hs : SrtR lc) (hx : ∀ y ∈ A, Cr Th.r Th.w y x) (hk : k ≤ lc.length) (hlow : ∀ q, q < k → (lc.getD q th0).w ≤ x.w) (hhi : k = lc.length ∨ ¬ (lc.getD k th0).w ≤ x.w) : (lc.take k ++ [x] ++ (lc.take lc.length).drop k).Perm (A ++ [x]) ∧ SrtR (lc.take k ++ [x] ++ (lc.take lc.length).drop k) := by
  rw [List.take_length]
  have hcr : ∀ q, q < lc.length → Cr Th.r Th.w (lc.getD q th0) x := fun q hq => hx _ (hp.subset (getD_memG th0 hq))
  constructor
  · refine List.Perm.trans ?_ (hp.append_right [x])
    have : (lc.take k ++ [x] ++ lc.drop k).Perm (lc.take k ++ lc.drop k ++ [x]) := by
      rw [List.append_assoc, List.append_assoc]
      exact List.Perm.append_left _ List.perm_append_comm
    rwa [List.take_append_drop] at this
  · have hs1 : (lc.take k ++ lc.drop k).Pairwise (fun a b : Th => a.r < b.r) := by rw [List.take_append_drop]; exact hs
    obtain ⟨p1, p2, p3⟩ := List.pairwise_append.1 hs1
    refine List.pairwise_append.2 ⟨List.pairwise_append.2 ⟨p1, List.pairwise_singleton _ _, fun a ha b hb => ?_⟩, p2, fun a ha b hb => ?_⟩
    · rw [List.mem_singleton] at hb; subst hb
      obtain ⟨q, hq, rfl⟩ := List.mem_iff_getElem.1 ha
      rw [List.length_take] at hq
      have h1 := hcr q (by omega)
      have h2 := hlow q (by omega)
      rw [List.getD_eq_getElem?_getD, List.getElem?_eq_getElem (by omega)] at h1 h2
      rw [List.getElem_take]
      exact h1.2 (by simp only [Option.getD_some] at h2 ⊢; omega)
    · rcases List.mem_append.1 ha with ha | ha
      · exact p3 a ha b hb
      · rw [List.mem_singleton] at ha; subst ha
        rcases hhi with hhi | hhi
        · rw [hhi, List.drop_length] at hb; cases hb
        · rcases Nat.lt_or_ge k lc.length with c | c
          · have h1 := (hcr k c).1 (by omega)
            rw [dropG th0 c] at hb p2
            rcases List.mem_cons.1 hb with rfl | hb
            · exact h1
            · have := (List.pairwise_cons.1 p2).1 b hb; omega
          · rw [List.drop_eq_nil_of_le c] at hb; cases hb
theorem thsA_new {cs : List Int} {j : Nat} (hl : cs.length ≤ 256) (hj : j < cs.length) : ∀ y ∈ thsA cs j, Cr Th.r Th.w y (one (cs.getD (cs.length - 1 - j) 0) (cs.length - 1 - j)) := fun y hy => by
  obtain ⟨i, rfl, h2, h3, h4⟩ := thsA_mem cs j (by omega) y hy
  exact one_cr (by omega) (by omega)

set_option maxHeartbeats 1000000 in
set_option maxRecDepth 100000 in
/-- winnowref4.things -/
theorem refThings_ok (x : Value) (cs : List Int) (w : World) (hx : RdE i64V w x cs) (hl : cs.length ≤ 256) (hcs : ∀ i, 0 ≤ cs.getD i 0) : Calls Try.prog 54 [x].toArray w (Rt fun r w' => ∃ rs, SlS pkC 257 88 r (thF cs) rs ∧ Mem w [] w' [rs]) := by
  have hM0 : Mem w [] w [] := Mem.nil w []
  refine calls_vc mixed Try.func54 rfl C54 (by simp [Try.ntmps54]) ?_
  refine seq fun K1 h1 => ?_
  refine stp (v := .slice none 0 0) (o_mv rfl) ?_
  refine h1 _ _ ?_
  clear h1
  refine seq fun K2 h2 => ?_
  refine stp (v := .slice none 0 0) (o_mv rfl) ?_
  refine h2 _ _ ?_
  clear h2
  refine seq fun K3 h3 => ?_
  refine seq fun K4 h4 => ?_
  refine stp (v := x) (o_mv rfl) ?_
  refine stp (v := .int .i64 (cs.length : Nat)) (o_lenR (hx.upd hM0.upd) rfl rfl) ?_
  refine stp (v := .int .i64 ((cs.length : Nat) - 1)) (o_bin rfl rfl (v_sub64 (by constructor <;> omega))) ?_
  refine stp (v := .int .i64 ((cs.length : Nat) - 1)) (o_mv rfl) ?_
  refine h4 _ _ ?_
  clear h4
  have hM5 : Mem w [] w [[]] := hM0.addNil
  have hs5 : SlS pkC 257 88 (.slice none 0 0) [] [] := Sl.nil 257 88
  refine lp (n := fun _ _ => False) (ι := (Nat) × (List Th) × (Value) × (List Ent)) (fun ⟨j, lc, y3_, r3_⟩ f w' => f 3 = y3_ ∧ f 4 = .int .i64 ((cs.length : Int) - 1 - (j : Nat)) ∧ f 0 = x ∧ Mem w [] w' [r3_] ∧ (j ≤ cs.length) ∧ (lc.Perm (thsA cs j)) ∧ (SrtR lc) ∧ (SlS pkC 257 88 y3_ (lc) r3_)) (fun ⟨j, lc, y3_, r3_⟩ => cs.length - j) (0, [], ((.slice none 0 0)), ([])) ?_ ?_
  · exact ⟨rfl, by first | rfl | exact v_int (by omega) | exact v_int (by simp) | exact v_int (by simp; omega), rfl, hM5, by omega, .refl _, List.Pairwise.nil, by first | exact hs5 | simpa using hs5⟩
  · rintro ⟨j, lc, y3_, r3_⟩ f w6 ⟨e6_3, e6_4, e6_0, hM6, hj, hp, hs, hy3_⟩ K7 h7
    obtain ⟨frm, rfl⟩ : ∃ frm, f = (upd (upd (upd frm 3 (y3_)) 4 (.int .i64 ((cs.length : Int) - 1 - (j : Nat)))) 0 (x)) := ⟨f, by rw [upd_self e6_3, upd_self e6_4, upd_self e6_0]⟩
    clear e6_3 e6_4 e6_0
    refine seq fun K8 h8 => ?_
    refine seq fun K9 h9 => ?_
    refine stp (v := .int .i64 ((cs.length : Int) - 1 - (j : Nat))) (o_mv rfl) ?_
    refine stp (v := .bool (decide ((0 : Int) ≤ ((cs.length : Int) - 1 - (j : Nat) : Int)))) (o_bin rfl rfl rfl) ?_
    refine h9 _ _ ?_
    clear h9
    refine cndP rfl (fun c10 => ?_) (fun c10 => ?_)
    ·
      refine h8 _ _ ?_
      clear h8
      refine seq fun K11 h11 => ?_
      refine seq fun K12 h12 => ?_
      refine seq fun K13 h13 => ?_
      have hpl := hp.length_eq
      have hal := thsA_len cs j
      have hc0 := hcs (cs.length - 1 - j)
      refine stp (v := x) (o_mv rfl) ?_
      refine stp (v := .int .i64 ((cs.length : Int) - 1 - (j : Nat))) (o_mv rfl) ?_
      refine m_idxE 0 (j := (cs.length - 1 - j)) (hx.upd hM6.upd) rfl (v_int (by omega)) (by omega) fun b14 o14 hp14 => ?_
      refine ld (v := .int .i64 (cs.getD (cs.length - 1 - j) 0)) rfl (hp14) ?_
      refine stp (v := .bool (decide ((cs.getD (cs.length - 1 - j) 0) = 0))) (o_bin rfl rfl rfl) ?_
      refine h13 _ _ ?_
      clear h13
      refine cndP rfl (fun c15 => ?_) (fun c15 => ?_)
      ·
        refine h11 _ _ ?_
        clear h11
        refine stp (v := .int .i64 ((cs.length : Int) - 1 - (j : Nat))) (o_mv rfl) ?_
        refine stp (v := .int .i64 (((cs.length : Int) - 1 - (j : Nat)) - 1)) (o_bin rfl rfl (v_sub64 (by constructor <;> omega))) ?_
        refine stp (v := .int .i64 (((cs.length : Int) - 1 - (j : Nat)) - 1)) (o_mv rfl) ?_
        refine h7 (j + 1, lc, y3_, r3_) _ _ ⟨rfl, by first | rfl | exact v_int (by omega) | exact v_int (by simp) | exact v_int (by simp; omega), rfl, hM6, by omega, by rw [thsA_no (by omega)]; exact hp, hs, by first | exact hy3_ | simpa using hy3_⟩ (by (try dsimp only); omega)
      ·
        refine h12 _ _ ?_
        clear h12
        refine seq fun K16 h16 => ?_
        refine stp (v := x) (o_mv rfl) ?_
        refine stp (v := .int .i64 ((cs.length : Int) - 1 - (j : Nat))) (o_mv rfl) ?_
        refine m_idxE 0 (j := (cs.length - 1 - j)) (hx.upd hM6.upd) rfl (v_int (by omega)) (by omega) fun b17 o17 hp17 => ?_
        refine ld (v := .int .i64 (cs.getD (cs.length - 1 - j) 0)) rfl (hp17) ?_
        refine stp (v := .agg ((pkC (⟨(cs.getD (cs.length - 1 - j) 0), fun _ => 0, 0⟩ : Th)).toArray)) (o_bld2 (vs := [(0, 1, .int .i64 (cs.getD (cs.length - 1 - j) 0))]) rfl pkC_w rfl) ?_
        refine m_al hM6 fun b18 w19 (hM19 : Mem w [] w19 [r3_, [⟨b18, 88, (List.replicate 257 (.int .i64 0))⟩]]) => ?_
        refine m_stA (l := (pkC (⟨(cs.getD (cs.length - 1 - j) 0), fun _ => 0, 0⟩ : Th))) hM19 (i := 1) rfl rfl rfl (by simp) (pkC_one _) (by simp) fun w20 hm20 => ?_
        have hM20 : Mem w [] w20 [r3_, [⟨b18, 88, (pkC (⟨(cs.getD (cs.length - 1 - j) 0), fun _ => 0, 0⟩ : Th))⟩]] := by
          have e : splice (List.replicate 257 (.int .i64 0)) 0 (pkC (⟨(cs.getD (cs.length - 1 - j) 0), fun _ => 0, 0⟩ : Th)) = (pkC (⟨(cs.getD (cs.length - 1 - j) 0), fun _ => 0, 0⟩ : Th)) := splice_full (by simp; first | done | (simp) | omega)
          first | (rw [e] at hm20; exact hm20) | (rw [← e]; exact hm20)
        refine h16 _ _ ?_
        clear h16
        refine seq fun K21 h21 => ?_
        refine stp (v := .int .i64 ((cs.length : Int) - 1 - (j : Nat))) (o_mv rfl) ?_
        refine stp (v := .pointer (some ⟨b18, 1, none⟩)) (o_fa rfl rfl) ?_
        refine stp (v := .pointer (some ⟨b18, 1 + (cs.length - 1 - j), none⟩)) (o_idxa rfl rfl (by omega) (v_ptr (by first | (rw [Int.toNat_natCast, Nat.mul_one]; done) | (simp; done) | omega))) ?_
        refine m_st (v := .int .i64 1) hM20 (i := 1) rfl rfl rfl rfl (by rw [pkC_len]; omega) fun w22 hm22 => ?_
        have hM22 : Mem w [] w22 [r3_, [⟨b18, 88, (pkC (one (cs.getD (cs.length - 1 - j) 0) (cs.length - 1 - j)))⟩]] := by
          have e : (pkC (⟨(cs.getD (cs.length - 1 - j) 0), fun _ => 0, 0⟩ : Th)).set (1 + (cs.length - 1 - j)) (.int .i64 1) = (pkC (one (cs.getD (cs.length - 1 - j) 0) (cs.length - 1 - j))) := pkC_set (t := ⟨(cs.getD (cs.length - 1 - j) 0), fun _ => 0, 0⟩) (v := 1) (by omega)
          rw [← e]; exact hm22
        refine h21 _ _ ?_
        clear h21
        refine seq fun K23 h23 => ?_
        refine stp (v := .slice none 0 0) (o_mv rfl) ?_
        refine h23 _ _ ?_
        clear h23
        refine seq fun K24 h24 => ?_
        refine stp (v := .int .i64 0) (o_mv rfl) ?_
        refine h24 _ _ ?_
        clear h24
        refine seq fun K25 h25 => ?_
        refine lp (n := fun _ _ => False) (ι := (Nat)) (fun k f w' => f 7 = .int .i64 (k : Nat) ∧ f 0 = x ∧ f 3 = y3_ ∧ f 4 = .int .i64 ((cs.length : Int) - 1 - (j : Nat)) ∧ f 5 = .pointer (some ⟨b18, 0, none⟩) ∧ f 6 = .slice none 0 0 ∧ Mem w [] w' [r3_, [⟨b18, 88, (pkC (one (cs.getD (cs.length - 1 - j) 0) (cs.length - 1 - j)))⟩]] ∧ (k ≤ lc.length) ∧ (∀ q, q < k → (lc.getD q th0).w ≤ (one (cs.getD (cs.length - 1 - j) 0) (cs.length - 1 - j)).w)) (fun k => lc.length - k) (0) ?_ ?_
        · exact ⟨by first | rfl | exact v_int (by omega) | exact v_int (by simp) | exact v_int (by simp; omega), rfl, rfl, by first | rfl | exact v_int (by omega) | exact v_int (by simp) | exact v_int (by simp; omega), rfl, rfl, hM22, by omega, fun q h => by omega⟩
        · rintro k f w26 ⟨e26_7, e26_0, e26_3, e26_4, e26_5, e26_6, hM26, hk, hlow⟩ K27 h27
          obtain ⟨frm, rfl⟩ : ∃ frm, f = (upd (upd (upd (upd (upd (upd frm 7 (.int .i64 (k : Nat))) 0 (x)) 3 (y3_)) 4 (.int .i64 ((cs.length : Int) - 1 - (j : Nat)))) 5 (.pointer (some ⟨b18, 0, none⟩))) 6 (.slice none 0 0)) := ⟨f, by rw [upd_self e26_7, upd_self e26_0, upd_self e26_3, upd_self e26_4, upd_self e26_5, upd_self e26_6]⟩
          clear e26_7 e26_0 e26_3 e26_4 e26_5 e26_6
          refine seq fun K28 h28 => ?_
          refine seq fun K29 h29 => ?_
          intro wd e1 e2 e3 e4
          have hd := Upd.same e1 e2 e3 e4 []
          have hM30 := hM26.pure hd
          clear e1 e2 e3 e4
          refine ⟨none, ?_⟩
          show vd _ _ _ _ _ _ _
          refine dq (v := .int .i64 (k : Nat)) (o_mv rfl) ?_
          refine dq (v := y3_) (o_mv rfl) ?_
          refine dq (v := .int .i64 (lc.length : Nat)) (o_lenR (hy3_.rd hM30 (i := 0) rfl) rfl rfl) ?_
          refine dq (v := .bool (decide (((k : Nat) : Int) < (lc.length : Nat)))) (o_bin rfl rfl rfl) ?_
          refine dq (v := .bool (decide (((k : Nat) : Int) < (lc.length : Nat)))) (o_mv rfl) ?_
          refine dsplitP rfl (fun c31 => ?_) (fun c31 => ?_)
          ·
            refine dqg rfl (v := y3_) (o_mv rfl) ?_
            refine dqg rfl (v := .int .i64 (k : Nat)) (o_mv rfl) ?_
            refine dgyes rfl rfl (dqp (m_idxS th0 (j := k) (hy3_.rd hM30 (i := 0) rfl) rfl rfl (by omega) fun b32 o32 hp32 => ?_))
            show vd _ _ _ _ _ _ _
            refine dqg rfl (v := .pointer (some ⟨b32, o32, none⟩)) (o_fa rfl rfl) ?_
            refine dqg rfl (v := .pointer (some ⟨b18, 0, none⟩)) (o_fa rfl rfl) ?_
            refine dqgyes rfl rfl ?_
            refine dqld rfl (trivial) (v := .int .i64 ((one (cs.getD (cs.length - 1 - j) 0) (cs.length - 1 - j)).w)) ((hM30.at (i := 1) (j := 0) rfl rfl).cell 0) ?_
            refine dgyesl rfl ?_
            refine dl (ld (v := .int .i64 ((lc.getD k th0).w)) rfl (hp32.get 0 rfl) ?_)
            refine ⟨rfl, ?_⟩
            refine dqg rfl (v := .bool (decide (((lc.getD k th0).w) ≤ ((one (cs.getD (cs.length - 1 - j) 0) (cs.length - 1 - j)).w)))) (o_bin rfl rfl rfl) ?_
            refine dq (v := .bool (decide (((lc.getD k th0).w) ≤ ((one (cs.getD (cs.length - 1 - j) 0) (cs.length - 1 - j)).w)))) (o_pickT rfl rfl) ?_
            refine h29 _ _ ?_
            clear h29
            refine cndP rfl (fun c33 => ?_) (fun c33 => ?_)
            ·
              refine h28 _ _ ?_
              clear h28
              refine stp (v := .int .i64 (k : Nat)) (o_mv rfl) ?_
              refine stp (v := .int .i64 ((k : Nat) + 1)) (o_bin rfl rfl (v_add64 (by constructor <;> omega))) ?_
              refine stp (v := .int .i64 ((k : Nat) + 1)) (o_mv rfl) ?_
              refine h27 (k + 1) _ _ ⟨by first | rfl | exact v_int (by omega) | exact v_int (by simp) | exact v_int (by simp; omega), rfl, rfl, by first | rfl | exact v_int (by omega) | exact v_int (by simp) | exact v_int (by simp; omega), rfl, rfl, hM30, by omega, fun q hq => by
                by_cases e : q = k
                · subst e; assumption
                · exact hlow q (by omega)⟩ (by (try dsimp only); omega)
            ·
              refine h25 _ _ ?_
              clear h25
              refine seq fun K34 h34 => ?_
              refine stp (v := .slice none 0 0) (o_mv rfl) ?_
              refine stp (v := y3_) (o_mv rfl) ?_
              refine stp (v := .int .i64 (k : Nat)) (o_mv rfl) ?_
              refine m_slcOS k (hy3_) rfl (by first | omega | (simp; done) | (simp; omega)) (⟨_, rfl⟩) trivial fun u35 hu35 => ?_
              have hM36 : Mem w [] wd [r3_, [⟨b18, 88, (pkC (one (cs.getD (cs.length - 1 - j) 0) (cs.length - 1 - j)))⟩], []] := hM30.addNil
              have hs36 : SlS pkC 257 88 (.slice none 0 0) [] [] := Sl.nil 257 88
              refine m_appS' (enc := pkC) hM36 (i := 2) rfl hs36 rfl rfl (hu35.rd hM36 (i := 0) rfl) (zcPk_len) (by first | omega | (simp; omega)) (by omega) fun v37 w37 r37 (hs37 : SlS pkC 257 88 v37 (lc.take k) r37) (hM37 : Mem w [] w37 [r3_, [⟨b18, 88, (pkC (one (cs.getD (cs.length - 1 - j) 0) (cs.length - 1 - j)))⟩], r37]) => ?_
              refine stp (v := v37) (o_mv rfl) ?_
              refine h34 _ _ ?_
              clear h34
              refine seq fun K38 h38 => ?_
              refine stp (v := v37) (o_mv rfl) ?_
              refine ldA (cs := (pkC (one (cs.getD (cs.length - 1 - j) 0) (cs.length - 1 - j)))) rfl (pkC_len _) (hM37.at (i := 1) (j := 0) rfl rfl).all ?_
              refine m_app1S (enc := pkC) (q := (one (cs.getD (cs.length - 1 - j) 0) (cs.length - 1 - j))) hM37 (i := 2) rfl hs37 rfl (by simp) (fill_big (zcPk_len) (pkC_len _)) (zcPk_len) (by first | omega | (simp; omega)) (by omega) fun v39 w39 r39 u39 (hs39 : SlS pkC 257 88 v39 ((lc.take k) ++ [(one (cs.getD (cs.length - 1 - j) 0) (cs.length - 1 - j))]) r39) (hM39 : Mem w [] w39 [r3_, [⟨b18, 88, (pkC (one (cs.getD (cs.length - 1 - j) 0) (cs.length - 1 - j)))⟩], r39]) => ?_
              refine stp (v := v39) (o_mv rfl) ?_
              refine h38 _ _ ?_
              clear h38
              refine seq fun K40 h40 => ?_
              refine stp (v := v39) (o_mv rfl) ?_
              refine stp (v := y3_) (o_mv rfl) ?_
              refine stp (v := .int .i64 (k : Nat)) (o_mv rfl) ?_
              refine m_slcES (enc := pkC) k lc.length (hy3_.rd hM39 (i := 0) rfl) rfl (by first | omega | (simp; done) | (simp; omega)) (by first | omega | (simp; done) | (simp; omega)) rfl ⟨_, rfl⟩ fun u41 hu41 => ?_
              refine m_appS' (enc := pkC) hM39 (i := 2) rfl hs39 rfl rfl (hu41) (zcPk_len) (by first | omega | (simp; omega)) (by omega) fun v42 w42 r42 (hs42 : SlS pkC 257 88 v42 (((lc.take k) ++ [(one (cs.getD (cs.length - 1 - j) 0) (cs.length - 1 - j))]) ++ ((lc.take lc.length).drop k)) r42) (hM42 : Mem w [] w42 [r3_, [⟨b18, 88, (pkC (one (cs.getD (cs.length - 1 - j) 0) (cs.length - 1 - j)))⟩], r42]) => ?_
              refine stp (v := v42) (o_mv rfl) ?_
              refine h40 _ _ ?_
              clear h40
              refine stp (v := v42) (o_mv rfl) ?_
              refine stp (v := v42) (o_mv rfl) ?_
              refine h11 _ _ ?_
              clear h11
              refine stp (v := .int .i64 ((cs.length : Int) - 1 - (j : Nat))) (o_mv rfl) ?_
              refine stp (v := .int .i64 (((cs.length : Int) - 1 - (j : Nat)) - 1)) (o_bin rfl rfl (v_sub64 (by constructor <;> omega))) ?_
              refine stp (v := .int .i64 (((cs.length : Int) - 1 - (j : Nat)) - 1)) (o_mv rfl) ?_
              refine h7 (j + 1, ((lc.take k) ++ [(one (cs.getD (cs.length - 1 - j) 0) (cs.length - 1 - j))]) ++ ((lc.take lc.length).drop k), v42, r42) _ _ ⟨rfl, by first | rfl | exact v_int (by omega) | exact v_int (by simp) | exact v_int (by simp; omega), rfl, hM42.keep (by simp), by omega, by rw [thsA_yes (by omega)]; exact (ins_at hp hs (thsA_new hl (by omega)) hk hlow (.inr (by assumption))).1, (ins_at hp hs (thsA_new hl (by omega)) hk hlow (.inr (by assumption))).2, by first | exact hs42 | simpa using hs42⟩ (by (try dsimp only); omega)
          ·
            refine dgno rfl (by simp) ?_
            refine dgno rfl (by simp) ?_
            refine dgno rfl (by simp) ?_
            refine dgno rfl (by simp) ?_
            refine dgno rfl (by simp) ?_
            refine dqgno rfl (by simp) ?_
            refine dgnol rfl (by simp) ?_
            refine dgno rfl (by simp) ?_
            refine dq (v := .bool false) (o_pickF rfl rfl) ?_
            refine h29 _ _ ?_
            clear h29
            refine cndF rfl ?_
            refine h25 _ _ ?_
            clear h25
            refine seq fun K43 h43 => ?_
            refine stp (v := .slice none 0 0) (o_mv rfl) ?_
            refine stp (v := y3_) (o_mv rfl) ?_
            refine stp (v := .int .i64 (k : Nat)) (o_mv rfl) ?_
            refine m_slcOS k (hy3_) rfl (by first | omega | (simp; done) | (simp; omega)) (⟨_, rfl⟩) trivial fun u44 hu44 => ?_
            have hM45 : Mem w [] wd [r3_, [⟨b18, 88, (pkC (one (cs.getD (cs.length - 1 - j) 0) (cs.length - 1 - j)))⟩], []] := hM30.addNil
            have hs45 : SlS pkC 257 88 (.slice none 0 0) [] [] := Sl.nil 257 88
            refine m_appS' (enc := pkC) hM45 (i := 2) rfl hs45 rfl rfl (hu44.rd hM45 (i := 0) rfl) (zcPk_len) (by first | omega | (simp; omega)) (by omega) fun v46 w46 r46 (hs46 : SlS pkC 257 88 v46 (lc.take k) r46) (hM46 : Mem w [] w46 [r3_, [⟨b18, 88, (pkC (one (cs.getD (cs.length - 1 - j) 0) (cs.length - 1 - j)))⟩], r46]) => ?_
            refine stp (v := v46) (o_mv rfl) ?_
            refine h43 _ _ ?_
            clear h43
            refine seq fun K47 h47 => ?_
            refine stp (v := v46) (o_mv rfl) ?_
            refine ldA (cs := (pkC (one (cs.getD (cs.length - 1 - j) 0) (cs.length - 1 - j)))) rfl (pkC_len _) (hM46.at (i := 1) (j := 0) rfl rfl).all ?_
            refine m_app1S (enc := pkC) (q := (one (cs.getD (cs.length - 1 - j) 0) (cs.length - 1 - j))) hM46 (i := 2) rfl hs46 rfl (by simp) (fill_big (zcPk_len) (pkC_len _)) (zcPk_len) (by first | omega | (simp; omega)) (by omega) fun v48 w48 r48 u48 (hs48 : SlS pkC 257 88 v48 ((lc.take k) ++ [(one (cs.getD (cs.length - 1 - j) 0) (cs.length - 1 - j))]) r48) (hM48 : Mem w [] w48 [r3_, [⟨b18, 88, (pkC (one (cs.getD (cs.length - 1 - j) 0) (cs.length - 1 - j)))⟩], r48]) => ?_
            refine stp (v := v48) (o_mv rfl) ?_
            refine h47 _ _ ?_
            clear h47
            refine seq fun K49 h49 => ?_
            refine stp (v := v48) (o_mv rfl) ?_
            refine stp (v := y3_) (o_mv rfl) ?_
            refine stp (v := .int .i64 (k : Nat)) (o_mv rfl) ?_
            refine m_slcES (enc := pkC) k lc.length (hy3_.rd hM48 (i := 0) rfl) rfl (by first | omega | (simp; done) | (simp; omega)) (by first | omega | (simp; done) | (simp; omega)) rfl ⟨_, rfl⟩ fun u50 hu50 => ?_
            refine m_appS' (enc := pkC) hM48 (i := 2) rfl hs48 rfl rfl (hu50) (zcPk_len) (by first | omega | (simp; omega)) (by omega) fun v51 w51 r51 (hs51 : SlS pkC 257 88 v51 (((lc.take k) ++ [(one (cs.getD (cs.length - 1 - j) 0) (cs.length - 1 - j))]) ++ ((lc.take lc.length).drop k)) r51) (hM51 : Mem w [] w51 [r3_, [⟨b18, 88, (pkC (one (cs.getD (cs.length - 1 - j) 0) (cs.length - 1 - j)))⟩], r51]) => ?_
            refine stp (v := v51) (o_mv rfl) ?_
            refine h49 _ _ ?_
            clear h49
            refine stp (v := v51) (o_mv rfl) ?_
            refine stp (v := v51) (o_mv rfl) ?_
            refine h11 _ _ ?_
            clear h11
            refine stp (v := .int .i64 ((cs.length : Int) - 1 - (j : Nat))) (o_mv rfl) ?_
            refine stp (v := .int .i64 (((cs.length : Int) - 1 - (j : Nat)) - 1)) (o_bin rfl rfl (v_sub64 (by constructor <;> omega))) ?_
            refine stp (v := .int .i64 (((cs.length : Int) - 1 - (j : Nat)) - 1)) (o_mv rfl) ?_
            refine h7 (j + 1, ((lc.take k) ++ [(one (cs.getD (cs.length - 1 - j) 0) (cs.length - 1 - j))]) ++ ((lc.take lc.length).drop k), v51, r51) _ _ ⟨rfl, by first | rfl | exact v_int (by omega) | exact v_int (by simp) | exact v_int (by simp; omega), rfl, hM51.keep (by simp), by omega, by rw [thsA_yes (by omega)]; exact (ins_at hp hs (thsA_new hl (by omega)) hk hlow (.inl (by omega))).1, (ins_at hp hs (thsA_new hl (by omega)) hk hlow (.inl (by omega))).2, by first | exact hs51 | simpa using hs51⟩ (by (try dsimp only); omega)
    ·
      refine h3 _ _ ?_
      clear h3
      refine seq fun K52 h52 => ?_
      refine stp (v := y3_) (o_mv rfl) ?_
      refine stp (v := y3_) (o_mv rfl) ?_
      refine h52 _ _ ?_
      clear h52
      refine ⟨y3_, rfl, ?_⟩
      have hje : j = cs.length := by omega
      have e : lc = thF cs := thF_eq hl (by rw [← hje] at *; exact hp) hs
      exact ⟨_, by rw [← e]; exact hy3_, hM6.keep (by simp)⟩

set_option maxHeartbeats 1000000 in
set_option maxRecDepth 100000 in
/-- winnowref4.paired -/
theorem paired_ok (y : Value) (row : List Th) (W : Int) (w : World) (hy : RdS pkC w y row) (hrl : row.length ≤ 512) (hW : W ≤ 1152921504606846976) (hw : wB W row) (ht : ∀ k, k < 256 → tot k row ≤ 255) : Calls Try.prog 56 [y].toArray w (Rt fun r w' => ∃ rs, SlS pkC 257 88 r (pairsL row) rs ∧ Mem w [] w' [rs]) := by
  have hM0 : Mem w [] w [] := Mem.nil w []
  refine calls_vc mixed Try.func56 rfl C56 (by simp [Try.ntmps56]) ?_
  refine seq fun K1 h1 => ?_
  refine stp (v := .slice none 0 0) (o_mv rfl) ?_
  refine h1 _ _ ?_
  clear h1
  refine seq fun K2 h2 => ?_
  refine stp (v := .slice none 0 0) (o_mv rfl) ?_
  refine h2 _ _ ?_
  clear h2
  refine seq fun K3 h3 => ?_
  refine seq fun K4 h4 => ?_
  refine stp (v := .int .i64 0) (o_mv rfl) ?_
  refine h4 _ _ ?_
  clear h4
  have hM5 : Mem w [] w [[]] := hM0.addNil
  have hs5 : SlS pkC 257 88 (.slice none 0 0) [] [] := Sl.nil 257 88
  refine lp (n := fun _ _ => False) (ι := (Nat) × (List Th) × (Value) × (List Ent)) (fun ⟨i, lo, y3_, r3_⟩ f w' => f 3 = y3_ ∧ f 4 = .int .i64 (i : Nat) ∧ f 0 = y ∧ Mem w [] w' [r3_] ∧ (i ≤ row.length + 1) ∧ (lo.length ≤ i) ∧ (lo ++ pairsL (row.drop i) = pairsL row) ∧ (SlS pkC 257 88 y3_ (lo) r3_)) (fun ⟨i, lo, y3_, r3_⟩ => row.length + 1 - i) (0, [], ((.slice none 0 0)), ([])) ?_ ?_
  · exact ⟨rfl, by first | rfl | exact v_int (by omega) | exact v_int (by simp) | exact v_int (by simp; omega), rfl, hM5, by omega, by simp, by rw [List.drop_zero, List.nil_append], by first | exact hs5 | simpa using hs5⟩
  · rintro ⟨i, lo, y3_, r3_⟩ f w6 ⟨e6_3, e6_4, e6_0, hM6, hi, hlo, hL, hy3_⟩ K7 h7
    obtain ⟨frm, rfl⟩ : ∃ frm, f = (upd (upd (upd frm 3 (y3_)) 4 (.int .i64 (i : Nat))) 0 (y)) := ⟨f, by rw [upd_self e6_3, upd_self e6_4, upd_self e6_0]⟩
    clear e6_3 e6_4 e6_0
    refine seq fun K8 h8 => ?_
    refine seq fun K9 h9 => ?_
    refine stp (v := .int .i64 (i : Nat)) (o_mv rfl) ?_
    refine stp (v := .int .i64 ((i : Nat) + 1)) (o_bin rfl rfl (v_add64 (by constructor <;> omega))) ?_
    refine stp (v := y) (o_mv rfl) ?_
    refine stp (v := .int .i64 (row.length : Nat)) (o_lenR (hy.upd hM6.upd) rfl rfl) ?_
    refine stp (v := .bool (decide (((i : Nat) + 1 : Int) < (row.length : Nat)))) (o_bin rfl rfl rfl) ?_
    refine h9 _ _ ?_
    clear h9
    refine cndP rfl (fun c10 => ?_) (fun c10 => ?_)
    ·
      refine h8 _ _ ?_
      clear h8
      refine seq fun K11 h11 => ?_
      refine seq fun K12 h12 => ?_
      intro wd e1 e2 e3 e4
      have hd := Upd.same e1 e2 e3 e4 []
      have hM13 := hM6.pure hd
      clear e1 e2 e3 e4
      refine ⟨(some [(blkV y)]), ?_⟩
      show vd _ _ _ _ _ _ _
      have hw1 := hw _ (getD_memG th0 (l := row) (i := i) (by omega))
      have hw2 := hw _ (getD_memG th0 (l := row) (i := i + 1) (by omega))
      refine dq (v := y) (o_mv rfl) ?_
      refine dq (v := .int .i64 (i : Nat)) (o_mv rfl) ?_
      refine dqp (m_idxS3 th0 (j := i) (hy.upd hM13.upd) (hy.upd hM13.upd) rfl rfl (by omega) fun b14 o14 hp14 hbb14 => ?_)
      show vd _ _ _ _ _ _ _
      subst hbb14
      refine dq (v := .pointer (some ⟨(blkV y), o14, none⟩)) (o_fa rfl rfl) ?_
      refine dq (v := y) (o_mv rfl) ?_
      refine dq (v := .int .i64 (i : Nat)) (o_mv rfl) ?_
      refine dq (v := .int .i64 ((i : Nat) + 1)) (o_bin rfl rfl (v_add64 (by constructor <;> omega))) ?_
      refine dqp (m_idxS3 th0 (j := (i + 1)) (hy.upd hM13.upd) (hy.upd hM13.upd) rfl (v_int (by omega)) (by omega) fun b15 o15 hp15 hbb15 => ?_)
      show vd _ _ _ _ _ _ _
      subst hbb15
      refine dq (v := .pointer (some ⟨(blkV y), o15, none⟩)) (o_fa rfl rfl) ?_
      refine dqld rfl (by simp [isHeld]) (v := .int .i64 ((row.getD (i + 1) th0).w)) (hp15.get 0 rfl) ?_
      refine dqld rfl (by simp [isHeld]) (v := .int .i64 ((row.getD i th0).w)) (hp14.get 0 rfl) ?_
      refine dq (v := .int .i64 (((row.getD i th0).w) + ((row.getD (i + 1) th0).w))) (o_bin rfl rfl (v_add64 (by constructor <;> omega))) ?_
      refine dq (v := .agg ((pkC (accP (row.getD i th0) (row.getD (i + 1) th0) 0)).toArray)) (o_bld2 (vs := [(0, 1, .int .i64 ((row.getD i th0).w + (row.getD (i + 1) th0).w))]) rfl accP_zero rfl) ?_
      refine dl (m_alU hM13 fun b16 w17 hup17 (hM17 : Mem w [] w17 [r3_, [⟨b16, 88, (List.replicate 257 (.int .i64 0))⟩]]) => ?_)
      have hh17 := held_upd (wr := wd) (bs := [(blkV y)]) hup17 (fun b hb => by
        simp only [List.mem_cons, List.not_mem_nil, or_false] at hb
        rw [hb]; exact ⟨Rd.blkV_ltS (hy.upd hM13.upd) (by omega), by simp⟩) (fun b hb => rfl)
      refine ⟨hh17, ?_⟩
      refine dl (m_stAU (l := (pkC (accP (row.getD i th0) (row.getD (i + 1) th0) 0))) hM17 (i := 1) rfl rfl rfl (by simp) (pkC_one _) (by simp) fun w18 hup18 hm18 => ?_)
      have hh18 := held_upd (wr := wd) (bs := [(blkV y)]) hup18 (fun b hb => by
        simp only [List.mem_cons, List.not_mem_nil, or_false] at hb
        rw [hb]; exact ⟨Rd.blkV_ltS (hy.upd hM17.upd) (by omega), hM17.old (i := 1) rfl (Rd.blkV_ltS hy (by omega))⟩) hh17
      refine ⟨hh18, ?_⟩
      have hM18 : Mem w [] w18 [r3_, [⟨b16, 88, (pkC (accP (row.getD i th0) (row.getD (i + 1) th0) 0))⟩]] := by
        have e : splice (List.replicate 257 (.int .i64 0)) 0 (pkC (accP (row.getD i th0) (row.getD (i + 1) th0) 0)) = (pkC (accP (row.getD i th0) (row.getD (i + 1) th0) 0)) := splice_full (by simp; first | done | (simp) | omega)
        first | (rw [e] at hm18; exact hm18) | (rw [← e]; exact hm18)
      refine h12 _ _ ?_
      clear h12
      refine seq fun K19 h19 => ?_
      refine seq fun K20 h20 => ?_
      refine stp (v := .int .i64 0) (o_mv rfl) ?_
      refine h20 _ _ ?_
      clear h20
      refine lp (n := fun _ _ => False) (ι := (Nat)) (fun k f w' => f 6 = .int .i64 (k : Nat) ∧ f 0 = y ∧ f 3 = y3_ ∧ f 4 = .int .i64 (i : Nat) ∧ f 5 = .pointer (some ⟨b16, 0, none⟩) ∧ Mem w [] w' [r3_, [⟨b16, 88, (pkC (accP (row.getD i th0) (row.getD (i + 1) th0) k))⟩]] ∧ (k ≤ 256)) (fun k => 256 - k) (0) ?_ ?_
      · exact ⟨by first | rfl | exact v_int (by omega) | exact v_int (by simp) | exact v_int (by simp; omega), rfl, rfl, by first | rfl | exact v_int (by omega) | exact v_int (by simp) | exact v_int (by simp; omega), rfl, hM18, by omega⟩
      · rintro k f w21 ⟨e21_6, e21_0, e21_3, e21_4, e21_5, hM21, hk⟩ K22 h22
        obtain ⟨frm, rfl⟩ : ∃ frm, f = (upd (upd (upd (upd (upd frm 6 (.int .i64 (k : Nat))) 0 (y)) 3 (y3_)) 4 (.int .i64 (i : Nat))) 5 (.pointer (some ⟨b16, 0, none⟩))) := ⟨f, by rw [upd_self e21_6, upd_self e21_0, upd_self e21_3, upd_self e21_4, upd_self e21_5]⟩
        clear e21_6 e21_0 e21_3 e21_4 e21_5
        refine seq fun K23 h23 => ?_
        refine seq fun K24 h24 => ?_
        refine stp (v := .int .i64 (k : Nat)) (o_mv rfl) ?_
        refine stp (v := .bool (decide (((k : Nat) : Int) < 256))) (o_bin rfl rfl rfl) ?_
        refine h24 _ _ ?_
        clear h24
        refine cndP rfl (fun c25 => ?_) (fun c25 => ?_)
        ·
          refine h23 _ _ ?_
          clear h23
          refine seq fun K26 h26 => ?_
          intro wd e1 e2 e3 e4
          have hd := Upd.same e1 e2 e3 e4 []
          have hM27 := hM21.pure hd
          clear e1 e2 e3 e4
          refine ⟨(some [(blkV y)]), ?_⟩
          show vd _ _ _ _ _ _ _
          refine dq (v := .int .i64 (k : Nat)) (o_mv rfl) ?_
          refine dq (v := y) (o_mv rfl) ?_
          refine dq (v := .int .i64 (i : Nat)) (o_mv rfl) ?_
          refine dq (v := .int .i64 (k : Nat)) (o_mv rfl) ?_
          refine dqp (m_idxS3 th0 (j := i) (hy.upd hM27.upd) (hy.upd hM27.upd) rfl rfl (by omega) fun b28 o28 hp28 hbb28 => ?_)
          show vd _ _ _ _ _ _ _
          subst hbb28
          refine dq (v := .pointer (some ⟨(blkV y), o28 + 1, none⟩)) (o_fa rfl rfl) ?_
          refine dq (v := .pointer (some ⟨(blkV y), o28 + 1 + k, none⟩)) (o_idxa rfl rfl (by omega) (v_ptr (by first | (rw [Int.toNat_natCast, Nat.mul_one]; done) | (simp; done) | omega))) ?_
          refine dq (v := y) (o_mv rfl) ?_
          refine dq (v := .int .i64 (i : Nat)) (o_mv rfl) ?_
          refine dq (v := .int .i64 ((i : Nat) + 1)) (o_bin rfl rfl (v_add64 (by constructor <;> omega))) ?_
          refine dq (v := .int .i64 (k : Nat)) (o_mv rfl) ?_
          refine dqp (m_idxS3 th0 (j := (i + 1)) (hy.upd hM27.upd) (hy.upd hM27.upd) rfl (v_int (by omega)) (by omega) fun b29 o29 hp29 hbb29 => ?_)
          show vd _ _ _ _ _ _ _
          subst hbb29
          refine dq (v := .pointer (some ⟨(blkV y), o29 + 1, none⟩)) (o_fa rfl rfl) ?_
          refine dq (v := .pointer (some ⟨(blkV y), o29 + 1 + k, none⟩)) (o_idxa rfl rfl (by omega) (v_ptr (by first | (rw [Int.toNat_natCast, Nat.mul_one]; done) | (simp; done) | omega))) ?_
          refine dq (v := .pointer (some ⟨b16, 1, none⟩)) (o_fa rfl rfl) ?_
          refine dqld rfl (by simp [isHeld]) (v := .int .i64 ((row.getD (i + 1) th0).f k : Nat)) ((by have h9 := hp29.get (1 + k) (pkC_cell (by omega)); rw [← Nat.add_assoc] at h9; exact h9)) ?_
          refine dl (ld (v := .int .i64 ((row.getD i th0).f k : Nat)) rfl ((by have h9 := hp28.get (1 + k) (pkC_cell (by omega)); rw [← Nat.add_assoc] at h9; exact h9)) ?_)
          refine ⟨(fun b hb => rfl), ?_⟩
          have h9 := two_tot (row := row) (i := i) (by omega) k
          have h8 := ht k (by omega)
          refine dq (v := .int .i64 ((row.getD i th0).f k + (row.getD (i + 1) th0).f k : Nat)) (o_bin rfl rfl ((v_add64 (by omega)).trans (v_int (by omega)))) ?_
          refine dq (v := .pointer (some ⟨b16, 1 + k, none⟩)) (o_idxa rfl rfl (by omega) (v_ptr (by first | (rw [Int.toNat_natCast, Nat.mul_one]; done) | (simp; done) | omega))) ?_
          refine dl (m_stU (v := .int .i64 ((row.getD i th0).f k + (row.getD (i + 1) th0).f k : Nat)) hM27 (i := 1) rfl rfl rfl rfl (by rw [pkC_len]; omega) fun w30 hup30 hm30 => ?_)
          have hh30 := held_upd (wr := wd) (bs := [(blkV y)]) hup30 (fun b hb => by
            simp only [List.mem_cons, List.not_mem_nil, or_false] at hb
            rw [hb]; exact ⟨Rd.blkV_ltS (hy.upd hM27.upd) (by omega), hM27.old (i := 1) rfl (Rd.blkV_ltS hy (by omega))⟩) (fun b hb => rfl)
          refine ⟨hh30, ?_⟩
          have hM30 : Mem w [] w30 [r3_, [⟨b16, 88, (pkC (accP (row.getD i th0) (row.getD (i + 1) th0) (k + 1)))⟩]] := by
            have e : (pkC (accP (row.getD i th0) (row.getD (i + 1) th0) k)).set (1 + k) (.int .i64 ((row.getD i th0).f k + (row.getD (i + 1) th0).f k : Nat)) = (pkC (accP (row.getD i th0) (row.getD (i + 1) th0) (k + 1))) := accP_set (by omega)
            rw [← e]; exact hm30
          refine h26 _ _ ?_
          clear h26
          refine stp (v := .int .i64 (k : Nat)) (o_mv rfl) ?_
          refine stp (v := .int .i64 ((k : Nat) + 1)) (o_bin rfl rfl (v_add64 (by constructor <;> omega))) ?_
          refine stp (v := .int .i64 ((k : Nat) + 1)) (o_mv rfl) ?_
          refine h22 (k + 1) _ _ ⟨by first | rfl | exact v_int (by omega) | exact v_int (by simp) | exact v_int (by simp; omega), rfl, rfl, by first | rfl | exact v_int (by omega) | exact v_int (by simp) | exact v_int (by simp; omega), rfl, hM30, by omega⟩ (by (try dsimp only); omega)
        ·
          refine h19 _ _ ?_
          clear h19
          have hke : k = 256 := by omega
          refine stp (v := y3_) (o_mv rfl) ?_
          refine ldA (cs := (pkC (accP (row.getD i th0) (row.getD (i + 1) th0) k))) rfl (pkC_len _) (hM21.at (i := 1) (j := 0) rfl rfl).all ?_
          refine m_app1S (enc := pkC) (q := (bothT (row.getD i th0) (row.getD (i + 1) th0))) hM21 (i := 0) rfl hy3_ rfl (by simp) ((fill_big zcPk_len (pkC_len _)).trans (by rw [hke, accP_end])) (zcPk_len) (by first | omega | (simp; omega)) (by omega) fun v31 w31 r31 u31 (hs31 : SlS pkC 257 88 v31 (lo ++ [(bothT (row.getD i th0) (row.getD (i + 1) th0))]) r31) (hM31 : Mem w [] w31 [r31, [⟨b16, 88, (pkC (accP (row.getD i th0) (row.getD (i + 1) th0) k))⟩]]) => ?_
          refine stp (v := v31) (o_mv rfl) ?_
          refine h11 _ _ ?_
          clear h11
          refine stp (v := .int .i64 (i : Nat)) (o_mv rfl) ?_
          refine stp (v := .int .i64 ((i : Nat) + 2)) (o_bin rfl rfl (v_add64 (by constructor <;> omega))) ?_
          refine stp (v := .int .i64 ((i : Nat) + 2)) (o_mv rfl) ?_
          refine h7 (i + 2, lo ++ [(bothT (row.getD i th0) (row.getD (i + 1) th0))], v31, r31) _ _ ⟨rfl, by first | rfl | exact v_int (by omega) | exact v_int (by simp) | exact v_int (by simp; omega), rfl, hM31.keep (by simp), by omega, by rw [List.length_append]; simp only [List.length_cons, List.length_nil]; omega, by rw [List.append_assoc, List.singleton_append, ← pairs_drop (by omega)]; exact hL, by first | exact hs31 | simpa using hs31⟩ (by (try dsimp only); omega)
    ·
      refine h3 _ _ ?_
      clear h3
      refine seq fun K32 h32 => ?_
      refine stp (v := y3_) (o_mv rfl) ?_
      refine stp (v := y3_) (o_mv rfl) ?_
      refine h32 _ _ ?_
      clear h32
      refine ⟨y3_, rfl, ?_⟩
      rw [pairs_end (by omega), List.append_nil] at hL
      exact ⟨_, by rw [← hL]; exact hy3_, hM6.keep (by simp)⟩

set_option maxHeartbeats 1000000 in
set_option maxRecDepth 100000 in
/-- winnowref4.merged -/
theorem merged_ok (x y : Value) (a b : List Th) (w : World) (hx : RdS pkC w x a) (hy : RdS pkC w y b) (hal : a.length ≤ 512) (hbl : b.length ≤ 512) : Calls Try.prog 55 [x, y].toArray w (Rt fun r w' => ∃ rs, SlS pkC 257 88 r (mergeL a b) rs ∧ Mem w [] w' [rs]) := by
  have hM0 : Mem w [] w [] := Mem.nil w []
  refine calls_vc mixed Try.func55 rfl C55 (by simp [Try.ntmps55]) ?_
  refine seq fun K1 h1 => ?_
  refine stp (v := .slice none 0 0) (o_mv rfl) ?_
  refine h1 _ _ ?_
  clear h1
  refine seq fun K2 h2 => ?_
  refine stp (v := .slice none 0 0) (o_mv rfl) ?_
  refine h2 _ _ ?_
  clear h2
  refine seq fun K3 h3 => ?_
  refine stp (v := .int .i64 0) (o_mv rfl) ?_
  refine h3 _ _ ?_
  clear h3
  refine seq fun K4 h4 => ?_
  refine seq fun K5 h5 => ?_
  refine stp (v := .int .i64 0) (o_mv rfl) ?_
  refine h5 _ _ ?_
  clear h5
  have hM6 : Mem w [] w [[]] := hM0.addNil
  have hs6 : SlS pkC 257 88 (.slice none 0 0) [] [] := Sl.nil 257 88
  refine lp (n := fun _ _ => False) (ι := (Nat) × (Nat) × (List Th) × (Value) × (List Ent)) (fun ⟨i, k, lo, y5_, r5_⟩ f w' => f 5 = y5_ ∧ f 6 = .int .i64 (i : Nat) ∧ f 7 = .int .i64 (k : Nat) ∧ f 0 = x ∧ f 1 = y ∧ Mem w [] w' [r5_] ∧ (i ≤ a.length) ∧ (k ≤ b.length) ∧ (lo.length = i + k) ∧ (lo ++ mergeL (a.drop i) (b.drop k) = mergeL a b) ∧ (SlS pkC 257 88 y5_ (lo) r5_)) (fun ⟨i, k, lo, y5_, r5_⟩ => b.length - k) (0, 0, [], ((.slice none 0 0)), ([])) ?_ ?_
  · exact ⟨rfl, by first | rfl | exact v_int (by omega) | exact v_int (by simp) | exact v_int (by simp; omega), by first | rfl | exact v_int (by omega) | exact v_int (by simp) | exact v_int (by simp; omega), rfl, rfl, hM6, by omega, by omega, rfl, by rw [List.drop_zero, List.drop_zero, List.nil_append], by first | exact hs6 | simpa using hs6⟩
  · rintro ⟨i, k, lo, y5_, r5_⟩ f w7 ⟨e7_5, e7_6, e7_7, e7_0, e7_1, hM7, hi, hk, hlo, hL, hy5_⟩ K8 h8
    obtain ⟨frm, rfl⟩ : ∃ frm, f = (upd (upd (upd (upd (upd frm 5 (y5_)) 6 (.int .i64 (i : Nat))) 7 (.int .i64 (k : Nat))) 0 (x)) 1 (y)) := ⟨f, by rw [upd_self e7_5, upd_self e7_6, upd_self e7_7, upd_self e7_0, upd_self e7_1]⟩
    clear e7_5 e7_6 e7_7 e7_0 e7_1
    refine seq fun K9 h9 => ?_
    refine seq fun K10 h10 => ?_
    refine stp (v := .int .i64 (k : Nat)) (o_mv rfl) ?_
    refine stp (v := y) (o_mv rfl) ?_
    refine stp (v := .int .i64 (b.length : Nat)) (o_lenR (hy.upd hM7.upd) rfl rfl) ?_
    refine stp (v := .bool (decide (((k : Nat) : Int) < (b.length : Nat)))) (o_bin rfl rfl rfl) ?_
    refine h10 _ _ ?_
    clear h10
    refine cndP rfl (fun c11 => ?_) (fun c11 => ?_)
    ·
      refine h9 _ _ ?_
      clear h9
      refine seq fun K12 h12 => ?_
      refine seq fun K13 h13 => ?_
      refine lp (n := fun _ _ => False) (ι := (Nat) × (List Th) × (Value) × (List Ent)) (fun ⟨i2, l2, y5_, r5_⟩ f w' => f 5 = y5_ ∧ f 6 = .int .i64 (i2 : Nat) ∧ f 0 = x ∧ f 1 = y ∧ f 7 = .int .i64 (k : Nat) ∧ Mem w [] w' [r5_] ∧ (i2 ≤ a.length) ∧ (l2.length = i2 + k) ∧ (l2 ++ mergeL (a.drop i2) (b.getD k th0 :: b.drop (k + 1)) = mergeL a b) ∧ (SlS pkC 257 88 y5_ (l2) r5_)) (fun ⟨i2, l2, y5_, r5_⟩ => a.length - i2) (i, lo, y5_, r5_) ?_ ?_
      · exact ⟨rfl, by first | rfl | exact v_int (by omega) | exact v_int (by simp) | exact v_int (by simp; omega), rfl, rfl, by first | rfl | exact v_int (by omega) | exact v_int (by simp) | exact v_int (by simp; omega), hM7, hi, hlo, by rw [← dropG th0 (by omega)]; exact hL, by first | exact hy5_ | simpa using hy5_⟩
      · rintro ⟨i2, l2, y5_, r5_⟩ f w14 ⟨e14_5, e14_6, e14_0, e14_1, e14_7, hM14, hi2, hl2, hL2, hy5_⟩ K15 h15
        obtain ⟨frm, rfl⟩ : ∃ frm, f = (upd (upd (upd (upd (upd frm 5 (y5_)) 6 (.int .i64 (i2 : Nat))) 0 (x)) 1 (y)) 7 (.int .i64 (k : Nat))) := ⟨f, by rw [upd_self e14_5, upd_self e14_6, upd_self e14_0, upd_self e14_1, upd_self e14_7]⟩
        clear e14_5 e14_6 e14_0 e14_1 e14_7
        refine seq fun K16 h16 => ?_
        refine seq fun K17 h17 => ?_
        intro wd e1 e2 e3 e4
        have hd := Upd.same e1 e2 e3 e4 []
        have hM18 := hM14.pure hd
        clear e1 e2 e3 e4
        refine ⟨none, ?_⟩
        show vd _ _ _ _ _ _ _
        refine dq (v := .int .i64 (i2 : Nat)) (o_mv rfl) ?_
        refine dq (v := x) (o_mv rfl) ?_
        refine dq (v := .int .i64 (a.length : Nat)) (o_lenR (hx.upd hM18.upd) rfl rfl) ?_
        refine dq (v := .bool (decide (((i2 : Nat) : Int) < (a.length : Nat)))) (o_bin rfl rfl rfl) ?_
        refine dq (v := .bool (decide (((i2 : Nat) : Int) < (a.length : Nat)))) (o_mv rfl) ?_
        refine dsplitP rfl (fun c19 => ?_) (fun c19 => ?_)
        ·
          refine dqg rfl (v := x) (o_mv rfl) ?_
          refine dqg rfl (v := .int .i64 (i2 : Nat)) (o_mv rfl) ?_
          refine dgyes rfl rfl (dqp (m_idxS th0 (j := i2) (hx.upd hM18.upd) rfl rfl (by omega) fun b20 o20 hp20 => ?_))
          show vd _ _ _ _ _ _ _
          refine dqg rfl (v := .pointer (some ⟨b20, o20, none⟩)) (o_fa rfl rfl) ?_
          refine dqg rfl (v := y) (o_mv rfl) ?_
          refine dqg rfl (v := .int .i64 (k : Nat)) (o_mv rfl) ?_
          refine dgyes rfl rfl (dqp (m_idxS th0 (j := k) (hy.upd hM18.upd) rfl rfl (by omega) fun b21 o21 hp21 => ?_))
          show vd _ _ _ _ _ _ _
          refine dqg rfl (v := .pointer (some ⟨b21, o21, none⟩)) (o_fa rfl rfl) ?_
          refine dqgyes rfl rfl ?_
          refine dqld rfl (trivial) (v := .int .i64 ((b.getD k th0).w)) (hp21.get 0 rfl) ?_
          refine dgyesl rfl ?_
          refine dl (ld (v := .int .i64 ((a.getD i2 th0).w)) rfl (hp20.get 0 rfl) ?_)
          refine ⟨rfl, ?_⟩
          refine dqg rfl (v := .bool (decide (((a.getD i2 th0).w) ≤ ((b.getD k th0).w)))) (o_bin rfl rfl rfl) ?_
          refine dq (v := .bool (decide (((a.getD i2 th0).w) ≤ ((b.getD k th0).w)))) (o_pickT rfl rfl) ?_
          refine h17 _ _ ?_
          clear h17
          refine cndP rfl (fun c22 => ?_) (fun c22 => ?_)
          ·
            refine h16 _ _ ?_
            clear h16
            refine seq fun K23 h23 => ?_
            refine stp (v := y5_) (o_mv rfl) ?_
            refine stp (v := x) (o_mv rfl) ?_
            refine stp (v := .int .i64 (i2 : Nat)) (o_mv rfl) ?_
            refine m_idxS th0 (j := i2) (hx.upd hM18.upd) rfl rfl (by omega) fun b24 o24 hp24 => ?_
            refine ldA (cs := pkC (a.getD i2 th0)) rfl (pkC_len _) (hp24.all) ?_
            refine m_app1S (enc := pkC) (q := a.getD i2 th0) hM18 (i := 0) rfl hy5_ rfl (by simp) (fill_big (zcPk_len) (pkC_len _)) (zcPk_len) (by first | omega | (simp; omega)) (by omega) fun v25 w25 r25 u25 (hs25 : SlS pkC 257 88 v25 (l2 ++ [a.getD i2 th0]) r25) (hM25 : Mem w [] w25 [r25]) => ?_
            refine stp (v := v25) (o_mv rfl) ?_
            refine h23 _ _ ?_
            clear h23
            refine stp (v := .int .i64 (i2 : Nat)) (o_mv rfl) ?_
            refine stp (v := .int .i64 ((i2 : Nat) + 1)) (o_bin rfl rfl (v_add64 (by constructor <;> omega))) ?_
            refine stp (v := .int .i64 ((i2 : Nat) + 1)) (o_mv rfl) ?_
            refine h15 (i2 + 1, l2 ++ [a.getD i2 th0], v25, r25) _ _ ⟨rfl, by first | rfl | exact v_int (by omega) | exact v_int (by simp) | exact v_int (by simp; omega), rfl, rfl, by first | rfl | exact v_int (by omega) | exact v_int (by simp) | exact v_int (by simp; omega), hM25.keep (by simp), by omega, by rw [List.length_append]; simp only [List.length_cons, List.length_nil]; omega, by rw [List.append_assoc, List.singleton_append]; rw [dropG th0 (by omega), mergeL_le (by assumption)] at hL2; exact hL2, by first | exact hs25 | simpa using hs25⟩ (by (try dsimp only); omega)
          ·
            refine h13 _ _ ?_
            clear h13
            refine stp (v := y5_) (o_mv rfl) ?_
            refine stp (v := y) (o_mv rfl) ?_
            refine stp (v := .int .i64 (k : Nat)) (o_mv rfl) ?_
            refine m_idxS th0 (j := k) (hy.upd hM18.upd) rfl rfl (by omega) fun b26 o26 hp26 => ?_
            refine ldA (cs := pkC (b.getD k th0)) rfl (pkC_len _) (hp26.all) ?_
            refine m_app1S (enc := pkC) (q := b.getD k th0) hM18 (i := 0) rfl hy5_ rfl (by simp) (fill_big (zcPk_len) (pkC_len _)) (zcPk_len) (by first | omega | (simp; omega)) (by omega) fun v27 w27 r27 u27 (hs27 : SlS pkC 257 88 v27 (l2 ++ [b.getD k th0]) r27) (hM27 : Mem w [] w27 [r27]) => ?_
            refine stp (v := v27) (o_mv rfl) ?_
            refine h12 _ _ ?_
            clear h12
            refine stp (v := .int .i64 (k : Nat)) (o_mv rfl) ?_
            refine stp (v := .int .i64 ((k : Nat) + 1)) (o_bin rfl rfl (v_add64 (by constructor <;> omega))) ?_
            refine stp (v := .int .i64 ((k : Nat) + 1)) (o_mv rfl) ?_
            refine h8 (i2, k + 1, l2 ++ [b.getD k th0], v27, r27) _ _ ⟨rfl, by first | rfl | exact v_int (by omega) | exact v_int (by simp) | exact v_int (by simp; omega), by first | rfl | exact v_int (by omega) | exact v_int (by simp) | exact v_int (by simp; omega), rfl, rfl, hM27.keep (by simp), hi2, by omega, by rw [List.length_append]; simp only [List.length_cons, List.length_nil]; omega, by rw [List.append_assoc, List.singleton_append]; rw [merge_F (.inr (by rw [dropG th0 (by omega)]; assumption))] at hL2; exact hL2, by first | exact hs27 | simpa using hs27⟩ (by (try dsimp only); omega)
        ·
          refine dgno rfl (by simp) ?_
          refine dgno rfl (by simp) ?_
          refine dgno rfl (by simp) ?_
          refine dgno rfl (by simp) ?_
          refine dgno rfl (by simp) ?_
          refine dgno rfl (by simp) ?_
          refine dgno rfl (by simp) ?_
          refine dgno rfl (by simp) ?_
          refine dqgno rfl (by simp) ?_
          refine dgnol rfl (by simp) ?_
          refine dgno rfl (by simp) ?_
          refine dq (v := .bool false) (o_pickF rfl rfl) ?_
          refine h17 _ _ ?_
          clear h17
          refine cndF rfl ?_
          refine h13 _ _ ?_
          clear h13
          refine stp (v := y5_) (o_mv rfl) ?_
          refine stp (v := y) (o_mv rfl) ?_
          refine stp (v := .int .i64 (k : Nat)) (o_mv rfl) ?_
          refine m_idxS th0 (j := k) (hy.upd hM18.upd) rfl rfl (by omega) fun b28 o28 hp28 => ?_
          refine ldA (cs := pkC (b.getD k th0)) rfl (pkC_len _) (hp28.all) ?_
          refine m_app1S (enc := pkC) (q := b.getD k th0) hM18 (i := 0) rfl hy5_ rfl (by simp) (fill_big (zcPk_len) (pkC_len _)) (zcPk_len) (by first | omega | (simp; omega)) (by omega) fun v29 w29 r29 u29 (hs29 : SlS pkC 257 88 v29 (l2 ++ [b.getD k th0]) r29) (hM29 : Mem w [] w29 [r29]) => ?_
          refine stp (v := v29) (o_mv rfl) ?_
          refine h12 _ _ ?_
          clear h12
          refine stp (v := .int .i64 (k : Nat)) (o_mv rfl) ?_
          refine stp (v := .int .i64 ((k : Nat) + 1)) (o_bin rfl rfl (v_add64 (by constructor <;> omega))) ?_
          refine stp (v := .int .i64 ((k : Nat) + 1)) (o_mv rfl) ?_
          refine h8 (i2, k + 1, l2 ++ [b.getD k th0], v29, r29) _ _ ⟨rfl, by first | rfl | exact v_int (by omega) | exact v_int (by simp) | exact v_int (by simp; omega), by first | rfl | exact v_int (by omega) | exact v_int (by simp) | exact v_int (by simp; omega), rfl, rfl, hM29.keep (by simp), hi2, by omega, by rw [List.length_append]; simp only [List.length_cons, List.length_nil]; omega, by rw [List.append_assoc, List.singleton_append]; rw [merge_F (.inl (by rw [List.length_drop]; omega))] at hL2; exact hL2, by first | exact hs29 | simpa using hs29⟩ (by (try dsimp only); omega)
    ·
      refine h4 _ _ ?_
      clear h4
      refine seq fun K30 h30 => ?_
      refine stp (v := y5_) (o_mv rfl) ?_
      refine stp (v := x) (o_mv rfl) ?_
      refine stp (v := .int .i64 (i : Nat)) (o_mv rfl) ?_
      refine m_slcES (enc := pkC) i a.length (hx) rfl (by first | omega | (simp; done) | (simp; omega)) (by first | omega | (simp; done) | (simp; omega)) rfl ⟨_, rfl⟩ fun u31 hu31 => ?_
      refine m_appS' (enc := pkC) hM7 (i := 0) rfl hy5_ rfl rfl ((hu31.upd hM7.upd)) (zcPk_len) (by first | omega | (simp; omega)) (by omega) fun v32 w32 r32 (hs32 : SlS pkC 257 88 v32 (lo ++ ((a.take a.length).drop i)) r32) (hM32 : Mem w [] w32 [r32]) => ?_
      refine stp (v := v32) (o_mv rfl) ?_
      refine h30 _ _ ?_
      clear h30
      refine ⟨v32, rfl, ?_⟩
      rw [show b.drop k = [] from List.drop_eq_nil_of_le (by omega), mergeL_nilR] at hL
      exact ⟨_, by rw [← hL]; simpa using hs32, hM32.keep (by simp)⟩
