/- Tokens and Decode, the reference's. -/
import Derived.Test.YteanplpnhlgjeaaT8
namespace Go.Proofs.Yteanplpnhlgjeaa.E
open Go
/-- the reference's number at a place, and the place behind it -/
def numR (b : List UInt8) (a : Nat) : Int := if nE b a = 0 ∧ nV b a ≤ 65536 then (nV b a : Nat) else -1
def numN (b : List UInt8) (a : Nat) : Nat := if nE b a = 0 ∧ nV b a ≤ 65536 then a + nK b a else a
theorem numR_no {b : List UInt8} {a : Nat} (h : ¬ (nE b a = 0 ∧ nV b a ≤ 65536)) : numR b a = -1 ∧ numN b a = a := by unfold numR numN; rw [if_neg h, if_neg h]; exact ⟨rfl, rfl⟩
theorem numR_yes {b : List UInt8} {a : Nat} (h : nE b a = 0) (h2 : nV b a ≤ 65536) : numR b a = (nV b a : Nat) ∧ numN b a = a + nK b a := by unfold numR numN; rw [if_pos ⟨h, h2⟩, if_pos ⟨h, h2⟩]; exact ⟨rfl, rfl⟩
theorem numR_cases {b : List UInt8} {a : Nat} (ha : a ≤ b.length) : (numR b a < 0 ∧ ¬ (nE b a = 0 ∧ nV b a ≤ 65536) ∧ numN b a = a) ∨ (0 ≤ numR b a ∧ nE b a = 0 ∧ nV b a ≤ 65536 ∧ numR b a = (nV b a : Nat) ∧ numN b a = a + nK b a ∧ a + nK b a ≤ b.length) := by
  by_cases c : nE b a = 0 ∧ nV b a ≤ 65536
  · have := numR_yes c.1 c.2
    exact .inr ⟨by omega, c.1, c.2, this.1, this.2, nK_le ha⟩
  · have := numR_no c
    exact .inl ⟨by omega, c, this.2⟩

/-- winnowref3.number -/
theorem number_ok (x : Value) (b : List UInt8) (a : Nat) (w : World) (hx : RdE byteV w x b) (hl : b.length ≤ 140737488355328) (ha : a ≤ b.length) : Calls Try.prog 41 [x, .int .i64 ((a : Nat) : Int)].toArray w (Rt fun r w' => r = .tuple [.int .i64 (numR b a), .int .i64 ((numN b a : Nat) : Int)].toArray ∧ Upd [] w w') := by
  have hM0 : Mem w [] w [] := Mem.nil w []
  have hkk := nK_le ha
  unfold nK at hkk
  refine calls_vc mixed Try.func41 rfl C41 (by simp [Try.ntmps41]) ?_
  refine seq fun K1 h1 => ?_
  refine stp (v := .int .i64 0) (o_mv rfl) ?_
  refine stp (v := .int .i64 0) (o_mv rfl) ?_
  refine h1 _ _ ?_
  clear h1
  refine seq fun K2 h2 => ?_
  refine stp (v := x) (o_mv rfl) ?_
  refine stp (v := .int .i64 (a : Nat)) (o_mv rfl) ?_
  refine m_slcE a b.length (hx) rfl (by omega) (by omega) rfl ⟨_, rfl⟩ fun u3 hu3 => ?_
  have hu3' : RdE byteV w u3 (b.drop a) := by
    have e : (b.take b.length).drop a = (b.drop a) := by rw [List.take_length]
    rw [e] at hu3; exact hu3
  refine m_call (refGet_ok _ (b.drop a) w ((hu3'.upd hM0.upd)) (by first | omega | (simp; done) | (simp; omega))) rfl fun v4 w4 ⟨hr4, hu4⟩ => ?_
  have hM4 : Mem w [] w4 [] := hM0.pure hu4
  subst hr4
  refine stp (v := .tuple [.int .i64 ((get (b.drop a)).1 : Nat), .int .i64 ((get (b.drop a)).2.1 : Nat), .int .i64 ((get (b.drop a)).2.2)].toArray) (o_mv rfl) ?_
  refine stp (v := .int .i64 ((get (b.drop a)).1 : Nat)) (o_ext rfl rfl) ?_
  refine stp (v := .int .i64 ((get (b.drop a)).2.1 : Nat)) (o_ext rfl rfl) ?_
  refine stp (v := .int .i64 ((get (b.drop a)).2.2)) (o_ext rfl rfl) ?_
  refine stp (v := .int .i64 ((get (b.drop a)).1 : Nat)) (o_mv rfl) ?_
  refine stp (v := .int .i64 ((get (b.drop a)).2.1 : Nat)) (o_mv rfl) ?_
  refine stp (v := .int .i64 ((get (b.drop a)).2.2)) (o_mv rfl) ?_
  refine h2 _ _ ?_
  clear h2
  refine seq fun K5 h5 => ?_
  refine seq fun K6 h6 => ?_
  refine stp (v := .int .i64 ((get (b.drop a)).2.2)) (o_mv rfl) ?_
  refine stp (v := .bool (decide (¬ ((get (b.drop a)).2.2) = 0))) (o_bin rfl rfl v_neq) ?_
  refine stp (v := .bool (decide (¬ ((get (b.drop a)).2.2) = 0))) (o_mv rfl) ?_
  refine splitP rfl (fun c7 => ?_) (fun c7 => ?_)
  ·
    refine gno rfl (by simp) ?_
    refine gno rfl (by simp) ?_
    refine stp (v := .bool true) (o_pickT rfl rfl) ?_
    refine h6 _ _ ?_
    clear h6
    refine cndT rfl ?_
    refine seq fun K8 h8 => ?_
    refine stp (v := .int .i64 (a : Nat)) (o_mv rfl) ?_
    refine stp (v := .int .i64 (-1)) (o_mv rfl) ?_
    refine stp (v := .int .i64 (a : Nat)) (o_mv rfl) ?_
    refine h8 _ _ ?_
    clear h8
    refine ⟨(.tuple [.int .i64 (-1), .int .i64 (a : Nat)].toArray), rfl, ?_⟩
    have h := numR_no (b := b) (a := a) (by unfold nE nV; omega)
    exact ⟨by rw [h.1, h.2], hM4.upd⟩
  ·
    refine stg rfl (v := .int .i64 ((get (b.drop a)).1 : Nat)) (o_mv rfl) ?_
    refine stg rfl (v := .bool (decide ((65536 : Int) < (((get (b.drop a)).1 : Nat) : Int)))) (o_bin rfl rfl rfl) ?_
    refine stp (v := .bool (decide ((65536 : Int) < (((get (b.drop a)).1 : Nat) : Int)))) (o_pickF rfl rfl) ?_
    refine h6 _ _ ?_
    clear h6
    refine cndP rfl (fun c9 => ?_) (fun c9 => ?_)
    ·
      refine seq fun K10 h10 => ?_
      refine stp (v := .int .i64 (a : Nat)) (o_mv rfl) ?_
      refine stp (v := .int .i64 (-1)) (o_mv rfl) ?_
      refine stp (v := .int .i64 (a : Nat)) (o_mv rfl) ?_
      refine h10 _ _ ?_
      clear h10
      refine ⟨(.tuple [.int .i64 (-1), .int .i64 (a : Nat)].toArray), rfl, ?_⟩
      have h := numR_no (b := b) (a := a) (by unfold nE nV; omega)
      exact ⟨by rw [h.1, h.2], hM4.upd⟩
    ·
      refine h5 _ _ ?_
      clear h5
      refine seq fun K11 h11 => ?_
      refine stp (v := .int .i64 ((get (b.drop a)).1 : Nat)) (o_mv rfl) ?_
      refine stp (v := .int .i64 (a : Nat)) (o_mv rfl) ?_
      refine stp (v := .int .i64 ((get (b.drop a)).2.1 : Nat)) (o_mv rfl) ?_
      refine stp (v := .int .i64 ((a : Nat) + ((get (b.drop a)).2.1 : Nat))) (o_bin rfl rfl (v_add64 (by constructor <;> omega))) ?_
      refine stp (v := .int .i64 ((get (b.drop a)).1 : Nat)) (o_mv rfl) ?_
      refine stp (v := .int .i64 ((a : Nat) + ((get (b.drop a)).2.1 : Nat))) (o_mv rfl) ?_
      refine h11 _ _ ?_
      clear h11
      refine ⟨(.tuple [.int .i64 ((get (b.drop a)).1 : Nat), .int .i64 ((a : Nat) + ((get (b.drop a)).2.1 : Nat))].toArray), rfl, ?_⟩
      have h := numR_yes (b := b) (a := a) (by unfold nE; omega) (by unfold nV; omega)
      exact ⟨by rw [h.1, h.2]; rfl, hM4.upd⟩

theorem number_okN (x : Value) (b : List UInt8) (a a' : Nat) (w : World) (hx : RdE byteV w x b) (hl : b.length ≤ 140737488355328) (ha : a ≤ b.length) (he : a' = a) : Calls Try.prog 41 [x, .int .i64 ((a' : Nat) : Int)].toArray w (Rt fun r w' => r = .tuple [.int .i64 (numR b a), .int .i64 ((numN b a : Nat) : Int)].toArray ∧ Upd [] w w') := by
  subst he; exact number_ok x b a' w hx hl ha
theorem okT_conv {t : Pk} {m m' : Int} {l l' : Bool} (hn : ¬ noneT t) (hm : m = m') (h : okT t m l) : okT t m' l' := by
  subst hm; exact (okT_some hn).2 ((okT_some hn).1 h)
def RdJ (b : List UInt8) (n : Nat) (toks : List Pk) (k a made : Nat) : Prop := RdI b n toks k a made ∨ (rdF b n = none ∧ made = n ∧ ¬ a = b.length ∧ a ≤ b.length)
section
variable {b : List UInt8} {n k a made : Nat} {toks : List Pk}
theorem RdJ.m (h : RdJ b n toks k a made) : made ≤ n := by
  rcases h with h | h
  · exact h.m
  · omega
theorem RdJ.al (h : RdJ b n toks k a made) : a ≤ b.length := by
  rcases h with h | h
  · exact h.a
  · exact h.2.2.2
theorem RdJ.lt (h : RdJ b n toks k a made) (hm : made < n) : RdI b n toks k a made := by
  rcases h with h | h
  · exact h
  · omega
theorem RdJ.no (h : RdJ b n toks k a made) (hm : n ≤ made) (ha : ¬ a = b.length) : rdF b n = none := by
  rcases h with h | h
  · have := h.m; have := h.a
    obtain rfl : made = n := by omega
    exact h.over (by omega)
  · exact h.1
theorem RdJ.done (h : RdJ b n toks k a made) (hm : n ≤ made) (ha : a = b.length) : rdF b n = some toks := by
  rcases h with h | h
  · have := h.m
    subst ha
    obtain rfl : made = n := by omega
    exact h.done
  · exact absurd ha h.2.2.1
theorem rt_hd (hI : RdI b n toks k a made) (hm : made < n) (hn : n ≤ 65536) (hx : numR b a < 0 ∨ (b.length : Int) - (numN b a : Nat) < numR b a ∨ (n : Int) < (made : Int) + numR b a) : rdF b n = none := by
  refine hI.no fun j => rdK_nohd (by omega) fun p => ?_
  obtain ⟨p1, p2, p3⟩ := p
  have := numR_yes p1 (by omega)
  unfold aM aL at p3
  omega
theorem rt_fine (ha : a ≤ b.length) (h0 : ¬ numR b a < 0) (h1 : ¬ (b.length : Int) - (numN b a : Nat) < numR b a) : nE b a = 0 ∧ nV b a ≤ 65536 ∧ numR b a = (nV b a : Nat) ∧ numN b a = aL b a ∧ aM b a = aL b a + nV b a ∧ aM b a ≤ b.length ∧ aL b a ≤ aM b a ∧ (litT b a).length = nV b a := by
  rcases numR_cases ha with h | h
  · exact absurd h.1 h0
  · have h5 : numN b a = aL b a := h.2.2.2.2.1
    have h6 : aM b a = aL b a + nV b a := rfl
    refine ⟨h.2.1, h.2.2.1, h.2.2.2.1, h5, h6, by omega, by omega, ?_⟩
    unfold litT; rw [List.length_take, List.length_drop]; omega
theorem cut_lit (h : numN b a = aL b a) : (b.take (aM b a)).drop (numN b a) = litT b a := by
  rw [h]; unfold litT aM; rw [List.drop_take]; congr 1; omega
theorem rt_mt (hI : RdI b n toks k a made) (hm : made < n) (hd : aM b a ≤ b.length) (hl : made + nV b a < n) (hx : numR b (aM b a) < 0 ∨ numR b (aD b a) < 0 ∨ (n : Int) < ((made + nV b a : Nat) : Int) + numR b (aM b a) + 4 ∨ ¬ okT (litT b a, numR b (aD b a), numR b (aM b a) + 4) ((made + nV b a : Nat) : Int) false) : rdF b n = none := by
  refine hI.no fun j => rdK_nomt (by omega) (by omega) fun p => ?_
  obtain ⟨p1, p2, p3, p4, p5, p6, p7⟩ := p
  have e1 := numR_yes p1 (by omega)
  have e2 := numR_yes p2 (by omega)
  rcases hx with hx | hx | hx | hx
  · omega
  · omega
  · omega
  · refine hx ((okT_some fun hn => ?_).2 ?_)
    · have := hn.2; simp only at this; omega
    · simp only; omega
theorem rt_go (hI : RdI b n toks k a made) (h1 : nE b a = 0) (hd : aM b a ≤ b.length) (hl : made + nV b a < n) (h2 : ¬ numR b (aM b a) < 0) (h3 : ¬ numR b (aD b a) < 0) (h4 : ¬ (n : Int) < ((made + nV b a : Nat) : Int) + numR b (aM b a) + 4) (hx : okT (litT b a, numR b (aD b a), numR b (aM b a) + 4) ((made + nV b a : Nat) : Int) false) : RdI b n (toks ++ [(litT b a, numR b (aD b a), numR b (aM b a) + 4)]) (k - 1) (numN b (aD b a)) (made + nV b a + nV b (aM b a) + 4) := by
  have c1 := numR_cases hd
  have hD : aD b a ≤ b.length := by unfold aD; exact nK_le hd
  have c2 := numR_cases hD
  have hb := okT_bd hx
  rcases c1 with c1 | c1
  · exact absurd c1.1 h2
  · rcases c2 with c2 | c2
    · exact absurd c2.1 h3
    · simp only at hb
      have := hI.go h1 hd ⟨c1.2.1, c2.2.1, by omega, by omega, by omega, by omega, by omega⟩
      rw [c1.2.2.2.1, c2.2.2.2.1, c2.2.2.2.2.1]
      exact this
theorem rt_last (hI : RdI b n toks k a made) (hm : made < n) (h1 : nE b a = 0) (hd : aM b a ≤ b.length) (hl : made + nV b a = n) : RdJ b n (toks ++ [(litT b a, 0, 0)]) 1 (aM b a) n := by
  by_cases c : aM b a = b.length
  · have ha : a < b.length := by
      rcases Nat.lt_or_ge a b.length with h | h
      · exact h
      · have := hI.a
        obtain rfl : a = b.length := by omega
        exact absurd h1 (nE_end b)
    have := hI.last ha h1 c (by omega) hl
    rw [← c] at this
    exact .inl this
  · exact .inr ⟨hI.no fun j => rdK_bad (by omega) hl (fun h => c h.1), rfl, c, hd⟩
end

/-- winnowref3.Tokens -/
theorem refTokens_ok (x : Value) (b : List UInt8) (n : Int) (w : World) (hx : RdE byteV w x b) (hl : b.length ≤ 140737488355328) (hn : inK .i64 n) : Calls Try.prog 27 [x, .int .i64 n].toArray w (Rt fun r w' => ∃ v us rA rB, r = .tuple [v, .int .i64 (tksF b n).2].toArray ∧ SlS tokC 3 31 v us rA ∧ Nst (OwnP byteV 5 Tk.lit Tk.bs) us rB ∧ us.map Tk.p = (tksF b n).1 ∧ Mem w [] w' [rA, rB]) := by
  have hM0 : Mem w [] w [[]] := (Mem.nil w []).addNil
  simp only [inK] at hn
  refine calls_vc mixed Try.func27 rfl C27 (by simp [Try.ntmps27]) ?_
  refine seq fun K1 h1 => ?_
  refine stp (v := .slice none 0 0) (o_mv rfl) ?_
  refine stp (v := .int .i64 0) (o_mv rfl) ?_
  refine h1 _ _ ?_
  clear h1
  refine seq fun K2 h2 => ?_
  refine seq fun K3 h3 => ?_
  refine stp (v := .int .i64 n) (o_mv rfl) ?_
  refine stp (v := .bool (decide (n < 0))) (o_bin rfl rfl rfl) ?_
  refine stp (v := .bool (decide (n < 0))) (o_mv rfl) ?_
  refine splitP rfl (fun c4 => ?_) (fun c4 => ?_)
  ·
    refine gno rfl (by simp) ?_
    refine gno rfl (by simp) ?_
    refine stp (v := .bool true) (o_pickT rfl rfl) ?_
    refine h3 _ _ ?_
    clear h3
    refine cndT rfl ?_
    refine seq fun K5 h5 => ?_
    refine stp (v := .slice none 0 0) (o_mv rfl) ?_
    refine stp (v := .int .i64 3) (o_mv rfl) ?_
    refine h5 _ _ ?_
    clear h5
    refine ⟨(.tuple [.slice none 0 0, .int .i64 3].toArray), rfl, ?_⟩
    have he := tksF_arg (b := b) (n := n) (by omega)
    exact ⟨.slice none 0 0, [], [], [], by rw [he], Sl.nil 3 31, Nst.nil, by rw [he]; rfl, hM0.keep (by simp)⟩
  ·
    refine stg rfl (v := .int .i64 n) (o_mv rfl) ?_
    refine stg rfl (v := .bool (decide ((65536 : Int) < n))) (o_bin rfl rfl rfl) ?_
    refine stp (v := .bool (decide ((65536 : Int) < n))) (o_pickF rfl rfl) ?_
    refine h3 _ _ ?_
    clear h3
    refine cndP rfl (fun c6 => ?_) (fun c6 => ?_)
    ·
      refine seq fun K7 h7 => ?_
      refine stp (v := .slice none 0 0) (o_mv rfl) ?_
      refine stp (v := .int .i64 3) (o_mv rfl) ?_
      refine h7 _ _ ?_
      clear h7
      refine ⟨(.tuple [.slice none 0 0, .int .i64 3].toArray), rfl, ?_⟩
      have he := tksF_arg (b := b) (n := n) (by omega)
      exact ⟨.slice none 0 0, [], [], [], by rw [he], Sl.nil 3 31, Nst.nil, by rw [he]; rfl, hM0.keep (by simp)⟩
    ·
      refine h2 _ _ ?_
      clear h2
      refine seq fun K8 h8 => ?_
      refine stp (v := .slice none 0 0) (o_mv rfl) ?_
      refine h8 _ _ ?_
      clear h8
      refine seq fun K9 h9 => ?_
      refine stp (v := .int .i64 0) (o_mv rfl) ?_
      refine h9 _ _ ?_
      clear h9
      refine seq fun K10 h10 => ?_
      refine stp (v := .int .i64 0) (o_mv rfl) ?_
      refine h10 _ _ ?_
      clear h10
      refine seq fun K11 h11 => ?_
      have hM12 : Mem w [] w [[], []] := hM0.addNil
      have hs12 : SlS tokC 3 31 (.slice none 0 0) [] [] := Sl.nil 3 31
      refine lp (n := fun _ _ => False) (ι := (List Tk) × (List Ent) × (Nat) × (Nat) × (Nat) × (Value) × (List Ent)) (fun ⟨us, rB, k, a, made, y6_, r6_⟩ f w' => f 6 = y6_ ∧ f 7 = .int .i64 (a : Nat) ∧ f 8 = .int .i64 (made : Nat) ∧ f 0 = x ∧ f 1 = .int .i64 n ∧ Mem w [] w' [rB, r6_] ∧ (RdJ b n.toNat (us.map Tk.p) k a made) ∧ (Nst (OwnP byteV 5 Tk.lit Tk.bs) us rB) ∧ (us.length ≤ made) ∧ (SlS tokC 3 31 y6_ (us) r6_)) (fun ⟨us, rB, k, a, made, y6_, r6_⟩ => n.toNat - made) ([], [], n.toNat + 1, 0, 0, ((.slice none 0 0)), ([])) ?_ ?_
      · exact ⟨rfl, by first | rfl | exact v_int (by omega) | exact v_int (by simp) | exact v_int (by simp; omega), by first | rfl | exact v_int (by omega) | exact v_int (by simp) | exact v_int (by simp; omega), rfl, by first | rfl | exact v_int (by omega) | exact v_int (by simp) | exact v_int (by simp; omega), hM12, .inl (RdI.init b _), Nst.nil, by simp, by first | exact hs12 | simpa using hs12⟩
      · rintro ⟨us, rB, k, a, made, y6_, r6_⟩ f w13 ⟨e13_6, e13_7, e13_8, e13_0, e13_1, hM13, hJ, hns, hul, hy6_⟩ K14 h14
        obtain ⟨frm, rfl⟩ : ∃ frm, f = (upd (upd (upd (upd (upd frm 6 (y6_)) 7 (.int .i64 (a : Nat))) 8 (.int .i64 (made : Nat))) 0 (x)) 1 (.int .i64 n)) := ⟨f, by rw [upd_self e13_6, upd_self e13_7, upd_self e13_8, upd_self e13_0, upd_self e13_1]⟩
        clear e13_6 e13_7 e13_8 e13_0 e13_1
        refine seq fun K15 h15 => ?_
        refine seq fun K16 h16 => ?_
        refine stp (v := .int .i64 (made : Nat)) (o_mv rfl) ?_
        refine stp (v := .int .i64 n) (o_mv rfl) ?_
        refine stp (v := .bool (decide (((made : Nat) : Int) < n))) (o_bin rfl rfl rfl) ?_
        refine h16 _ _ ?_
        clear h16
        refine cndP rfl (fun c17 => ?_) (fun c17 => ?_)
        ·
          refine h15 _ _ ?_
          clear h15
          refine seq fun K18 h18 => ?_
          refine m_al hM13 fun b19 w20 (hM20 : Mem w [] w20 [rB, r6_, [⟨b19, 31, [.slice none 0 0, .int .i64 0, .int .i64 0]⟩]]) => ?_
          refine h18 _ _ ?_
          clear h18
          refine seq fun K21 h21 => ?_
          have hI := hJ.lt (by omega)
          have hIa := hI.a
          have hIm := hI.m
          refine stp (v := x) (o_mv rfl) ?_
          refine stp (v := .int .i64 (a : Nat)) (o_mv rfl) ?_
          refine m_call (number_okN _ b a _ w20 (hx.upd hM20.upd) (by omega) (by omega) rfl) rfl fun v22 w22 ⟨hr22, hu22⟩ => ?_
          have hM22 : Mem w [] w22 [rB, r6_, [⟨b19, 31, [.slice none 0 0, .int .i64 0, .int .i64 0]⟩]] := hM20.pure hu22
          subst hr22
          refine stp (v := .tuple [.int .i64 (numR b a), .int .i64 (numN b a : Nat)].toArray) (o_mv rfl) ?_
          refine stp (v := .int .i64 (numR b a)) (o_ext rfl rfl) ?_
          refine stp (v := .int .i64 (numN b a : Nat)) (o_ext rfl rfl) ?_
          refine stp (v := .int .i64 (numR b a)) (o_mv rfl) ?_
          refine stp (v := .int .i64 (numN b a : Nat)) (o_mv rfl) ?_
          refine h21 _ _ ?_
          clear h21
          refine seq fun K23 h23 => ?_
          refine seq fun K24 h24 => ?_
          have hc1 := numR_cases (b := b) (a := a) hIa
          refine stp (v := .int .i64 (numR b a)) (o_mv rfl) ?_
          refine stp (v := .bool (decide ((numR b a) < 0))) (o_bin rfl rfl rfl) ?_
          refine stp (v := .bool (decide ((numR b a) < 0))) (o_mv rfl) ?_
          refine splitP rfl (fun c25 => ?_) (fun c25 => ?_)
          ·
            refine gno rfl (by simp) ?_
            refine gno rfl (by simp) ?_
            refine gno rfl (by simp) ?_
            refine gno rfl (by simp) ?_
            refine gno rfl (by simp) ?_
            refine gno rfl (by simp) ?_
            refine stp (v := .bool true) (o_pickT rfl rfl) ?_
            refine stp (v := .bool true) (o_mv rfl) ?_
            refine splitT rfl ?_
            refine gno rfl (by simp) ?_
            refine gno rfl (by simp) ?_
            refine gno rfl (by simp) ?_
            refine gno rfl (by simp) ?_
            refine gno rfl (by simp) ?_
            refine stp (v := .bool true) (o_pickT rfl rfl) ?_
            refine h24 _ _ ?_
            clear h24
            refine cndT rfl ?_
            refine seq fun K26 h26 => ?_
            refine stp (v := .slice none 0 0) (o_mv rfl) ?_
            refine stp (v := .int .i64 30) (o_mv rfl) ?_
            refine h26 _ _ ?_
            clear h26
            refine ⟨(.tuple [.slice none 0 0, .int .i64 30].toArray), rfl, ?_⟩
            have he := tksF_none (b := b) (n := n) (by omega) (rt_hd hI (by omega) (by omega) (.inl (by omega)))
            exact ⟨.slice none 0 0, [], [], [], by rw [he], Sl.nil 3 31, Nst.nil, by rw [he]; rfl, hM22.keep (by simp)⟩
          ·
            refine stg rfl (v := .int .i64 (numR b a)) (o_mv rfl) ?_
            refine stg rfl (v := x) (o_mv rfl) ?_
            refine stg rfl (v := .int .i64 (b.length : Nat)) (o_lenR (hx.upd hM22.upd) rfl rfl) ?_
            refine stg rfl (v := .int .i64 (numN b a : Nat)) (o_mv rfl) ?_
            refine stg rfl (v := .int .i64 ((b.length : Nat) - (numN b a : Nat))) (o_bin rfl rfl (v_sub64 (by constructor <;> omega))) ?_
            refine stg rfl (v := .bool (decide (((b.length : Nat) - (numN b a : Nat) : Int) < (numR b a)))) (o_bin rfl rfl rfl) ?_
            refine stp (v := .bool (decide (((b.length : Nat) - (numN b a : Nat) : Int) < (numR b a)))) (o_pickF rfl rfl) ?_
            refine stp (v := .bool (decide (((b.length : Nat) - (numN b a : Nat) : Int) < (numR b a)))) (o_mv rfl) ?_
            refine splitP rfl (fun c27 => ?_) (fun c27 => ?_)
            ·
              refine gno rfl (by simp) ?_
              refine gno rfl (by simp) ?_
              refine gno rfl (by simp) ?_
              refine gno rfl (by simp) ?_
              refine gno rfl (by simp) ?_
              refine stp (v := .bool true) (o_pickT rfl rfl) ?_
              refine h24 _ _ ?_
              clear h24
              refine cndT rfl ?_
              refine seq fun K28 h28 => ?_
              refine stp (v := .slice none 0 0) (o_mv rfl) ?_
              refine stp (v := .int .i64 30) (o_mv rfl) ?_
              refine h28 _ _ ?_
              clear h28
              refine ⟨(.tuple [.slice none 0 0, .int .i64 30].toArray), rfl, ?_⟩
              have he := tksF_none (b := b) (n := n) (by omega) (rt_hd hI (by omega) (by omega) (.inr (.inl (by omega))))
              exact ⟨.slice none 0 0, [], [], [], by rw [he], Sl.nil 3 31, Nst.nil, by rw [he]; rfl, hM22.keep (by simp)⟩
            ·
              refine stg rfl (v := .int .i64 (made : Nat)) (o_mv rfl) ?_
              refine stg rfl (v := .int .i64 (numR b a)) (o_mv rfl) ?_
              refine stg rfl (v := .int .i64 ((made : Nat) + (numR b a))) (o_bin rfl rfl (v_add64 (by constructor <;> omega))) ?_
              refine stg rfl (v := .int .i64 n) (o_mv rfl) ?_
              refine stg rfl (v := .bool (decide (n < ((made : Nat) + (numR b a) : Int)))) (o_bin rfl rfl rfl) ?_
              refine stp (v := .bool (decide (n < ((made : Nat) + (numR b a) : Int)))) (o_pickF rfl rfl) ?_
              refine h24 _ _ ?_
              clear h24
              refine cndP rfl (fun c29 => ?_) (fun c29 => ?_)
              ·
                refine seq fun K30 h30 => ?_
                refine stp (v := .slice none 0 0) (o_mv rfl) ?_
                refine stp (v := .int .i64 30) (o_mv rfl) ?_
                refine h30 _ _ ?_
                clear h30
                refine ⟨(.tuple [.slice none 0 0, .int .i64 30].toArray), rfl, ?_⟩
                have he := tksF_none (b := b) (n := n) (by omega) (rt_hd hI (by omega) (by omega) (.inr (.inr (by omega))))
                exact ⟨.slice none 0 0, [], [], [], by rw [he], Sl.nil 3 31, Nst.nil, by rw [he]; rfl, hM22.keep (by simp)⟩
              ·
                refine h23 _ _ ?_
                clear h23
                refine seq fun K31 h31 => ?_
                have hc2 := rt_fine (b := b) (a := a) hIa (by omega) (by omega)
                refine m_bs hM22 rfl fun b32 w33 (hM33 : Mem w [] w33 [rB, r6_, [⟨b19, 31, [.slice none 0 0, .int .i64 0, .int .i64 0]⟩], [⟨b32, 5, []⟩]]) => ?_
                refine stp (v := x) (o_mv rfl) ?_
                refine stp (v := .int .i64 (numN b a : Nat)) (o_mv rfl) ?_
                refine stp (v := .int .i64 (numN b a : Nat)) (o_mv rfl) ?_
                refine stp (v := .int .i64 (numR b a)) (o_mv rfl) ?_
                refine stp (v := .int .i64 (aM b a : Nat)) (o_bin rfl rfl ((v_add64 (by omega)).trans (v_int (by omega)))) ?_
                refine m_slcE (numN b a) (aM b a) (hx) rfl (by omega) (by omega) ⟨_, v_int (by omega)⟩ ⟨_, v_int (by omega)⟩ fun u34 hu34 => ?_
                have hu34' : RdE byteV w u34 (litT b a) := by
                  have e : (b.take (aM b a)).drop (numN b a) = (litT b a) := cut_lit hc2.2.2.2.1
                  rw [e] at hu34; exact hu34
                have hs35 : SlE byteV 5 (.slice (some ⟨b32, 0, none⟩) 0 0) [] [⟨b32, 5, []⟩] := SlE.lit (l := []) rfl
                refine m_appE hM33 (i := 3) rfl hs35 rfl rfl ((hu34'.upd hM33.upd)) (by first | omega | (simp; omega)) (by omega) fun v36 w36 r36 (hs36 : SlE byteV 5 v36 (litT b a) r36) (hM36 : Mem w [] w36 [rB, r6_, [⟨b19, 31, [.slice none 0 0, .int .i64 0, .int .i64 0]⟩], r36]) => ?_
                obtain ⟨a37_, n37_, c37_, rfl⟩ := Sl.isSlice hs36
                refine stp (v := .pointer (some ⟨b19, 0, none⟩)) (o_fa rfl rfl) ?_
                refine m_st (v := (.slice a37_ n37_ c37_)) hM36 (i := 2) rfl rfl rfl (Sl.one hs36) (by simp) fun w38 (hM38 : Mem w [] w38 [rB, r6_, [⟨b19, 31, [(.slice a37_ n37_ c37_), .int .i64 0, .int .i64 0]⟩], r36]) => ?_
                refine h31 _ _ ?_
                clear h31
                refine seq fun K39 h39 => ?_
                refine stp (v := .int .i64 (numN b a : Nat)) (o_mv rfl) ?_
                refine stp (v := .int .i64 (numR b a)) (o_mv rfl) ?_
                refine stp (v := .int .i64 (aM b a : Nat)) (o_bin rfl rfl ((v_add64 (by omega)).trans (v_int (by omega)))) ?_
                refine stp (v := .int .i64 (aM b a : Nat)) (o_mv rfl) ?_
                refine h39 _ _ ?_
                clear h39
                refine seq fun K40 h40 => ?_
                refine stp (v := .int .i64 (made : Nat)) (o_mv rfl) ?_
                refine stp (v := .int .i64 (numR b a)) (o_mv rfl) ?_
                refine stp (v := .int .i64 (made + nV b a : Nat)) (o_bin rfl rfl ((v_add64 (by omega)).trans (v_int (by omega)))) ?_
                refine stp (v := .int .i64 (made + nV b a : Nat)) (o_mv rfl) ?_
                refine h40 _ _ ?_
                clear h40
                refine seq fun K41 h41 => ?_
                refine seq fun K42 h42 => ?_
                refine stp (v := .int .i64 (made + nV b a : Nat)) (o_mv rfl) ?_
                refine stp (v := .int .i64 n) (o_mv rfl) ?_
                refine stp (v := .bool (decide (((made + nV b a : Nat) : Int) < n))) (o_bin rfl rfl rfl) ?_
                refine h42 _ _ ?_
                clear h42
                refine cndP rfl (fun c43 => ?_) (fun c43 => ?_)
                ·
                  refine seq fun K44 h44 => ?_
                  refine stp (v := x) (o_mv rfl) ?_
                  refine stp (v := .int .i64 (aM b a : Nat)) (o_mv rfl) ?_
                  refine m_call (number_okN _ b (aM b a) _ w38 (hx.upd hM38.upd) (by omega) (by omega) rfl) rfl fun v45 w45 ⟨hr45, hu45⟩ => ?_
                  have hM45 : Mem w [] w45 [rB, r6_, [⟨b19, 31, [(.slice a37_ n37_ c37_), .int .i64 0, .int .i64 0]⟩], r36] := hM38.pure hu45
                  subst hr45
                  refine stp (v := .tuple [.int .i64 (numR b (aM b a)), .int .i64 (numN b (aM b a) : Nat)].toArray) (o_mv rfl) ?_
                  refine stp (v := .int .i64 (numR b (aM b a))) (o_ext rfl rfl) ?_
                  refine stp (v := .int .i64 (numN b (aM b a) : Nat)) (o_ext rfl rfl) ?_
                  refine stp (v := .int .i64 (numR b (aM b a))) (o_mv rfl) ?_
                  refine stp (v := .int .i64 (numN b (aM b a) : Nat)) (o_mv rfl) ?_
                  refine h44 _ _ ?_
                  clear h44
                  refine seq fun K46 h46 => ?_
                  refine seq fun K47 h47 => ?_
                  have hc3 := numR_cases (b := b) (a := aM b a) hc2.2.2.2.2.2.1
                  refine stp (v := .int .i64 (numR b (aM b a))) (o_mv rfl) ?_
                  refine stp (v := .bool (decide ((numR b (aM b a)) < 0))) (o_bin rfl rfl rfl) ?_
                  refine h47 _ _ ?_
                  clear h47
                  refine cndP rfl (fun c48 => ?_) (fun c48 => ?_)
                  ·
                    refine seq fun K49 h49 => ?_
                    refine stp (v := .slice none 0 0) (o_mv rfl) ?_
                    refine stp (v := .int .i64 30) (o_mv rfl) ?_
                    refine h49 _ _ ?_
                    clear h49
                    refine ⟨(.tuple [.slice none 0 0, .int .i64 30].toArray), rfl, ?_⟩
                    have he := tksF_none (b := b) (n := n) (by omega) (rt_mt hI (by omega) hc2.2.2.2.2.2.1 (by omega) (.inl (by omega)))
                    exact ⟨.slice none 0 0, [], [], [], by rw [he], Sl.nil 3 31, Nst.nil, by rw [he]; rfl, hM45.keep (by simp)⟩
                  ·
                    refine h46 _ _ ?_
                    clear h46
                    refine seq fun K50 h50 => ?_
                    have hN : numN b (aM b a) = aD b a := by unfold aD; omega
                    have hDl : aD b a ≤ b.length := by omega
                    refine stp (v := x) (o_mv rfl) ?_
                    refine stp (v := .int .i64 (numN b (aM b a) : Nat)) (o_mv rfl) ?_
                    refine m_call (number_okN _ b (aD b a) _ w45 (hx.upd hM45.upd) (by omega) (by omega) hN) rfl fun v51 w51 ⟨hr51, hu51⟩ => ?_
                    have hM51 : Mem w [] w51 [rB, r6_, [⟨b19, 31, [(.slice a37_ n37_ c37_), .int .i64 0, .int .i64 0]⟩], r36] := hM45.pure hu51
                    subst hr51
                    refine stp (v := .tuple [.int .i64 (numR b (aD b a)), .int .i64 (numN b (aD b a) : Nat)].toArray) (o_mv rfl) ?_
                    refine stp (v := .int .i64 (numR b (aD b a))) (o_ext rfl rfl) ?_
                    refine stp (v := .int .i64 (numN b (aD b a) : Nat)) (o_ext rfl rfl) ?_
                    refine stp (v := .int .i64 (numR b (aD b a))) (o_mv rfl) ?_
                    refine stp (v := .int .i64 (numN b (aD b a) : Nat)) (o_mv rfl) ?_
                    refine h50 _ _ ?_
                    clear h50
                    refine seq fun K52 h52 => ?_
                    refine seq fun K53 h53 => ?_
                    have hc4 := numR_cases (b := b) (a := aD b a) hDl
                    refine stp (v := .int .i64 (numR b (aD b a))) (o_mv rfl) ?_
                    refine stp (v := .bool (decide ((numR b (aD b a)) < 0))) (o_bin rfl rfl rfl) ?_
                    refine stp (v := .bool (decide ((numR b (aD b a)) < 0))) (o_mv rfl) ?_
                    refine splitP rfl (fun c54 => ?_) (fun c54 => ?_)
                    ·
                      refine gno rfl (by simp) ?_
                      refine gno rfl (by simp) ?_
                      refine gno rfl (by simp) ?_
                      refine gno rfl (by simp) ?_
                      refine gno rfl (by simp) ?_
                      refine gno rfl (by simp) ?_
                      refine stp (v := .bool true) (o_pickT rfl rfl) ?_
                      refine h53 _ _ ?_
                      clear h53
                      refine cndT rfl ?_
                      refine seq fun K55 h55 => ?_
                      refine stp (v := .slice none 0 0) (o_mv rfl) ?_
                      refine stp (v := .int .i64 30) (o_mv rfl) ?_
                      refine h55 _ _ ?_
                      clear h55
                      refine ⟨(.tuple [.slice none 0 0, .int .i64 30].toArray), rfl, ?_⟩
                      have he := tksF_none (b := b) (n := n) (by omega) (rt_mt hI (by omega) hc2.2.2.2.2.2.1 (by omega) (.inr (.inl (by omega))))
                      exact ⟨.slice none 0 0, [], [], [], by rw [he], Sl.nil 3 31, Nst.nil, by rw [he]; rfl, hM51.keep (by simp)⟩
                    ·
                      refine stg rfl (v := .int .i64 (made + nV b a : Nat)) (o_mv rfl) ?_
                      refine stg rfl (v := .int .i64 (numR b (aM b a))) (o_mv rfl) ?_
                      refine stg rfl (v := .int .i64 ((made + nV b a : Nat) + (numR b (aM b a)))) (o_bin rfl rfl (v_add64 (by constructor <;> omega))) ?_
                      refine stg rfl (v := .int .i64 (((made + nV b a : Nat) + (numR b (aM b a))) + 4)) (o_bin rfl rfl (v_add64 (by constructor <;> omega))) ?_
                      refine stg rfl (v := .int .i64 n) (o_mv rfl) ?_
                      refine stg rfl (v := .bool (decide (n < (((made + nV b a : Nat) + (numR b (aM b a))) + 4 : Int)))) (o_bin rfl rfl rfl) ?_
                      refine stp (v := .bool (decide (n < (((made + nV b a : Nat) + (numR b (aM b a))) + 4 : Int)))) (o_pickF rfl rfl) ?_
                      refine h53 _ _ ?_
                      clear h53
                      refine cndP rfl (fun c56 => ?_) (fun c56 => ?_)
                      ·
                        refine seq fun K57 h57 => ?_
                        refine stp (v := .slice none 0 0) (o_mv rfl) ?_
                        refine stp (v := .int .i64 30) (o_mv rfl) ?_
                        refine h57 _ _ ?_
                        clear h57
                        refine ⟨(.tuple [.slice none 0 0, .int .i64 30].toArray), rfl, ?_⟩
                        have he := tksF_none (b := b) (n := n) (by omega) (rt_mt hI (by omega) hc2.2.2.2.2.2.1 (by omega) (.inr (.inr (.inl (by omega)))))
                        exact ⟨.slice none 0 0, [], [], [], by rw [he], Sl.nil 3 31, Nst.nil, by rw [he]; rfl, hM51.keep (by simp)⟩
                      ·
                        refine h52 _ _ ?_
                        clear h52
                        refine seq fun K58 h58 => ?_
                        refine stp (v := .int .i64 (numR b (aM b a))) (o_mv rfl) ?_
                        refine stp (v := .int .i64 ((numR b (aM b a)) + 4)) (o_bin rfl rfl (v_add64 (by constructor <;> omega))) ?_
                        refine stp (v := .pointer (some ⟨b19, 2, none⟩)) (o_fa rfl rfl) ?_
                        refine m_st (v := .int .i64 ((numR b (aM b a)) + 4)) hM51 (i := 2) rfl rfl rfl rfl (by simp) fun w59 (hM59 : Mem w [] w59 [rB, r6_, [⟨b19, 31, [(.slice a37_ n37_ c37_), .int .i64 0, .int .i64 ((numR b (aM b a)) + 4)]⟩], r36]) => ?_
                        refine h58 _ _ ?_
                        clear h58
                        refine seq fun K60 h60 => ?_
                        refine stp (v := .int .i64 (numR b (aD b a))) (o_mv rfl) ?_
                        refine stp (v := .pointer (some ⟨b19, 1, none⟩)) (o_fa rfl rfl) ?_
                        refine m_st (v := .int .i64 (numR b (aD b a))) hM59 (i := 2) rfl rfl rfl rfl (by simp) fun w61 (hM61 : Mem w [] w61 [rB, r6_, [⟨b19, 31, [(.slice a37_ n37_ c37_), .int .i64 (numR b (aD b a)), .int .i64 ((numR b (aM b a)) + 4)]⟩], r36]) => ?_
                        refine h60 _ _ ?_
                        clear h60
                        refine seq fun K62 h62 => ?_
                        refine stp (v := .int .i64 (numN b (aD b a) : Nat)) (o_mv rfl) ?_
                        refine stp (v := .int .i64 (numN b (aD b a) : Nat)) (o_mv rfl) ?_
                        refine h62 _ _ ?_
                        clear h62
                        refine stp (v := .int .i64 (made + nV b a : Nat)) (o_mv rfl) ?_
                        refine stp (v := .pointer (some ⟨b19, 2, none⟩)) (o_fa rfl rfl) ?_
                        refine m_ld (v := .int .i64 ((numR b (aM b a)) + 4)) hM61 (i := 2) (j := 0) rfl rfl rfl rfl ?_
                        refine stp (v := .int .i64 (made + nV b a + nV b (aM b a) + 4 : Nat)) (o_bin rfl rfl ((v_add64 (by omega)).trans (v_int (by omega)))) ?_
                        refine stp (v := .int .i64 (made + nV b a + nV b (aM b a) + 4 : Nat)) (o_mv rfl) ?_
                        refine h41 _ _ ?_
                        clear h41
                        refine seq fun K63 h63 => ?_
                        refine m_ldA (l := [(.slice a37_ n37_ c37_), .int .i64 (numR b (aD b a)), .int .i64 ((numR b (aM b a)) + 4)]) hM61 (i := 2) (j := 0) rfl rfl rfl rfl rfl ?_
                        refine stp (v := .int .i64 (made + nV b a + nV b (aM b a) + 4 : Nat)) (o_mv rfl) ?_
                        refine stp (v := .int .i64 (numR b a)) (o_mv rfl) ?_
                        refine stp (v := .int .i64 ((made + nV b a + nV b (aM b a) + 4 : Nat) - (numR b a))) (o_bin rfl rfl (v_sub64 (by constructor <;> omega))) ?_
                        refine stp (v := .pointer (some ⟨b19, 2, none⟩)) (o_fa rfl rfl) ?_
                        refine m_ld (v := .int .i64 ((numR b (aM b a)) + 4)) hM61 (i := 2) (j := 0) rfl rfl rfl rfl ?_
                        refine stp (v := .int .i64 (made : Nat)) (o_bin rfl rfl ((v_sub64 (by omega)).trans (v_int (by omega)))) ?_
                        refine stp (v := .int .i64 (made + nV b a + nV b (aM b a) + 4 : Nat)) (o_mv rfl) ?_
                        refine stp (v := .int .i64 n) (o_mv rfl) ?_
                        refine stp (v := .bool (decide (((made + nV b a + nV b (aM b a) + 4 : Nat) : Int) = n))) (o_bin rfl rfl rfl) ?_
                        refine m_call (fits_ok (⟨a37_, n37_, c37_, litT b a, numR b (aD b a), (numR b (aM b a)) + 4⟩ : Tk) made (decide (((made + nV b a + nV b (aM b a) + 4 : Nat) : Int) = n)) w61 (hs36.rd hM61 (i := 3) rfl) (by omega) (by dsimp only; omega)) rfl fun v64 w64 ⟨hr64, hu64⟩ => ?_
                        have hM64 : Mem w [] w64 [rB, r6_, [⟨b19, 31, [(.slice a37_ n37_ c37_), .int .i64 (numR b (aD b a)), .int .i64 ((numR b (aM b a)) + 4)]⟩], r36] := hM61.pure hu64
                        subst hr64
                        refine stp (v := .bool (decide (okT (⟨a37_, n37_, c37_, litT b a, numR b (aD b a), (numR b (aM b a)) + 4⟩ : Tk).p ((made + (⟨a37_, n37_, c37_, litT b a, numR b (aD b a), (numR b (aM b a)) + 4⟩ : Tk).bs.length : Nat) : Int) (decide (((made + nV b a + nV b (aM b a) + 4 : Nat) : Int) = n))))) (o_mv rfl) ?_
                        refine h63 _ _ ?_
                        clear h63
                        refine seq fun K65 h65 => ?_
                        refine seq fun K66 h66 => ?_
                        refine stp (v := .bool (decide (okT (⟨a37_, n37_, c37_, litT b a, numR b (aD b a), (numR b (aM b a)) + 4⟩ : Tk).p ((made + (⟨a37_, n37_, c37_, litT b a, numR b (aD b a), (numR b (aM b a)) + 4⟩ : Tk).bs.length : Nat) : Int) (decide (((made + nV b a + nV b (aM b a) + 4 : Nat) : Int) = n))))) (o_mv rfl) ?_
                        refine stp (v := .bool (decide (¬ (okT (⟨a37_, n37_, c37_, litT b a, numR b (aD b a), (numR b (aM b a)) + 4⟩ : Tk).p ((made + (⟨a37_, n37_, c37_, litT b a, numR b (aD b a), (numR b (aM b a)) + 4⟩ : Tk).bs.length : Nat) : Int) (decide (((made + nV b a + nV b (aM b a) + 4 : Nat) : Int) = n)))))) (o_not rfl v_not) ?_
                        refine h66 _ _ ?_
                        clear h66
                        refine cndP rfl (fun c67 => ?_) (fun c67 => ?_)
                        ·
                          refine seq fun K68 h68 => ?_
                          refine stp (v := .slice none 0 0) (o_mv rfl) ?_
                          refine stp (v := .int .i64 30) (o_mv rfl) ?_
                          refine h68 _ _ ?_
                          clear h68
                          refine ⟨(.tuple [.slice none 0 0, .int .i64 30].toArray), rfl, ?_⟩
                          have he := tksF_none (b := b) (n := n) (by omega) (rt_mt hI (by omega) hc2.2.2.2.2.2.1 (by omega) (.inr (.inr (.inr (fun h => ‹¬ okT _ _ _› (okT_conv (fun hn => by have h9 := hn.2; dsimp only at h9; omega) (by dsimp only; rw [hc2.2.2.2.2.2.2.2]) h))))))
                          exact ⟨.slice none 0 0, [], [], [], by rw [he], Sl.nil 3 31, Nst.nil, by rw [he]; rfl, hM64.keep (by simp)⟩
                        ·
                          refine h65 _ _ ?_
                          clear h65
                          have hok := Decidable.not_not.1 ‹¬ ¬ okT _ _ _›
                          refine stp (v := y6_) (o_mv rfl) ?_
                          refine m_ldA (l := [(.slice a37_ n37_ c37_), .int .i64 (numR b (aD b a)), .int .i64 ((numR b (aM b a)) + 4)]) hM64 (i := 2) (j := 0) rfl rfl rfl rfl rfl ?_
                          refine m_app1S (enc := tokC) (q := (⟨a37_, n37_, c37_, litT b a, numR b (aD b a), (numR b (aM b a)) + 4⟩ : Tk)) hM64 (i := 1) rfl hy6_ rfl (by simp) (rfl) rfl (by first | omega | (simp; omega)) (by omega) fun v69 w69 r69 u69 (hs69 : SlS tokC 3 31 v69 (us ++ [(⟨a37_, n37_, c37_, litT b a, numR b (aD b a), (numR b (aM b a)) + 4⟩ : Tk)]) r69) (hM69 : Mem w [] w69 [rB, r69, [⟨b19, 31, [(.slice a37_ n37_ c37_), .int .i64 (numR b (aD b a)), .int .i64 ((numR b (aM b a)) + 4)]⟩], r36]) => ?_
                          refine stp (v := v69) (o_mv rfl) ?_
                          refine h14 ((us ++ [(⟨a37_, n37_, c37_, litT b a, numR b (aD b a), (numR b (aM b a)) + 4⟩ : Tk)]), rB ++ r36, k - 1, numN b (aD b a), made + nV b a + nV b (aM b a) + 4, v69, r69) _ _ ⟨rfl, by first | rfl | exact v_int (by omega) | exact v_int (by simp) | exact v_int (by simp; omega), by first | rfl | exact v_int (by omega) | exact v_int (by simp) | exact v_int (by simp; omega), rfl, by first | rfl | exact v_int (by omega) | exact v_int (by simp) | exact v_int (by simp; omega), (hM69.keep (R' := [rB, r69, r36]) (by simp)).perm perm3, .inl (by rw [List.map_append]; exact rt_go hI hc2.1 hc2.2.2.2.2.2.1 (by omega) (by omega) (by omega) (by omega) (okT_conv (fun hn => by have h9 := hn.2; dsimp only at h9; omega) (by dsimp only; rw [hc2.2.2.2.2.2.2.2]) hok)), hns.app hs36, by rw [List.length_append, List.length_singleton]; omega, by first | exact hs69 | simpa using hs69⟩ (by dsimp only; omega)
                ·
                  refine h41 _ _ ?_
                  clear h41
                  refine seq fun K70 h70 => ?_
                  refine m_ldA (l := [(.slice a37_ n37_ c37_), .int .i64 0, .int .i64 0]) hM38 (i := 2) (j := 0) rfl rfl rfl rfl rfl ?_
                  refine stp (v := .int .i64 (made + nV b a : Nat)) (o_mv rfl) ?_
                  refine stp (v := .int .i64 (numR b a)) (o_mv rfl) ?_
                  refine stp (v := .int .i64 ((made + nV b a : Nat) - (numR b a))) (o_bin rfl rfl (v_sub64 (by constructor <;> omega))) ?_
                  refine stp (v := .pointer (some ⟨b19, 2, none⟩)) (o_fa rfl rfl) ?_
                  refine m_ld (v := .int .i64 0) hM38 (i := 2) (j := 0) rfl rfl rfl rfl ?_
                  refine stp (v := .int .i64 (made : Nat)) (o_bin rfl rfl ((v_sub64 (by omega)).trans (v_int (by omega)))) ?_
                  refine stp (v := .int .i64 (made + nV b a : Nat)) (o_mv rfl) ?_
                  refine stp (v := .int .i64 n) (o_mv rfl) ?_
                  refine stp (v := .bool (decide (((made + nV b a : Nat) : Int) = n))) (o_bin rfl rfl rfl) ?_
                  refine m_call (fits_ok (⟨a37_, n37_, c37_, litT b a, 0, 0⟩ : Tk) made (decide (((made + nV b a : Nat) : Int) = n)) w38 (hs36.rd hM38 (i := 3) rfl) (by omega) (by dsimp only; omega)) rfl fun v71 w71 ⟨hr71, hu71⟩ => ?_
                  have hM71 : Mem w [] w71 [rB, r6_, [⟨b19, 31, [(.slice a37_ n37_ c37_), .int .i64 0, .int .i64 0]⟩], r36] := hM38.pure hu71
                  subst hr71
                  refine stp (v := .bool (decide (okT (⟨a37_, n37_, c37_, litT b a, 0, 0⟩ : Tk).p ((made + (⟨a37_, n37_, c37_, litT b a, 0, 0⟩ : Tk).bs.length : Nat) : Int) (decide (((made + nV b a : Nat) : Int) = n))))) (o_mv rfl) ?_
                  refine h70 _ _ ?_
                  clear h70
                  refine seq fun K72 h72 => ?_
                  refine seq fun K73 h73 => ?_
                  refine stp (v := .bool (decide (okT (⟨a37_, n37_, c37_, litT b a, 0, 0⟩ : Tk).p ((made + (⟨a37_, n37_, c37_, litT b a, 0, 0⟩ : Tk).bs.length : Nat) : Int) (decide (((made + nV b a : Nat) : Int) = n))))) (o_mv rfl) ?_
                  refine stp (v := .bool (decide (¬ (okT (⟨a37_, n37_, c37_, litT b a, 0, 0⟩ : Tk).p ((made + (⟨a37_, n37_, c37_, litT b a, 0, 0⟩ : Tk).bs.length : Nat) : Int) (decide (((made + nV b a : Nat) : Int) = n)))))) (o_not rfl v_not) ?_
                  refine h73 _ _ ?_
                  clear h73
                  refine cndP rfl (fun c74 => ?_) (fun c74 => ?_)
                  ·
                    refine seq fun K75 h75 => ?_
                    refine stp (v := .slice none 0 0) (o_mv rfl) ?_
                    refine stp (v := .int .i64 30) (o_mv rfl) ?_
                    refine h75 _ _ ?_
                    clear h75
                    refine ⟨(.tuple [.slice none 0 0, .int .i64 30].toArray), rfl, ?_⟩
                    have hno := ‹¬ okT _ _ _›
                    exact absurd ((okK_none (noneK.2 ⟨rfl, rfl⟩)).2 ⟨decide_eq_true (by omega), by dsimp only; omega⟩) hno
                  ·
                    refine h72 _ _ ?_
                    clear h72
                    have hok := Decidable.not_not.1 ‹¬ ¬ okT _ _ _›
                    refine stp (v := y6_) (o_mv rfl) ?_
                    refine m_ldA (l := [(.slice a37_ n37_ c37_), .int .i64 0, .int .i64 0]) hM71 (i := 2) (j := 0) rfl rfl rfl rfl rfl ?_
                    refine m_app1S (enc := tokC) (q := (⟨a37_, n37_, c37_, litT b a, 0, 0⟩ : Tk)) hM71 (i := 1) rfl hy6_ rfl (by simp) (rfl) rfl (by first | omega | (simp; omega)) (by omega) fun v76 w76 r76 u76 (hs76 : SlS tokC 3 31 v76 (us ++ [(⟨a37_, n37_, c37_, litT b a, 0, 0⟩ : Tk)]) r76) (hM76 : Mem w [] w76 [rB, r76, [⟨b19, 31, [(.slice a37_ n37_ c37_), .int .i64 0, .int .i64 0]⟩], r36]) => ?_
                    refine stp (v := v76) (o_mv rfl) ?_
                    refine h14 ((us ++ [(⟨a37_, n37_, c37_, litT b a, 0, 0⟩ : Tk)]), rB ++ r36, 1, aM b a, made + nV b a, v76, r76) _ _ ⟨rfl, by first | rfl | exact v_int (by omega) | exact v_int (by simp) | exact v_int (by simp; omega), by first | rfl | exact v_int (by omega) | exact v_int (by simp) | exact v_int (by simp; omega), rfl, by first | rfl | exact v_int (by omega) | exact v_int (by simp) | exact v_int (by simp; omega), (hM76.keep (R' := [rB, r76, r36]) (by simp)).perm perm3, by have h9 := rt_last hI (by omega) hc2.1 hc2.2.2.2.2.2.1 (by omega); rw [show made + nV b a = n.toNat by omega, List.map_append]; exact h9, hns.app hs36, by rw [List.length_append, List.length_singleton]; omega, by first | exact hs76 | simpa using hs76⟩ (by dsimp only; omega)
        ·
          refine h11 _ _ ?_
          clear h11
          refine seq fun K77 h77 => ?_
          refine seq fun K78 h78 => ?_
          refine stp (v := .int .i64 (a : Nat)) (o_mv rfl) ?_
          refine stp (v := x) (o_mv rfl) ?_
          refine stp (v := .int .i64 (b.length : Nat)) (o_lenR (hx.upd hM13.upd) rfl rfl) ?_
          refine stp (v := .bool (decide (¬ ((a : Nat) : Int) = (b.length : Nat)))) (o_bin rfl rfl v_neq) ?_
          refine h78 _ _ ?_
          clear h78
          refine cndP rfl (fun c79 => ?_) (fun c79 => ?_)
          ·
            refine seq fun K80 h80 => ?_
            refine stp (v := .slice none 0 0) (o_mv rfl) ?_
            refine stp (v := .int .i64 30) (o_mv rfl) ?_
            refine h80 _ _ ?_
            clear h80
            refine ⟨(.tuple [.slice none 0 0, .int .i64 30].toArray), rfl, ?_⟩
            have he := tksF_none (b := b) (n := n) (by omega) (hJ.no (by omega) (by omega))
            exact ⟨.slice none 0 0, [], [], [], by rw [he], Sl.nil 3 31, Nst.nil, by rw [he]; rfl, hM13.keep (by simp)⟩
          ·
            refine h77 _ _ ?_
            clear h77
            refine seq fun K81 h81 => ?_
            refine stp (v := y6_) (o_mv rfl) ?_
            refine stp (v := y6_) (o_mv rfl) ?_
            refine stp (v := .int .i64 0) (o_mv rfl) ?_
            refine h81 _ _ ?_
            clear h81
            refine ⟨(.tuple [y6_, .int .i64 0].toArray), rfl, ?_⟩
            have he := tksF_some (b := b) (n := n) (by omega) (hJ.done (by omega) (by omega))
            exact ⟨_, us, _, rB, by rw [he], hy6_, hns, by rw [he], hM13.perm perm2⟩

theorem le_sumN : ∀ {l : List Nat} {x : Nat}, x ∈ l → x ≤ l.sum
  | y :: l, x, h => by
    rw [List.sum_cons]
    rcases List.mem_cons.1 h with rfl | h
    · omega
    · have := le_sumN h; omega
theorem tks_bd {b : List UInt8} {n : Int} : (∀ t ∈ (tksF b n).1, 0 ≤ t.2.2 ∧ t.2.2 ≤ 259 ∧ 0 ≤ t.2.1 ∧ t.2.1 ≤ 32768 ∧ t.1.length ≤ 65536) ∧ (tksF b n).1.length ≤ 65536 ∧ ((tksF b n).2 = 0 → expF (tksF b n).1 = (textP (tksF b n).1, 0)) := by
  by_cases c : n < 0 ∨ 65536 < n
  · rw [tksF_arg c]; simp
  · cases h : rdF b n.toNat with
    | none => rw [tksF_none c h]; simp
    | some ps =>
      rw [tksF_some c h]
      obtain ⟨e1, e2, e3⟩ := exp_rd (by omega) h
      have hb := expG_bd ps [] (by show (expF ps).2 = 0; rw [e1])
      refine ⟨fun t ht => ?_, by simp only; omega, fun _ => e1⟩
      have := hb.1 t ht
      have h5 : t.1.length ≤ lenP ps := by
        unfold lenP
        have hm : t.1.length + t.2.2.toNat ∈ ps.map fun t => t.1.length + t.2.2.toNat := List.mem_map.2 ⟨t, ht, rfl⟩
        have := le_sumN hm
        omega
      omega
theorem ok_tks {us : List Tk} {b : List UInt8} {n : Int} {w : World} (h : us.map Tk.p = (tksF b n).1) (hr : ∀ t ∈ us, RdE byteV w t.lit t.bs) : ∀ t ∈ us, t.ok w := by
  intro t ht
  have hm : t.p ∈ (tksF b n).1 := by rw [← h]; exact List.mem_map.2 ⟨t, ht, rfl⟩
  have := tks_bd.1 _ hm
  refine ⟨hr t ht, ?_, ?_, ?_⟩
  · simp only [inK]; simp only at this; omega
  · simp only [inK]; simp only at this; omega
  · simp only at this; omega
theorem len_tks {us : List Tk} {b : List UInt8} {n : Int} (h : us.map Tk.p = (tksF b n).1) : us.length ≤ 65536 := by
  have := (tks_bd (b := b) (n := n)).2.1
  rw [← h, List.length_map] at this; exact this
theorem decF_len (b : List UInt8) (n : Int) : (decF b n).1.length ≤ 65536 := by
  by_cases c : (tksF b n).2 = 0
  · rw [decF_yes c]
    have := tks_bd.2.2 c
    have h := expF_le (tksF b n).1
    rw [this] at h; exact h
  · rw [decF_no c]; simp

/-- winnowref3.Decode -/
theorem refDecode_ok (x : Value) (b : List UInt8) (n : Int) (w : World) (hx : RdE byteV w x b) (hl : b.length ≤ 140737488355328) (hn : inK .i64 n) : Calls Try.prog 26 [x, .int .i64 n].toArray w (Rt fun r w' => ∃ v rs, r = .tuple [v, .int .i64 (decF b n).2].toArray ∧ SlE byteV 5 v (decF b n).1 rs ∧ Mem w [] w' [rs]) := by
  have hM0 : Mem w [] w [] := Mem.nil w []
  simp only [inK] at hn
  refine calls_vc mixed Try.func26 rfl C26 (by simp [Try.ntmps26]) ?_
  refine seq fun K1 h1 => ?_
  refine stp (v := .slice none 0 0) (o_mv rfl) ?_
  refine stp (v := .int .i64 0) (o_mv rfl) ?_
  refine h1 _ _ ?_
  clear h1
  refine seq fun K2 h2 => ?_
  refine stp (v := x) (o_mv rfl) ?_
  refine stp (v := .int .i64 n) (o_mv rfl) ?_
  refine m_call (refTokens_ok _ b n w (hx.upd hM0.upd) (by first | omega | (simp; done) | (simp; omega)) (by simp only [inK]; omega)) rfl fun v3 w3 ⟨y3, us3, rA3, rB3, hr3, hs3, hn3, hp3, hm3⟩ => ?_
  have hM3 : Mem w [] w3 [rA3, rB3] := hM0.add2 hm3
  subst hr3
  have hlu3 := len_tks hp3
  refine stp (v := .tuple [y3, .int .i64 ((tksF b n).2)].toArray) (o_mv rfl) ?_
  refine stp (v := y3) (o_ext rfl rfl) ?_
  refine stp (v := .int .i64 ((tksF b n).2)) (o_ext rfl rfl) ?_
  refine stp (v := y3) (o_mv rfl) ?_
  refine stp (v := .int .i64 ((tksF b n).2)) (o_mv rfl) ?_
  refine h2 _ _ ?_
  clear h2
  refine seq fun K4 h4 => ?_
  refine seq fun K5 h5 => ?_
  refine stp (v := .int .i64 ((tksF b n).2)) (o_mv rfl) ?_
  refine stp (v := .bool (decide (¬ ((tksF b n).2) = 0))) (o_bin rfl rfl v_neq) ?_
  refine h5 _ _ ?_
  clear h5
  refine cndP rfl (fun c6 => ?_) (fun c6 => ?_)
  ·
    refine seq fun K7 h7 => ?_
    refine stp (v := .int .i64 ((tksF b n).2)) (o_mv rfl) ?_
    refine stp (v := .slice none 0 0) (o_mv rfl) ?_
    refine stp (v := .int .i64 ((tksF b n).2)) (o_mv rfl) ?_
    refine h7 _ _ ?_
    clear h7
    refine ⟨(.tuple [.slice none 0 0, .int .i64 ((tksF b n).2)].toArray), rfl, ?_⟩
    have he := decF_no (b := b) (n := n) (by omega)
    exact ⟨.slice none 0 0, [], by rw [he], by rw [he]; exact Sl.nil 1 5, hM3.keep (by simp)⟩
  ·
    refine h4 _ _ ?_
    clear h4
    refine seq fun K8 h8 => ?_
    refine stp (v := y3) (o_mv rfl) ?_
    refine m_call (refExpand_ok _ us3 w3 (hs3.rd hM3 (i := 0) rfl) ((ok_tks (w := w3) hp3 (hn3.rdE hM3 (i := 1) rfl) : ∀ t ∈ us3, Tk.ok w3 t)) (by first | omega | (simp; done) | (simp; omega))) rfl fun v9 w9 ⟨y9, rs9, hr9, hs9, hm9⟩ => ?_
    have hM9 : Mem w [] w9 [rA3, rB3, rs9] := hM3.add hm9
    rw [hp3] at hr9 hs9
    subst hr9
    have hln9 := expF_len (tksF b n).1
    refine stp (v := y9) (o_ext rfl rfl) ?_
    refine stp (v := .int .i64 ((expF (tksF b n).1).2)) (o_ext rfl rfl) ?_
    refine stp (v := y9) (o_mv rfl) ?_
    refine stp (v := .int .i64 ((expF (tksF b n).1).2)) (o_mv rfl) ?_
    refine h8 _ _ ?_
    clear h8
    refine ⟨(.tuple [y9, .int .i64 ((expF (tksF b n).1).2)].toArray), rfl, ?_⟩
    have he := decF_yes (b := b) (n := n) (by omega)
    have he2 := (tks_bd (b := b) (n := n)).2.2 (by omega)
    exact ⟨_, _, by rw [he, he2], by rw [he]; have h9 := hs9; rw [he2] at h9; exact h9, hM9.keep (by simp only [List.flatten_cons, List.flatten_nil, List.append_nil, ← List.append_assoc]; exact List.sublist_append_right _ _)⟩
