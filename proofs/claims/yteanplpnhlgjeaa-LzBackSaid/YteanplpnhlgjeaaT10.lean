/- Tokens that were handed out: written over and appended to. -/
import Derived.Test.YteanplpnhlgjeaaT9
namespace Go.Proofs.Yteanplpnhlgjeaa.E
open Go
def Tk.core (t : Tk) : Option Addr × Nat × Nat := (t.ad, t.ln, t.cp)
def mkB (i : Nat) : UInt8 := (i % 251).toUInt8
theorem mk_v (i : Nat) : Value.int .u8 (((i : Nat) : Int) % 251 % 256) = byteV (mkB i) := by
  rw [byteV_of (by omega) (by omega)]; unfold mkB; congr 2; omega
theorem mk_n (i : Nat) : ((mkB i).toNat : Int) = ((i : Nat) : Int) % 251 % 256 := by
  unfold mkB; simp [Nat.toUInt8]
theorem getD_noneT {l : List Tk} {j : Nat} (h : l.length ≤ j) : l.getD j tz = tz := by
  rw [List.getD_eq_getElem?_getD, List.getElem?_eq_none h]; rfl
/-- the same tokens, the bytes of the first i of them written over -/
structure Spo (us ws : List Tk) (i : Nat) : Prop where
  c : ws.map Tk.core = us.map Tk.core
  l : ∀ j, (ws.getD j tz).bs.length = (us.getD j tz).bs.length
  m : ∀ j, j < i → (ws.getD j tz).bs = List.replicate (us.getD j tz).bs.length (mkB j)
theorem Spo.init (us : List Tk) : Spo us us 0 := ⟨rfl, fun _ => rfl, fun j h => by omega⟩
theorem Spo.len {us ws : List Tk} {i : Nat} (h : Spo us ws i) : ws.length = us.length := by
  have := congrArg List.length h.c; simpa using this
theorem Spo.core {us ws : List Tk} {i : Nat} (h : Spo us ws i) (j : Nat) : (ws.getD j tz).core = (us.getD j tz).core := by
  have e : ∀ l : List Tk, (l.getD j tz).core = (l.map Tk.core).getD j tz.core := fun l => by
    rw [List.getD_eq_getElem?_getD, List.getD_eq_getElem?_getD, List.getElem?_map]; cases l[j]? <;> rfl
  rw [e, e, h.c]
theorem Spo.lit {us ws : List Tk} {i : Nat} (h : Spo us ws i) (j : Nat) : (ws.getD j tz).lit = (us.getD j tz).lit := by
  have := h.core j
  unfold Tk.core at this
  have e1 := congrArg (·.1) this
  have e2 := congrArg (·.2.1) this
  have e3 := congrArg (·.2.2) this
  simp only at e1 e2 e3
  unfold Tk.lit; rw [e1, e2, e3]
/-- a token, other bytes in its memory -/
def Tk.with (t : Tk) (l : List UInt8) : Tk := ⟨t.ad, t.ln, t.cp, l, t.d, t.n⟩
theorem Spo.step {us ws : List Tk} {i : Nat} (h : Spo us ws i) (hi : i < us.length) : Spo us (ws.set i ((ws.getD i tz).with (List.replicate (ws.getD i tz).bs.length (mkB i)))) (i + 1) := by
  have hw : i < ws.length := by rw [h.len]; exact hi
  refine ⟨?_, fun j => ?_, fun j hj => ?_⟩
  · rw [← h.c]
    apply List.ext_getElem?
    intro k
    rw [List.getElem?_map, List.getElem?_map, List.getElem?_set]
    by_cases e : i = k
    · subst e
      rw [if_pos rfl, if_pos hw, List.getElem?_eq_getElem hw]
      simp only [Option.map_some, Option.some.injEq]
      rw [List.getD_eq_getElem?_getD, List.getElem?_eq_getElem hw]; rfl
    · rw [if_neg e]
  · by_cases hj : j < ws.length
    · rw [set_getD tz hj]
      by_cases e : i = j
      · subst e; rw [if_pos rfl]; show (List.replicate _ _).length = _; rw [List.length_replicate, h.l]
      · rw [if_neg e, h.l]
    · have e1 : (ws.set i ((ws.getD i tz).with (List.replicate (ws.getD i tz).bs.length (mkB i)))).getD j tz = ws.getD j tz := by
        rw [getD_noneT (by rw [List.length_set]; omega), getD_noneT (by omega)]
      rw [e1, h.l]
  · rw [set_getD tz (by rw [h.len]; omega)]
    by_cases e : i = j
    · subst e; rw [if_pos rfl]; show List.replicate _ _ = _; rw [h.l]
    · rw [if_neg e]; exact h.m j (by omega)
theorem Spo.rd {us ws : List Tk} {n i : Nat} {rB : List Ent} {w0 w : World} {S : List Nat} {R : List (List Ent)} {k : Nat} (h : Spo us ws n) (hn : Nst (OwnP byteV 5 Tk.lit Tk.bs) ws rB) (hM : Mem w0 S w R) (hk : R[k]? = some rB) (hi : i < us.length) : RdE byteV w (us.getD i tz).lit (ws.getD i tz).bs := by
  have := hn.rdE hM hk _ (getD_memG tz (show i < ws.length by rw [h.len]; exact hi))
  rwa [h.lit i] at this
theorem own_lit {us ws : List Tk} {n i : Nat} {ra : List Ent} (h : Spo us ws n) (hq : OwnP byteV 5 Tk.lit Tk.bs (ws.getD i tz) ra) : SlE byteV 5 (us.getD i tz).lit (ws.getD i tz).bs ra := by
  have h9 : SlE byteV 5 (ws.getD i tz).lit (ws.getD i tz).bs ra := hq
  rwa [h.lit i] at h9
theorem lit_own {us ws : List Tk} {n i : Nat} {ra : List Ent} {l : List UInt8} (h : Spo us ws n) (hq : SlE byteV 5 (us.getD i tz).lit l ra) : OwnP byteV 5 Tk.lit Tk.bs ((ws.getD i tz).with l) ra := by
  show SlE byteV 5 (ws.getD i tz).lit l ra
  rw [h.lit i]; exact hq
theorem mk_at {us ws : List Tk} {n i k : Nat} (hS : Spo us ws n) (hi : i < n) (hk : k < (ws.getD i tz).bs.length) : ((((ws.getD i tz).bs.getD k 0).toNat : Nat) : Int) = ((i : Nat) : Int) % 251 % 256 := by
  have hl := hS.l i
  rw [hS.m i hi, repG 0 (by omega)]; exact mk_n i
theorem open_perm {a r x y : List Ent} (h : r.Perm (x ++ y)) : [a, y, x].flatten.Perm [a, r].flatten := by
  simp only [List.flatten_cons, List.flatten_nil, List.append_nil]
  exact List.Perm.append_left _ (List.perm_append_comm.trans h.symm)
theorem shut_perm {a x y : List Ent} : [a, x ++ y].flatten.Perm [a, y, x].flatten := by
  simp only [List.flatten_cons, List.flatten_nil, List.append_nil]
  exact List.Perm.append_left _ List.perm_append_comm
theorem wr_step {l : List UInt8} {k : Nat} {m : UInt8} (h : k < l.length) : (List.replicate k m ++ l.drop k).set k m = List.replicate (k + 1) m ++ l.drop (k + 1) := by
  rw [List.set_append_right _ _ (by simp), List.length_replicate, Nat.sub_self, dropG 0 h, List.set_cons_zero, List.replicate_succ', List.append_assoc]; rfl
theorem Gr.old {α : Type} {E : α → Value} {t : TypeId} {a x : Value} {p l : List α} {r : List Ent} (h : Gr E t a x p l r) : ∃ ra rest, r.Perm (ra ++ rest) ∧ SlE E t a p ra := by
  rcases h with ⟨b, cap, tail, h1, h2, h3, h4, h5⟩ | ⟨rx, ra, rfl, h1, h2⟩
  · exact ⟨r, [], by simp, ⟨by simp, .inr ⟨b, cap, l.map E ++ tail, h1, by rw [h3]; simp, by simp at h4; omega, by simp at h5 h4 ⊢; omega⟩⟩⟩
  · exact ⟨ra, rx, List.perm_append_comm, h2⟩
theorem set_self {ws : List Tk} {i : Nat} (h : i < ws.length) : ws.set i (ws.getD i tz) = ws := by
  rw [List.getD_eq_getElem?_getD, List.getElem?_eq_getElem h]; simp
theorem shut_gr {us ws : List Tk} {n i : Nat} {rb rg : List Ent} {x : Value} {l : List UInt8} (h : Spo us ws n) (hi : i < us.length) (hcl : ∀ p c, OwnP byteV 5 Tk.lit Tk.bs p c → Nst (OwnP byteV 5 Tk.lit Tk.bs) (ws.set i p) (c ++ rb)) (hg : Gr byteV 5 (us.getD i tz).lit x (ws.getD i tz).bs l rg) : Nst (OwnP byteV 5 Tk.lit Tk.bs) ws (rb ++ rg) := by
  obtain ⟨ra, rest, hp, hs⟩ := hg.old
  have h1 := hcl (ws.getD i tz) ra (by show SlE byteV 5 (ws.getD i tz).lit _ ra; rw [h.lit i]; exact hs)
  rw [set_self (by rw [h.len]; exact hi)] at h1
  refine (h1.more rest).perm ?_
  refine ((hp.append_left rb)).trans ?_
  rw [← List.append_assoc]
  exact List.perm_append_comm.append_right rest

/-- winnowlaw3.spoilt -/
theorem spoilt_ok (x : Value) (us : List Tk) (rA rB0 : List Ent) (w : World) (hs : SlS tokC 3 31 x us rA) (hn0 : Nst (OwnP byteV 5 Tk.lit Tk.bs) us rB0) (hr : Res w (rA ++ rB0)) (hul : us.length ≤ 65536) (hbd : ∀ t ∈ us, t.bs.length ≤ 65536) : Calls Try.prog 30 [x].toArray w (Rt fun r w' => ∃ N : Nat, r = .int .i64 ((N : Nat) : Int) ∧ Mem w (ids (rA ++ rB0)) w' [rA]) := by
  have hM0 : Mem w (ids (rA ++ rB0)) w [rA, rB0] := (Mem.start hr).keep (by simp)
  refine calls_vc mixed Try.func30 rfl C30 (by simp [Try.ntmps30]) ?_
  refine seq fun K1 h1 => ?_
  refine stp (v := .int .i64 0) (o_mv rfl) ?_
  refine h1 _ _ ?_
  clear h1
  refine seq fun K2 h2 => ?_
  refine seq fun K3 h3 => ?_
  refine stp (v := .int .i64 0) (o_mv rfl) ?_
  refine h3 _ _ ?_
  clear h3
  refine lp (n := fun _ _ => False) (ι := (Nat) × (List Tk) × (List Ent)) (fun ⟨i, ws, rB⟩ f w' => f 3 = .int .i64 (i : Nat) ∧ f 0 = x ∧ Mem w (ids (rA ++ rB0)) w' [rA, rB] ∧ (i ≤ us.length) ∧ (Nst (OwnP byteV 5 Tk.lit Tk.bs) ws rB) ∧ (Spo us ws i)) (fun ⟨i, ws, rB⟩ => us.length - i) (0, us, rB0) ?_ ?_
  · exact ⟨by first | rfl | exact v_int (by omega) | exact v_int (by simp) | exact v_int (by simp; omega), rfl, hM0, by omega, hn0, Spo.init us⟩
  · rintro ⟨i, ws, rB⟩ f w4 ⟨e4_3, e4_0, hM4, hi, hn, hS⟩ K5 h5
    obtain ⟨frm, rfl⟩ : ∃ frm, f = (upd (upd frm 3 (.int .i64 (i : Nat))) 0 (x)) := ⟨f, by rw [upd_self e4_3, upd_self e4_0]⟩
    clear e4_3 e4_0
    refine seq fun K6 h6 => ?_
    refine seq fun K7 h7 => ?_
    refine stp (v := .int .i64 (i : Nat)) (o_mv rfl) ?_
    refine stp (v := x) (o_mv rfl) ?_
    refine stp (v := .int .i64 (us.length : Nat)) (o_lenR (hs.rd hM4 (i := 0) rfl) rfl rfl) ?_
    refine stp (v := .bool (decide (((i : Nat) : Int) < (us.length : Nat)))) (o_bin rfl rfl rfl) ?_
    refine h7 _ _ ?_
    clear h7
    refine cndP rfl (fun c8 => ?_) (fun c8 => ?_)
    ·
      refine h6 _ _ ?_
      clear h6
      refine seq fun K9 h9 => ?_
      refine seq fun K10 h10 => ?_
      obtain ⟨ra, rb, hpm, hqo, hcl⟩ := hn.open tz (i := i) (by rw [hS.len]; omega)
      have hM11 : Mem w (ids (rA ++ rB0)) w4 [rA, rb, ra] := hM4.perm (open_perm hpm)
      have hgl : (ws.getD i tz).bs.length ≤ 65536 := by rw [hS.l]; exact hbd _ (getD_memG tz (by omega))
      have hsI : SlE byteV 5 (us.getD i tz).lit (ws.getD i tz).bs ra := own_lit hS hqo
      refine stp (v := .int .i64 0) (o_mv rfl) ?_
      refine h10 _ _ ?_
      clear h10
      refine lp (n := fun _ _ => False) (ι := (Nat) × (List Ent)) (fun ⟨k, r2⟩ f w' => f 4 = .int .i64 (k : Nat) ∧ f 0 = x ∧ f 3 = .int .i64 (i : Nat) ∧ Mem w (ids (rA ++ rB0)) w' [rA, rb, r2] ∧ (SlE byteV 5 (us.getD i tz).lit (List.replicate k (mkB i) ++ List.drop k (ws.getD i tz).bs) r2) ∧ (k ≤ (ws.getD i tz).bs.length) ∧ ((List.replicate k (mkB i) ++ List.drop k (ws.getD i tz).bs).length = (ws.getD i tz).bs.length)) (fun ⟨k, r2⟩ => (ws.getD i tz).bs.length - k) (0, ra) ?_ ?_
      · exact ⟨by first | rfl | exact v_int (by omega) | exact v_int (by simp) | exact v_int (by simp; omega), rfl, by first | rfl | exact v_int (by omega) | exact v_int (by simp) | exact v_int (by simp; omega), hM11, by simpa using hsI, by omega, by rw [List.length_append, List.length_replicate, List.length_drop]; omega⟩
      · rintro ⟨k, r2⟩ f w12 ⟨e12_4, e12_0, e12_3, hM12, hsK, hk, hLl⟩ K13 h13
        obtain ⟨frm, rfl⟩ : ∃ frm, f = (upd (upd (upd frm 4 (.int .i64 (k : Nat))) 0 (x)) 3 (.int .i64 (i : Nat))) := ⟨f, by rw [upd_self e12_4, upd_self e12_0, upd_self e12_3]⟩
        clear e12_4 e12_0 e12_3
        refine seq fun K14 h14 => ?_
        refine seq fun K15 h15 => ?_
        refine stp (v := .int .i64 (k : Nat)) (o_mv rfl) ?_
        refine stp (v := x) (o_mv rfl) ?_
        refine stp (v := .int .i64 (i : Nat)) (o_mv rfl) ?_
        refine m_idxS tz (j := i) (hs.rd hM12 (i := 0) rfl) rfl rfl (by omega) fun b16 o16 hp16 => ?_
        refine stp (v := .pointer (some ⟨b16, o16, none⟩)) (o_fa rfl rfl) ?_
        refine ld (v := (us.getD i tz).lit) rfl (hp16.get 0 rfl) ?_
        refine stp (v := .int .i64 ((List.replicate k (mkB i) ++ List.drop k (ws.getD i tz).bs).length : Nat)) (o_lenR (hsK.rd hM12 (i := 2) rfl) rfl rfl) ?_
        refine stp (v := .bool (decide (((k : Nat) : Int) < ((List.replicate k (mkB i) ++ List.drop k (ws.getD i tz).bs).length : Nat)))) (o_bin rfl rfl rfl) ?_
        refine h15 _ _ ?_
        clear h15
        refine cndP rfl (fun c17 => ?_) (fun c17 => ?_)
        ·
          refine h14 _ _ ?_
          clear h14
          refine seq fun K18 h18 => ?_
          refine stp (v := x) (o_mv rfl) ?_
          refine stp (v := .int .i64 (i : Nat)) (o_mv rfl) ?_
          refine m_idxS tz (j := i) (hs.rd hM12 (i := 0) rfl) rfl rfl (by omega) fun b19 o19 hp19 => ?_
          refine stp (v := .pointer (some ⟨b19, o19, none⟩)) (o_fa rfl rfl) ?_
          refine ld (v := (us.getD i tz).lit) rfl (hp19.get 0 rfl) ?_
          refine stp (v := .int .i64 (k : Nat)) (o_mv rfl) ?_
          refine stp (v := .int .i64 (i : Nat)) (o_mv rfl) ?_
          refine stp (v := .int .i64 ((i : Nat) % 251)) (o_rem rfl rfl (by omega) (v_rem (by omega))) ?_
          refine stp (v := .int .u8 (((i : Nat) % 251) % 256)) (o_conv rfl (v_u8 _)) ?_
          refine m_set (E := byteV) (q := (mkB i)) (j := k) hM12 (i := 2) rfl hsK rfl rfl (by omega) (by simp) (mk_v i) fun w20 r20 u20 he20 hs20 (hM20 : Mem w (ids (rA ++ rB0)) w20 [rA, rb, r20]) => ?_
          refine h18 _ _ ?_
          clear h18
          refine stp (v := .int .i64 (k : Nat)) (o_mv rfl) ?_
          refine stp (v := .int .i64 ((k : Nat) + 1)) (o_bin rfl rfl (v_add64 (by constructor <;> omega))) ?_
          refine stp (v := .int .i64 ((k : Nat) + 1)) (o_mv rfl) ?_
          refine h13 (k + 1, r20) _ _ ⟨by first | rfl | exact v_int (by omega) | exact v_int (by simp) | exact v_int (by simp; omega), rfl, by first | rfl | exact v_int (by omega) | exact v_int (by simp) | exact v_int (by simp; omega), hM20, by rw [← wr_step (by omega)]; exact hs20, by omega, by rw [List.length_append, List.length_replicate, List.length_drop]; omega⟩ (by dsimp only; omega)
        ·
          refine h9 _ _ ?_
          clear h9
          have hkk : k = (ws.getD i tz).bs.length := by omega
          have hsE : SlE byteV 5 (us.getD i tz).lit (List.replicate (ws.getD i tz).bs.length (mkB i)) r2 := by have h9 := hsK; rw [hkk, List.drop_length, List.append_nil] at h9; exact h9
          refine stp (v := .int .i64 (i : Nat)) (o_mv rfl) ?_
          refine stp (v := .int .i64 ((i : Nat) + 1)) (o_bin rfl rfl (v_add64 (by constructor <;> omega))) ?_
          refine stp (v := .int .i64 ((i : Nat) + 1)) (o_mv rfl) ?_
          refine h5 (i + 1, ws.set i ((ws.getD i tz).with (List.replicate (ws.getD i tz).bs.length (mkB i))), r2 ++ rb) _ _ ⟨by first | rfl | exact v_int (by omega) | exact v_int (by simp) | exact v_int (by simp; omega), rfl, hM12.perm shut_perm, by omega, hcl _ _ (lit_own hS hsE), hS.step (by omega)⟩ (by dsimp only; omega)
    ·
      refine h2 _ _ ?_
      clear h2
      refine seq fun K21 h21 => ?_
      refine stp (v := .int .i64 0) (o_mv rfl) ?_
      refine h21 _ _ ?_
      clear h21
      refine seq fun K22 h22 => ?_
      refine seq fun K23 h23 => ?_
      refine stp (v := .int .i64 0) (o_mv rfl) ?_
      refine h23 _ _ ?_
      clear h23
      refine lp (n := fun _ _ => False) (ι := (Nat) × (List Ent) × (Nat)) (fun ⟨i, rB, N⟩ f w' => f 5 = .int .i64 (N : Nat) ∧ f 6 = .int .i64 (i : Nat) ∧ f 0 = x ∧ Mem w (ids (rA ++ rB0)) w' [rA, rB] ∧ (i ≤ us.length) ∧ (Nst (OwnP byteV 5 Tk.lit Tk.bs) ws rB) ∧ (Spo us ws us.length) ∧ (N ≤ i * 65600)) (fun ⟨i, rB, N⟩ => us.length - i) (0, rB, 0) ?_ ?_
      · exact ⟨by first | rfl | exact v_int (by omega) | exact v_int (by simp) | exact v_int (by simp; omega), by first | rfl | exact v_int (by omega) | exact v_int (by simp) | exact v_int (by simp; omega), rfl, hM4, by omega, hn, by (obtain rfl : i = us.length := by omega); exact hS, by omega⟩
      · rintro ⟨i, rB, N⟩ f w24 ⟨e24_5, e24_6, e24_0, hM24, hi, hn, hS, hN⟩ K25 h25
        obtain ⟨frm, rfl⟩ : ∃ frm, f = (upd (upd (upd frm 5 (.int .i64 (N : Nat))) 6 (.int .i64 (i : Nat))) 0 (x)) := ⟨f, by rw [upd_self e24_5, upd_self e24_6, upd_self e24_0]⟩
        clear e24_5 e24_6 e24_0
        refine seq fun K26 h26 => ?_
        refine seq fun K27 h27 => ?_
        refine stp (v := .int .i64 (i : Nat)) (o_mv rfl) ?_
        refine stp (v := x) (o_mv rfl) ?_
        refine stp (v := .int .i64 (us.length : Nat)) (o_lenR (hs.rd hM24 (i := 0) rfl) rfl rfl) ?_
        refine stp (v := .bool (decide (((i : Nat) : Int) < (us.length : Nat)))) (o_bin rfl rfl rfl) ?_
        refine h27 _ _ ?_
        clear h27
        refine cndP rfl (fun c28 => ?_) (fun c28 => ?_)
        ·
          refine h26 _ _ ?_
          clear h26
          refine seq fun K29 h29 => ?_
          refine seq fun K30 h30 => ?_
          obtain ⟨ra, rb, hpm, hqo, hcl⟩ := hn.open tz (i := i) (by rw [hS.len]; omega)
          have hM31 : Mem w (ids (rA ++ rB0)) w24 [rA, rb, ra] := hM24.perm (open_perm hpm)
          have hgl : (ws.getD i tz).bs.length ≤ 65536 := by rw [hS.l]; exact hbd _ (getD_memG tz (by omega))
          have hsI : SlE byteV 5 (us.getD i tz).lit (ws.getD i tz).bs ra := own_lit hS hqo
          refine stp (v := x) (o_mv rfl) ?_
          refine stp (v := .int .i64 (i : Nat)) (o_mv rfl) ?_
          refine m_idxS tz (j := i) (hs.rd hM31 (i := 0) rfl) rfl rfl (by omega) fun b32 o32 hp32 => ?_
          refine stp (v := .pointer (some ⟨b32, o32, none⟩)) (o_fa rfl rfl) ?_
          refine ld (v := (us.getD i tz).lit) rfl (hp32.get 0 rfl) ?_
          refine stp (v := (us.getD i tz).lit) (o_mv rfl) ?_
          refine h30 _ _ ?_
          clear h30
          refine seq fun K33 h33 => ?_
          refine seq fun K34 h34 => ?_
          refine stp (v := .int .i64 0) (o_mv rfl) ?_
          refine h34 _ _ ?_
          clear h34
          refine lp (n := fun _ _ => False) (ι := (Nat) × (Value) × (List Ent)) (fun ⟨j, xg, rg⟩ f w' => f 7 = xg ∧ f 8 = .int .i64 (j : Nat) ∧ f 0 = x ∧ f 5 = .int .i64 (N : Nat) ∧ f 6 = .int .i64 (i : Nat) ∧ Mem w (ids (rA ++ rB0)) w' [rA, rb, rg] ∧ (Gr byteV 5 (us.getD i tz).lit xg (ws.getD i tz).bs (List.replicate j (255 : UInt8)) rg) ∧ (j ≤ 64)) (fun ⟨j, xg, rg⟩ => 64 - j) (0, ((us.getD i tz).lit), ra) ?_ ?_
          · exact ⟨rfl, by first | rfl | exact v_int (by omega) | exact v_int (by simp) | exact v_int (by simp; omega), rfl, by first | rfl | exact v_int (by omega) | exact v_int (by simp) | exact v_int (by simp; omega), by first | rfl | exact v_int (by omega) | exact v_int (by simp) | exact v_int (by simp; omega), hM31, Gr.zero hsI, by omega⟩
          · rintro ⟨j, xg, rg⟩ f w35 ⟨e35_7, e35_8, e35_0, e35_5, e35_6, hM35, hg, hj⟩ K36 h36
            obtain ⟨frm, rfl⟩ : ∃ frm, f = (upd (upd (upd (upd (upd frm 7 (xg)) 8 (.int .i64 (j : Nat))) 0 (x)) 5 (.int .i64 (N : Nat))) 6 (.int .i64 (i : Nat))) := ⟨f, by rw [upd_self e35_7, upd_self e35_8, upd_self e35_0, upd_self e35_5, upd_self e35_6]⟩
            clear e35_7 e35_8 e35_0 e35_5 e35_6
            refine seq fun K37 h37 => ?_
            refine seq fun K38 h38 => ?_
            refine stp (v := .int .i64 (j : Nat)) (o_mv rfl) ?_
            refine stp (v := .bool (decide (((j : Nat) : Int) < 64))) (o_bin rfl rfl rfl) ?_
            refine h38 _ _ ?_
            clear h38
            refine cndP rfl (fun c39 => ?_) (fun c39 => ?_)
            ·
              refine h37 _ _ ?_
              clear h37
              refine seq fun K40 h40 => ?_
              refine stp (v := xg) (o_mv rfl) ?_
              refine m_grow1 (E := byteV) (q := 255) hM35 (i := 2) rfl hg rfl (by simp) (rfl) (by rw [List.length_replicate]; omega) (by omega) fun v41 w41 r41 u41 hs41 (hM41 : Mem w (ids (rA ++ rB0)) w41 [rA, rb, r41]) => ?_
              refine stp (v := v41) (o_mv rfl) ?_
              refine h40 _ _ ?_
              clear h40
              refine stp (v := .int .i64 (j : Nat)) (o_mv rfl) ?_
              refine stp (v := .int .i64 ((j : Nat) + 1)) (o_bin rfl rfl (v_add64 (by constructor <;> omega))) ?_
              refine stp (v := .int .i64 ((j : Nat) + 1)) (o_mv rfl) ?_
              refine h36 (j + 1, v41, r41) _ _ ⟨rfl, by first | rfl | exact v_int (by omega) | exact v_int (by simp) | exact v_int (by simp; omega), rfl, by first | rfl | exact v_int (by omega) | exact v_int (by simp) | exact v_int (by simp; omega), by first | rfl | exact v_int (by omega) | exact v_int (by simp) | exact v_int (by simp; omega), hM41, by rw [List.replicate_succ']; exact hs41, by omega⟩ (by dsimp only; omega)
            ·
              refine h33 _ _ ?_
              clear h33
              refine stp (v := .int .i64 (N : Nat)) (o_mv rfl) ?_
              refine stp (v := xg) (o_mv rfl) ?_
              refine stp (v := .int .i64 ((((ws.getD i tz).bs) ++ (List.replicate j (255 : UInt8))).length : Nat)) (o_lenR (hg.rdx hM35 (i := 2) rfl) rfl rfl) ?_
              refine stp (v := .int .i64 (N + ((ws.getD i tz).bs ++ List.replicate j (255 : UInt8)).length : Nat)) (o_bin rfl rfl ((v_add64 (by rw [List.length_append, List.length_replicate]; omega)).trans (v_int (by omega)))) ?_
              refine stp (v := .int .i64 (N + ((ws.getD i tz).bs ++ List.replicate j (255 : UInt8)).length : Nat)) (o_mv rfl) ?_
              refine h29 _ _ ?_
              clear h29
              refine stp (v := .int .i64 (i : Nat)) (o_mv rfl) ?_
              refine stp (v := .int .i64 ((i : Nat) + 1)) (o_bin rfl rfl (v_add64 (by constructor <;> omega))) ?_
              refine stp (v := .int .i64 ((i : Nat) + 1)) (o_mv rfl) ?_
              refine h25 (i + 1, rb ++ rg, N + ((ws.getD i tz).bs ++ List.replicate j (255 : UInt8)).length) _ _ ⟨by first | rfl | exact v_int (by omega) | exact v_int (by simp) | exact v_int (by simp; omega), by first | rfl | exact v_int (by omega) | exact v_int (by simp) | exact v_int (by simp; omega), rfl, hM35.keep (by simp), by omega, shut_gr hS (by omega) hcl hg, hS, by rw [List.length_append, List.length_replicate]; omega⟩ (by dsimp only; omega)
        ·
          refine h22 _ _ ?_
          clear h22
          refine seq fun K42 h42 => ?_
          refine seq fun K43 h43 => ?_
          refine stp (v := .int .i64 0) (o_mv rfl) ?_
          refine h43 _ _ ?_
          clear h43
          refine lp (n := fun _ _ => False) (ι := (Nat)) (fun i f w' => f 9 = .int .i64 (i : Nat) ∧ f 0 = x ∧ f 5 = .int .i64 (N : Nat) ∧ Mem w (ids (rA ++ rB0)) w' [rA, rB] ∧ (i ≤ us.length) ∧ (Spo us ws us.length)) (fun i => us.length - i) (0) ?_ ?_
          · exact ⟨by first | rfl | exact v_int (by omega) | exact v_int (by simp) | exact v_int (by simp; omega), rfl, by first | rfl | exact v_int (by omega) | exact v_int (by simp) | exact v_int (by simp; omega), hM24, by omega, hS⟩
          · rintro i f w44 ⟨e44_9, e44_0, e44_5, hM44, hi, hS⟩ K45 h45
            obtain ⟨frm, rfl⟩ : ∃ frm, f = (upd (upd (upd frm 9 (.int .i64 (i : Nat))) 0 (x)) 5 (.int .i64 (N : Nat))) := ⟨f, by rw [upd_self e44_9, upd_self e44_0, upd_self e44_5]⟩
            clear e44_9 e44_0 e44_5
            refine seq fun K46 h46 => ?_
            refine seq fun K47 h47 => ?_
            refine stp (v := .int .i64 (i : Nat)) (o_mv rfl) ?_
            refine stp (v := x) (o_mv rfl) ?_
            refine stp (v := .int .i64 (us.length : Nat)) (o_lenR (hs.rd hM44 (i := 0) rfl) rfl rfl) ?_
            refine stp (v := .bool (decide (((i : Nat) : Int) < (us.length : Nat)))) (o_bin rfl rfl rfl) ?_
            refine h47 _ _ ?_
            clear h47
            refine cndP rfl (fun c48 => ?_) (fun c48 => ?_)
            ·
              refine h46 _ _ ?_
              clear h46
              refine seq fun K49 h49 => ?_
              refine seq fun K50 h50 => ?_
              refine stp (v := .int .i64 0) (o_mv rfl) ?_
              refine h50 _ _ ?_
              clear h50
              refine lp (n := fun _ _ => False) (ι := (Nat)) (fun k f w' => f 10 = .int .i64 (k : Nat) ∧ f 0 = x ∧ f 5 = .int .i64 (N : Nat) ∧ f 9 = .int .i64 (i : Nat) ∧ Mem w (ids (rA ++ rB0)) w' [rA, rB] ∧ (k ≤ (ws.getD i tz).bs.length)) (fun k => (ws.getD i tz).bs.length - k) (0) ?_ ?_
              · exact ⟨by first | rfl | exact v_int (by omega) | exact v_int (by simp) | exact v_int (by simp; omega), rfl, by first | rfl | exact v_int (by omega) | exact v_int (by simp) | exact v_int (by simp; omega), by first | rfl | exact v_int (by omega) | exact v_int (by simp) | exact v_int (by simp; omega), hM44, by omega⟩
              · rintro k f w51 ⟨e51_10, e51_0, e51_5, e51_9, hM51, hk⟩ K52 h52
                obtain ⟨frm, rfl⟩ : ∃ frm, f = (upd (upd (upd (upd frm 10 (.int .i64 (k : Nat))) 0 (x)) 5 (.int .i64 (N : Nat))) 9 (.int .i64 (i : Nat))) := ⟨f, by rw [upd_self e51_10, upd_self e51_0, upd_self e51_5, upd_self e51_9]⟩
                clear e51_10 e51_0 e51_5 e51_9
                refine seq fun K53 h53 => ?_
                refine seq fun K54 h54 => ?_
                have hgl : (ws.getD i tz).bs.length ≤ 65536 := by rw [hS.l]; exact hbd _ (getD_memG tz (by omega))
                refine stp (v := .int .i64 (k : Nat)) (o_mv rfl) ?_
                refine stp (v := x) (o_mv rfl) ?_
                refine stp (v := .int .i64 (i : Nat)) (o_mv rfl) ?_
                refine m_idxS tz (j := i) (hs.rd hM51 (i := 0) rfl) rfl rfl (by omega) fun b55 o55 hp55 => ?_
                refine stp (v := .pointer (some ⟨b55, o55, none⟩)) (o_fa rfl rfl) ?_
                refine ld (v := (us.getD i tz).lit) rfl (hp55.get 0 rfl) ?_
                refine stp (v := .int .i64 (((ws.getD i tz).bs).length : Nat)) (o_lenR ((hS.rd hn hM51 (i := i) (k := 1) rfl (by omega))) rfl rfl) ?_
                refine stp (v := .bool (decide (((k : Nat) : Int) < (((ws.getD i tz).bs).length : Nat)))) (o_bin rfl rfl rfl) ?_
                refine h54 _ _ ?_
                clear h54
                refine cndP rfl (fun c56 => ?_) (fun c56 => ?_)
                ·
                  refine h53 _ _ ?_
                  clear h53
                  refine seq fun K57 h57 => ?_
                  refine seq fun K58 h58 => ?_
                  refine stp (v := x) (o_mv rfl) ?_
                  refine stp (v := .int .i64 (i : Nat)) (o_mv rfl) ?_
                  refine m_idxS tz (j := i) (hs.rd hM51 (i := 0) rfl) rfl rfl (by omega) fun b59 o59 hp59 => ?_
                  refine stp (v := .pointer (some ⟨b59, o59, none⟩)) (o_fa rfl rfl) ?_
                  refine ld (v := (us.getD i tz).lit) rfl (hp59.get 0 rfl) ?_
                  refine stp (v := .int .i64 (k : Nat)) (o_mv rfl) ?_
                  refine m_idxE 0 (j := k) ((hS.rd hn hM51 (i := i) (k := 1) rfl (by omega))) rfl rfl (by omega) fun b60 o60 hp60 => ?_
                  refine ld (v := byteV (((ws.getD i tz).bs).getD k 0)) rfl (hp60) ?_
                  refine stp (v := .int .i64 (i : Nat)) (o_mv rfl) ?_
                  refine stp (v := .int .i64 ((i : Nat) % 251)) (o_rem rfl rfl (by omega) (v_rem (by omega))) ?_
                  refine stp (v := .int .u8 (((i : Nat) % 251) % 256)) (o_conv rfl (v_u8 _)) ?_
                  refine stp (v := .bool (decide (¬ ((((ws.getD i tz).bs).getD k 0).toNat : Int) = (((i : Nat) % 251) % 256)))) (o_bin rfl rfl v_neq) ?_
                  refine h58 _ _ ?_
                  clear h58
                  refine cndP rfl (fun c61 => absurd c61 (fun h => h (mk_at hS (by omega) (by omega)))) (fun c61 => ?_)
                  refine h57 _ _ ?_
                  clear h57
                  refine stp (v := .int .i64 (k : Nat)) (o_mv rfl) ?_
                  refine stp (v := .int .i64 ((k : Nat) + 1)) (o_bin rfl rfl (v_add64 (by constructor <;> omega))) ?_
                  refine stp (v := .int .i64 ((k : Nat) + 1)) (o_mv rfl) ?_
                  refine h52 (k + 1) _ _ ⟨by first | rfl | exact v_int (by omega) | exact v_int (by simp) | exact v_int (by simp; omega), rfl, by first | rfl | exact v_int (by omega) | exact v_int (by simp) | exact v_int (by simp; omega), by first | rfl | exact v_int (by omega) | exact v_int (by simp) | exact v_int (by simp; omega), hM51, by omega⟩ (by (try dsimp only); omega)
                ·
                  refine h49 _ _ ?_
                  clear h49
                  refine stp (v := .int .i64 (i : Nat)) (o_mv rfl) ?_
                  refine stp (v := .int .i64 ((i : Nat) + 1)) (o_bin rfl rfl (v_add64 (by constructor <;> omega))) ?_
                  refine stp (v := .int .i64 ((i : Nat) + 1)) (o_mv rfl) ?_
                  refine h45 (i + 1) _ _ ⟨by first | rfl | exact v_int (by omega) | exact v_int (by simp) | exact v_int (by simp; omega), rfl, by first | rfl | exact v_int (by omega) | exact v_int (by simp) | exact v_int (by simp; omega), hM51, by omega, hS⟩ (by (try dsimp only); omega)
            ·
              refine h42 _ _ ?_
              clear h42
              refine seq fun K62 h62 => ?_
              refine stp (v := .int .i64 (N : Nat)) (o_mv rfl) ?_
              refine stp (v := .int .i64 (N : Nat)) (o_mv rfl) ?_
              refine h62 _ _ ?_
              clear h62
              refine ⟨(.int .i64 (N : Nat)), rfl, ?_⟩
              exact ⟨N, rfl, hM44.keep (by simp)⟩
