/- More steps: append of zeros, structs at pointers. -/
import Derived.Test.YtnkilhmkegmenaaE16
namespace Go.Proofs.Ytnkilhmkegmenaa.E
open Go
section
variable {P : Program} {r : List MI} {f : Fr} {w : World} {K : Fr → World → Prop} {d : Nat} {v : Value} {w0 : World} {S : List Nat} {R : List (List Ent)}
/-- append(l, make([]T, m)...) -/
theorem m_appz {α : Type} {E : α → Value} [One E] (z : α) {t : TypeId} {bytes : Nat} {z' : Value} {x y : Operand} {l : List α} {i c m : Nat} {k : IntKind} {rs : List Ent} (hz : z' = E z) (hM : Mem w0 S w R) (hi : R[i]? = some rs) (hs : SlE E t v l rs) (hx : ev f x = v) (hy : ev f y = .int k m)
    (hb : (l.length + m) * bytes ≤ 175921860444160) (hb0 : 0 < bytes ∧ bytes < 65536)
    (h : ∀ v' w' r', SlE E t v' (l ++ List.replicate m z) r' → Mem w0 S w' (R.set i r') → vr P r (upd f c v') w' K) : vr P (.l none (some c) (.appz t bytes 1 [z'] x y) :: r) f w K := by
  subst hz
  have hf : ∃ a c, v = .slice a l.length c := by
    rcases hs.form with ⟨rfl, h, _⟩ | ⟨b, c, _, rfl, _⟩
    · exact ⟨_, _, by rw [h]⟩
    · exact ⟨_, _, rfl⟩
  obtain ⟨a, c', rfl⟩ := hf
  have hb1 : l.length + m ≤ 175921860444160 := Nat.le_trans (Nat.le_mul_of_pos_right _ hb0.1) hb
  have hb2 : m * bytes ≤ 175921860444160 := Nat.le_trans (Nat.mul_le_mul_right _ (by omega)) hb
  show kslice (ev f x) _; rw [hx]; show anyint (ev f y) _; rw [hy]
  refine ⟨⟨by omega, by omega, ?_⟩, ?_, ?_⟩
  · have : ((m * bytes : Nat) : Int) ≤ 175921860444160 := by omega
    rw [Int.mul_comm, ← Int.natCast_mul, show (2 : Int) ^ 48 = 281474976710656 from rfl]; omega
  · rw [Int.toNat_natCast]; show ((l.length + m : Nat) : Int) ≤ 9223372036854775807; omega
  · rw [Int.toNat_natCast, repC_one]
    refine grow_sl hM hi hs (by simp) (fun c hc => ?_) rfl hb hb0 fun v' w' r' h1 h2 => h v' w' r' ?_ h2
    · rw [List.eq_of_mem_replicate hc]; exact One.one z
    · show Sl 1 t v' (l ++ List.replicate m z).length _ r'
      rw [List.map_append, List.map_replicate, List.length_append, List.length_replicate]; exact h1
theorem m_bsU {t : TypeId} {n q : Nat} {z : List Value} {ps : List (Nat × Nat × Operand)} {cs : List Value} (hM : Mem w0 S w R) (hc : fillC z (ps.map fun (o, s, x) => (o, s, ev f x)) = some cs) (h : ∀ b w', Upd [] w w' → Mem w0 S w' (R ++ [[⟨b, t, cs⟩]]) → vr P r (upd f d (.slice (some ⟨b, 0, none⟩) n n)) w' K) :
    vr P (.l none (some d) (.bs t n q z ps) :: r) f w K :=
  m_bs (Mem.nil w []) hc fun b w' hM' => h b w' hM'.upd (hM.add hM')
theorem m_stU {i o b : Nat} {t : TypeId} {cs : List Value} {a x : Operand} (hM : Mem w0 S w R) (hi : R[i]? = some [⟨b, t, cs⟩]) (ha : ev f a = .pointer (some ⟨b, o, none⟩)) (hx : ev f x = v) (h1 : v.oneCell' = true) (ho : o < cs.length)
    (h : ∀ w', Upd (ids [⟨b, t, cs⟩]) w w' → Mem w0 S w' (R.set i [⟨b, t, cs.set o v⟩]) → vr P r f w' K) : vr P (.l none none (.st 1 a x) :: r) f w K :=
  m_st (Mem.start (hM.res hi)) (i := 0) rfl ha hx h1 ho fun w' hM' => h w' hM'.upd (hM.step i hi hM')
theorem m_stAU {i o b n : Nat} {t : TypeId} {cs l : List Value} {a x : Operand} (hM : Mem w0 S w R) (hi : R[i]? = some [⟨b, t, cs⟩]) (ha : ev f a = .pointer (some ⟨b, o, none⟩)) (hx : ev f x = .agg l.toArray) (hl : l.length = n) (h1 : oneCells l) (ho : o + n ≤ cs.length)
    (h : ∀ w', Upd (ids [⟨b, t, cs⟩]) w w' → Mem w0 S w' (R.set i [⟨b, t, splice cs o l⟩]) → vr P r f w' K) : vr P (.l none none (.st n a x) :: r) f w K :=
  m_stA (Mem.start (hM.res hi)) (i := 0) rfl ha hx hl h1 ho fun w' hM' => h w' hM'.upd (hM.step i hi hM')
theorem m_appEU {α : Type} {E : α → Value} [One E] {t : TypeId} {bytes : Nat} {z : Value} {x y : Operand} {l m : List α} {u : Value} {i c : Nat} {rs : List Ent} (hM : Mem w0 S w R) (hi : R[i]? = some rs) (hs : SlE E t v l rs) (hx : ev f x = v) (hy : ev f y = u) (hu : RdE E w u m) (hb : (l.length + m.length) * bytes ≤ 175921860444160) (hb0 : 0 < bytes ∧ bytes < 65536)
    (h : ∀ v' w' r', SlE E t v' (l ++ m) r' → Upd (ids rs) w w' → Mem w0 S w' (R.set i r') → vr P r (upd f c v') w' K) : vr P (.l none (some c) (.app t bytes 1 [z] x y) :: r) f w K :=
  m_appE (Mem.start (hM.res hi)) (i := 0) rfl hs hx hy hu hb hb0 fun v' w' r' h1 h2 => h v' w' r' h1 h2.upd (hM.step i hi h2)
/-- an element of the call's own slice is written; what has turned -/
theorem m_setU {α : Type} {E : α → Value} [One E] {t : TypeId} {x p y : Operand} {l : List α} {q : α} {i j : Nat} {k : IntKind} {rs : List Ent} (hM : Mem w0 S w R) (hi : R[i]? = some rs) (hs : SlE E t v l rs) (hx : ev f x = v) (hp : ev f p = .int k j) (hj : j < l.length) (hyd : y ≠ .tmp d) (hy : ev f y = E q)
    (h : ∀ w' r' u, r' = upR E (l.set j q) rs → SlE E t v (l.set j q) r' → Mem w0 S w' (R.set i r') → Upd (ids rs) w w' → vr P r (upd f d u) w' K) : vr P (.p none d (.idx 1 x p) :: .l none none (.st 1 (.tmp d) y) :: r) f w K :=
  m_set (Mem.start (hM.res hi)) (i := 0) rfl hs hx hp hj hyd hy fun w' r' u he hs' hM' => h w' r' u he hs' (hM.step i hi hM') hM'.upd
end
theorem byteV_of {n : Int} (h0 : 0 ≤ n) (h : n < 256) : Value.int .u8 n = byteV n.toNat.toUInt8 := by
  unfold byteV
  congr 1
  simp
  omega
theorem dset {P : Program} {hh : Option (List Nat)} {wr w : World} {r : List SI} {f : Fr} {K : Fr → World → Prop} {a b d : Nat} {o : PO} {q : LO} (h : vr P [.p none d o, .l none none q] f w fun f w => Held hh wr w ∧ vd P hh wr r f w K) : vd P hh wr (.qp a none d o :: .l b none none q :: r) f w K := h
theorem Mem.apart {w0 w : World} {S : List Nat} {R : List (List Ent)} (h : Mem w0 S w R) {i j k : Nat} {r rs : List Ent} {e : Ent} (hi : R[i]? = some r) (hj : r[j]? = some e) (hk : R[k]? = some rs) (hn : i ≠ k) : e.b ∉ ids rs := by
  have h1 := (h.res2 i k hi hk hn).2
  unfold ids at h1 ⊢
  rw [List.map_append, List.nodup_append] at h1
  intro hm
  exact h1.2.2 e.b (List.mem_map.2 ⟨e, List.mem_of_getElem? hj, rfl⟩) e.b hm rfl
theorem Sl.isSlice {sz : Nat} {t : TypeId} {v : Value} {n : Nat} {cs : List Value} {r : List Ent} (h : Sl sz t v n cs r) : ∃ a m c, v = .slice a m c := by
  rcases h.form with ⟨rfl, _⟩ | ⟨b, c, _, rfl, _⟩ <;> exact ⟨_, _, _, rfl⟩
theorem Sl.one {sz : Nat} {t : TypeId} {v : Value} {n : Nat} {cs : List Value} {r : List Ent} (h : Sl sz t v n cs r) : v.oneCell' = true := by
  obtain ⟨a, m, c, rfl⟩ := h.isSlice; rfl
theorem Rd.isSlice {w : World} {v : Value} {n : Nat} {cs : List Value} (h : Rd w v n cs) : ∃ a m c, v = .slice a m c := by
  obtain ⟨a, c, rfl, _⟩ := h.form; exact ⟨_, _, _, rfl⟩
theorem Rd.one {w : World} {v : Value} {n : Nat} {cs : List Value} (h : Rd w v n cs) : v.oneCell' = true := by
  obtain ⟨a, m, c, rfl⟩ := h.isSlice; rfl
theorem SlS.lit0 {α : Type} {enc : α → List Value} {sz b : Nat} {t : TypeId} : SlS enc sz t (.slice (some ⟨b, 0, none⟩) 0 0) [] [⟨b, t, []⟩] := ⟨by simp, .inr ⟨b, 0, [], rfl, by simp, Nat.le_refl _, by simp⟩⟩
/-- A step that touches one slot, and makes memory besides. -/
theorem Mem.stepAdd {w0 w w' : World} {S : List Nat} {R : List (List Ent)} (h : Mem w0 S w R) (i : Nat) {r r' rs : List Ent} (hi : R[i]? = some r) (l : Mem w (ids r) w' [r', rs]) : Mem w0 S w' (R.set i r' ++ [rs]) := by
  have h1 := h.step i hi (r' := r' ++ rs) (l.perm (by simp))
  refine h1.perm ?_
  have : ∀ (R : List (List Ent)) (i : Nat), R[i]? = some r → ((R.set i r').flatten ++ rs).Perm (R.set i (r' ++ rs)).flatten := by
    intro R
    induction R with
    | nil => intro i hi; simp at hi
    | cons x R ih =>
      intro i hi
      cases i with
      | zero =>
        simp only [List.set_cons_zero, List.flatten_cons, List.append_assoc]
        exact List.Perm.append_left _ List.perm_append_comm
      | succ i =>
        simp only [List.set_cons_succ, List.flatten_cons, List.append_assoc]
        exact List.Perm.append_left _ (ih i (by simpa using hi))
  simpa using this R i hi
theorem own_rdS {α : Type} {enc : α → List Value} {sz : Nat} [Enc enc sz] {w : World} {b : Nat} {t : TypeId} {cs : List Value} {l : List α} (h : Own w ⟨b, t, cs⟩) (hc : cs = l.flatMap enc) : RdS enc w (.slice (some ⟨b, 0, none⟩) l.length l.length) l :=
  ⟨some ⟨b, 0, none⟩, l.length, rfl, Nat.le_refl _, by subst hc; exact h.row fun j hj => by simp, fun h => by cases h⟩
/-- A step that touches two slots. -/
theorem Mem.step2 {w0 w w' : World} {S : List Nat} {R : List (List Ent)} (h : Mem w0 S w R) (i j : Nat) {a b a' b' : List Ent} (hi : R[i]? = some a) (hj : R[j]? = some b) (hij : i ≠ j) (l : Mem w (ids (a ++ b)) w' [a', b']) : Mem w0 S w' ((R.set i a').set j b') := by
  have key : ∀ x y : List Ent, (((R.set i []).set j []) ++ [x ++ y]).flatten.Perm ((R.set i x).set j y).flatten := by
    intro x y
    have e1 : (R.set j y)[i]? = some a := by rw [List.getElem?_set_ne (fun e => hij e.symm)]; exact hi
    have e2 : (R.set i [])[j]? = some b := by rw [List.getElem?_set_ne hij]; exact hj
    have p1 := set_perm e1 x []
    have p2 := set_perm e2 y []
    rw [List.append_nil] at p1 p2
    have c1 : (R.set i x).set j y = (R.set j y).set i x := List.set_comm _ _ hij
    have c2 : (R.set j y).set i [] = (R.set i []).set j y := (List.set_comm _ _ hij).symm
    rw [c1]
    refine List.Perm.trans ?_ p1.symm
    rw [c2]
    simp only [List.flatten_append, List.flatten_cons, List.flatten_nil, List.append_nil] at p2 ⊢
    refine List.Perm.trans ?_ (List.Perm.append_right x p2.symm)
    rw [List.append_assoc]
    exact List.Perm.append_left _ List.perm_append_comm
  have h0 : (R.set i a).set j b = R := by
    rw [set_same hi, set_same hj]
  have h1 : Mem w0 S w (((R.set i []).set j []) ++ [a ++ b]) := h.perm (by have := key a b; rwa [h0] at this)
  have h2 := h1.step (i := ((R.set i []).set j []).length) (r' := a' ++ b') (by simp) (l.perm (by simp))
  refine h2.perm ?_
  have := (key a' b').symm
  simpa using this
/-- A block and more blocks, told apart. -/
theorem Mem.start2 {w : World} {e : Ent} {r : List Ent} (h : Res w (e :: r)) : Mem w (ids (e :: r)) w [[e], r] :=
  (Mem.start h).keep (by simp)
theorem vnil {P : Program} {f : Fr} {w : World} {K : Fr → World → Prop} (h : K f w) : vr P [] f w K := h
theorem o_bld2 {f : Fr} {z : List Value} {ps : List (Nat × Nat × Operand)} {vs : List (Nat × Nat × Value)} {cs : List Value} {v : Value} (hm : (ps.map fun (o, s, x) => (o, s, ev f x)) = vs) (hc : fillC z vs = some cs) (hv : Value.agg cs.toArray = v) : PeV (.bld z ps) f v :=
  o_bld (by rw [hm]; exact hc) hv
/-- the block that a slice lies in -/
def blkV : Value → Nat | .slice (some a) _ _ => a.block | _ => 0
theorem Rd.blkV_lt {α : Type} {E : α → Value} {w : World} {v : Value} {l : List α} (h : RdE E w v l) (hl : 0 < l.length) : blkV v < w.heap.size := by
  obtain ⟨a, c, rfl, h2, h3, h4⟩ := h.form
  cases a with
  | none => have := h4 rfl; omega
  | some a =>
    obtain ⟨b, o, m⟩ := a
    cases m with
    | some m => simp only [Row] at h3; have := congrArg List.length h3; simp at this; subst this; simp at hl
    | none =>
      have h5 := h3 0 (by simpa using hl)
      rw [List.getElem?_eq_getElem (by simpa using hl)] at h5
      exact World.block_lt_of_cell? w ⟨b, o + 0, none⟩ h5
theorem m_idxE2 {α : Type} {E : α → Value} (z : α) {P : Program} {r : List MI} {f : Fr} {w : World} {K : Fr → World → Prop} {d : Nat} {x i : Operand} {u : Value} {l : List α} {j : Nat} {k : IntKind} (h : RdE E w u l) (hx : ev f x = u) (hi : ev f i = .int k j) (hj : j < l.length)
    (hk : ∀ b o, w.cell? ⟨b, o, none⟩ = some (E (l.getD j z)) → b = blkV u → vr P r (upd f d (.pointer (some ⟨b, o, none⟩))) w K) : vr P (.p none d (.idx 1 x i) :: r) f w K := by
  show pe (.idx 1 x i) f (fun v => vr P r (upd f d v) w K)
  obtain ⟨a, c, rfl, h2, h3, h4⟩ := h.form
  show kslice (ev f x) _; rw [hx]; show anyint (ev f i) _; rw [hi]; refine ⟨⟨by omega, by omega⟩, ?_⟩
  cases a with
  | none => have := h4 rfl; omega
  | some a =>
    obtain ⟨b, o, m⟩ := a
    cases m with
    | some m => simp only [Row] at h3; have := congrArg List.length h3; simp at this; subst this; simp at hj
    | none =>
      refine hk _ _ ?_ rfl
      have h5 := h3 j (by simpa using hj)
      rw [Int.toNat_natCast, Nat.mul_one, h5, List.getElem?_map, List.getElem?_eq_getElem hj, List.getD_eq_getElem?_getD, List.getElem?_eq_getElem hj]; rfl
theorem Mem.old {w0 w : World} {R : List (List Ent)} {i : Nat} {r : List Ent} (h : Mem w0 [] w R) (hi : R[i]? = some r) {b : Nat} (hb : b < w0.heap.size) : b ∉ ids r := fun hm => by
  obtain ⟨e, he, rfl⟩ := List.mem_map.1 hm
  rcases h.new e (List.mem_flatten.2 ⟨r, List.mem_of_getElem? hi, he⟩) with h | h
  · simp at h
  · omega
theorem SlE.isSome {α : Type} {E : α → Value} {t : TypeId} {v : Value} {l : List α} {r : List Ent} (h : SlE E t v l r) (hl : 0 < l.length) : ∃ b cp, v = .slice (some ⟨b, 0, none⟩) l.length cp ∧ l.length ≤ cp := by
  rcases h.form with ⟨_, h, _⟩ | ⟨b, c, tl, h, _, h2, _⟩
  · omega
  · exact ⟨b, c, h, h2⟩
theorem SlE.cutTo {α : Type} {E : α → Value} {t : TypeId} {b cp : Nat} {l m : List α} {r : List Ent} (h : SlE E t (.slice (some ⟨b, 0, none⟩) (l ++ m).length cp) (l ++ m) r) : SlE E t (.slice (some ⟨b, 0, none⟩) l.length cp) l r := by
  rcases h.form with ⟨h, _, _⟩ | ⟨b', c, tl, h, h1, h2, h3⟩
  · cases h
  · cases h
    refine ⟨by simp, .inr ⟨b, cp, m.map E ++ tl, rfl, by rw [h1]; simp, by simp at h2; omega, ?_⟩⟩
    simp only [List.length_append, List.length_map, Nat.mul_one] at h3 h2 ⊢
    omega
theorem o_slcU {f : Fr} {x y : Operand} {b n c : Nat} {k : IntKind} {j : Int} {v : Value} (hx : ev f x = .slice (some ⟨b, 0, none⟩) n c) (hy : ev f y = .int k j) (hj : 0 ≤ j ∧ j ≤ (c : Int)) (hv : Value.slice (some ⟨b, 0, none⟩) j.toNat c = v) : PeV (.slc 1 x none (some y) none) f v := fun K h => by
  subst hv
  have key : bnd ((none : Option Operand).map (ev f)) c c fun m => bnd ((some y).map (ev f)) n m fun h => bnd ((none : Option Operand).map (ev f)) 0 h fun l => K (.slice (cutAt 1 (some ⟨b, 0, none⟩) l m) (h - l) (m - l)) := by
    refine bndN ?_
    show bnd (some (ev f y)) n c _
    refine bndS hy hj ?_
    refine bndN ?_
    have e : cutAt 1 (some ⟨b, 0, none⟩) 0 c = some ⟨b, 0, none⟩ := by show (if c = 0 then _ else some (⟨b, 0 + 0 * 1, none⟩ : Addr)) = _; split <;> simp
    rw [e]; exact h
  show kslice (ev f x) _; rw [hx]; exact key
/-- A row's bytes. -/
theorem Arg.bytes {P : Program} {W : World} {t e : TypeId} {cs : List Value} (h : Arg P W t cs) (hu : P.underlying t = some (.slice e)) (he : P.underlying e = some (.int .u8)) (hb : P.bytesOf e = 1) :
    ∃ (v : Value) (l : List UInt8), cs = [v] ∧ RdE byteV W v l ∧ l.length ≤ 140737488351232 := by
  obtain ⟨v, l, h1, h2, _, h4⟩ := h.slices (enc := fun x => [byteV x]) (ok := fun _ => True) hu fun c hc _ => by
    obtain ⟨n, h1, h2⟩ := hc.int he
    simp only [inK] at h2
    exact ⟨n.toNat.toUInt8, by rw [h1, byteV_of h2.1 (by omega)], trivial⟩
  rw [hb] at h4
  refine ⟨v, l, h1, ?_, by omega⟩
  have e : ∀ l : List UInt8, l.flatMap (fun x => [byteV x]) = l.map byteV := fun l => by
    induction l with
    | nil => rfl
    | cons a l ih => rw [List.flatMap_cons, ih]; rfl
  unfold RdS at h2
  rwa [e] at h2
/-- A row's list of texts. -/
theorem Arg.strs {P : Program} {W : World} {t e : TypeId} {cs : List Value} (h : Arg P W t cs) (hu : P.underlying t = some (.slice e)) (he : P.underlying e = some .string) (hb : P.bytesOf e = 16) :
    ∃ (v : Value) (l : List (List UInt8)), cs = [v] ∧ RdE strV W v l ∧ (∀ x ∈ l, x.length ≤ 140737488351232) ∧ l.length * 16 ≤ 140737488351232 := by
  obtain ⟨v, l, h1, h2, h3, h4⟩ := h.slices (enc := fun x => [strV x]) (ok := fun x => x.length ≤ 140737488351232) hu fun c hc _ => by
    obtain ⟨l, h1, h2⟩ := hc.str he; exact ⟨l, h1, h2⟩
  rw [hb] at h4
  refine ⟨v, l, h1, ?_, h3, h4⟩
  have e : ∀ l : List (List UInt8), l.flatMap (fun x => [strV x]) = l.map strV := fun l => by
    induction l with
    | nil => rfl
    | cons a l ih => rw [List.flatMap_cons, ih]; rfl
  unfold RdS at h2
  rwa [e] at h2
end Go.Proofs.Ytnkilhmkegmenaa.E
