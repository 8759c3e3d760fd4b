/- Filters of keys. -/
import Derived.Test.YtjockanmmfmidaaDoorG2
namespace Go.Proofs.YtjockanmmfmidaaDoor.E
open Go
def hsN (p : Int) : Nat := min (max ((69 * p.toNat + 50) / 100) 1) 8
def byN (m : Nat) (p : Int) : Nat := min ((p.toNat * m + 7) / 8) 4096
def addK (hs : Nat) (d : List UInt8) (key : List UInt8) : List UInt8 := (places key hs d.length).foldl setB d
def fillK (hs : Nat) (d : List UInt8) (keys : List (List UInt8)) : List UInt8 := keys.foldl (addK hs) d
theorem foldB_length (ps : List Nat) : ∀ d : List UInt8, (ps.foldl setB d).length = d.length := by
  induction ps with
  | nil => intro d; rfl
  | cons p ps ih => intro d; rw [List.foldl_cons, ih, setB_length]
theorem addK_length (hs : Nat) (d key : List UInt8) : (addK hs d key).length = d.length := foldB_length _ _
theorem fillK_length (hs : Nat) (keys : List (List UInt8)) : ∀ d, (fillK hs d keys).length = d.length := by
  induction keys with
  | nil => intro d; rfl
  | cons k ks ih => intro d; show (fillK hs (addK hs d k) ks).length = _; rw [ih, addK_length]
theorem fillK_snoc {hs : Nat} {d : List UInt8} {keys : List (List UInt8)} {i : Nat} (h : i < keys.length) : fillK hs d (keys.take (i + 1)) = addK hs (fillK hs d (keys.take i)) (keys.getD i []) := by
  unfold fillK; rw [takeG [] h, List.foldl_append]; rfl
theorem getD_memG {α : Type} (z : α) {l : List α} {i : Nat} (h : i < l.length) : l.getD i z ∈ l := by
  rw [List.getD_eq_getElem?_getD, List.getElem?_eq_getElem h]; exact List.getElem_mem h
theorem o_mmv {a b : Int} (h : a = b) : Value.int .i64 a = .int .i64 b := by rw [h]
theorem runE_set (ps : List Nat) : ∀ d, runE (fun (_ : List UInt8) _ => true) setB d ps = (true, ps.foldl setB d) := by
  induction ps with
  | nil => intro d; rfl
  | cons p ps ih => intro d; rw [runE, if_pos rfl, ih]; rfl
/-- the filter of keys: denies it nothing, hashes, bytes, the error -/
def buildF (keys : List (List UInt8)) (p : Int) : Bool × Int × List UInt8 × Int :=
  if p < 0 ∨ 16 < p then (false, 0, [], 3) else if keys.length = 0 then (false, 0, [], 0) else if p = 0 ∨ 65536 < keys.length then (true, 0, [], 0)
  else (false, ((hsN p : Nat) : Int), fillK (hsN p) (List.replicate (byN keys.length p) 0) keys, 0)
theorem build_arg {keys : List (List UInt8)} {p : Int} (h : p < 0 ∨ 16 < p) : buildF keys p = (false, 0, [], 3) := by unfold buildF; rw [if_pos h]
theorem build_nil {keys : List (List UInt8)} {p : Int} (h : ¬ (p < 0 ∨ 16 < p)) (h0 : keys.length = 0) : buildF keys p = (false, 0, [], 0) := by unfold buildF; rw [if_neg h, if_pos h0]
theorem build_all {keys : List (List UInt8)} {p : Int} (h : ¬ (p < 0 ∨ 16 < p)) (h0 : ¬ keys.length = 0) (h1 : p = 0 ∨ 65536 < keys.length) : buildF keys p = (true, 0, [], 0) := by unfold buildF; rw [if_neg h, if_neg h0, if_pos h1]
theorem build_bits {keys : List (List UInt8)} {p : Int} (h : ¬ (p < 0 ∨ 16 < p)) (h0 : ¬ keys.length = 0) (h1 : ¬ (p = 0 ∨ 65536 < keys.length)) : buildF keys p = (false, ((hsN p : Nat) : Int), fillK (hsN p) (List.replicate (byN keys.length p) 0) keys, 0) := by unfold buildF; rw [if_neg h, if_neg h0, if_neg h1]
theorem hsN_bd (p : Int) : 1 ≤ hsN p ∧ hsN p ≤ 8 := by unfold hsN; omega
theorem hsN_int {p : Int} (h : 0 ≤ p) : min (max ((69 * p + 50) / 100) 1) 8 = ((hsN p : Nat) : Int) := by
  obtain ⟨q, rfl⟩ := Int.eq_ofNat_of_zero_le h
  unfold hsN
  rw [Int.toNat_natCast]; omega
theorem byN_int (q : Nat) : min (((q : Int) + 7) / 8) 4096 = ((min ((q + 7) / 8) 4096 : Nat) : Int) := by
  have e : ((q : Int) + 7) / 8 = (((q + 7) / 8 : Nat) : Int) := by omega
  rw [e]
  rcases Nat.le_total ((q + 7) / 8) 4096 with h | h
  · rw [Nat.min_eq_left h, Int.min_eq_left (by omega)]
  · rw [Nat.min_eq_right h, Int.min_eq_right (by omega)]; rfl
theorem byN_bd {m : Nat} {p : Int} (h : 1 ≤ p) (hm : 0 < m) : 1 ≤ byN m p ∧ byN m p ≤ 4096 := by
  have : 1 * 1 ≤ p.toNat * m := Nat.mul_le_mul (by omega) hm
  unfold byN; omega
theorem pm_bd {m : Nat} {p : Int} (h1 : 0 ≤ p) (h : p ≤ 16) (hm : m ≤ 65536) : p * (m : Int) = ((p.toNat * m : Nat) : Int) ∧ p.toNat * m ≤ 1048576 := by
  refine ⟨?_, ?_⟩
  · rw [Int.natCast_mul, Int.toNat_of_nonneg h1]
  · have : p.toNat * m ≤ 16 * 65536 := Nat.mul_le_mul (by omega) hm
    omega
theorem shl1_v8 {n : Nat} {z : Int} (hz : z = ((n % 8 : Nat) : Int)) : Value.int .u8 (IntKind.u8.wrap (1 * 2 ^ min z.toNat IntKind.u8.bits)) = .int .u8 ((2 ^ (n % 8) : Nat) : Int) := by
  subst hz
  have h2 : 2 ^ (n % 8) ≤ 128 := by
    calc 2 ^ (n % 8) ≤ 2 ^ 7 := Nat.pow_le_pow_right (by omega) (by omega)
      _ = 128 := by decide
  have := shlI_nat (k := .u8) (a := 1) (n := n % 8) (by simp only [IntKind.bits]; omega) (by rw [Nat.one_mul]; simp only [inK]; generalize 2 ^ (n % 8) = q at *; omega)
  rw [Nat.one_mul] at this
  exact v_int this
theorem or_v8 {x : UInt8} {n : Nat} : orI .u8 (x.toNat : Int) ((2 ^ (n % 8) : Nat) : Int) = ((x ||| (2 ^ (n % 8)).toUInt8).toNat : Int) := by
  have h2 : 2 ^ (n % 8) ≤ 128 := by
    calc 2 ^ (n % 8) ≤ 2 ^ 7 := Nat.pow_le_pow_right (by omega) (by omega)
      _ = 128 := by decide
  have hx := x.toNat_lt
  have h4 : x.toNat ||| 2 ^ (n % 8) < 2 ^ 8 := Nat.or_lt_two_pow hx (by omega)
  rw [orI_nat (k := .u8) (by simpa [IntKind.bits] using hx) (by simp only [IntKind.bits]; omega) (by simp only [inK]; omega), UInt8.toNat_or]
  congr 2
  generalize 2 ^ (n % 8) = q at *
  simp; omega

/-- filter.Build$1 -/
theorem set_ok (p bf : Nat) (h : Int) (v : Value) (d : List UInt8) (r : List Ent) (w : World) (hs0 : SlE byteV 5 v d r) (hr : Res w (⟨bf, 24, [.bool false, .int .i64 h, v]⟩ :: r)) (hp : p < 8 * d.length) (hl : d.length ≤ 1000000) : Calls Tryd.prog 28 [.int .u64 (p : Int), .pointer (some ⟨bf, 0, none⟩)].toArray w (Rt fun q w' => q = .bool true ∧ ∃ r2, SlE byteV 5 v (setB d p) r2 ∧ Mem w (ids (⟨bf, 24, [.bool false, .int .i64 h, v]⟩ :: r)) w' [[⟨bf, 24, [.bool false, .int .i64 h, v]⟩], r2]) := by
  have hM0 : Mem w (ids (⟨bf, 24, [.bool false, .int .i64 h, v]⟩ :: r)) w [[⟨bf, 24, [.bool false, .int .i64 h, v]⟩], r] := Mem.start2 hr
  refine calls_vc mixed Tryd.func28 rfl C28 (by simp [Tryd.ntmps28]) ?_
  refine seq fun K1 h1 => ?_
  refine stp (v := .bool false) (o_mv rfl) ?_
  refine h1 _ _ ?_
  clear h1
  refine seq fun K2 h2 => ?_
  refine stp (v := .pointer (some ⟨bf, 2, none⟩)) (o_fa rfl rfl) ?_
  refine m_ld (v := v) hM0 (i := 0) (j := 0) rfl rfl rfl rfl ?_
  refine stp (v := .int .u64 (p : Nat)) (o_mv rfl) ?_
  refine stp (v := .int .u64 ((p : Nat) / 8)) (o_quo rfl rfl (by omega) (v_quo (by omega) (by omega) (by simp only [inK]; omega))) ?_
  refine m_idxE 0 (j := (p / 8)) (hs0.rd hM0 (i := 1) rfl) rfl (v_int (by omega)) (by omega) fun b3 o3 hp3 => ?_
  refine ld (v := byteV (d.getD (p / 8) 0)) rfl (hp3) ?_
  refine stp (v := .int .u64 (p : Nat)) (o_mv rfl) ?_
  refine stp (v := .int .u64 ((p : Nat) % 8)) (o_rem rfl rfl (by omega) (v_rem (by omega))) ?_
  refine stp (v := .int .u8 (2 ^ (p % 8) : Nat)) (o_shl rfl rfl (by omega) (shl1_v8 (n := p) (by omega))) ?_
  refine stp (v := .int .u8 ((d.getD (p / 8) 0 ||| (2 ^ (p % 8) : Nat).toUInt8).toNat : Int)) (o_bin rfl rfl (v_int (or_v8 (x := d.getD (p / 8) 0) (n := p)))) ?_
  refine m_set (E := byteV) (q := d.getD (p / 8) 0 ||| (2 ^ (p % 8) : Nat).toUInt8) (j := (p / 8)) hM0 (i := 1) rfl hs0 rfl (v_int (by omega)) (by omega) (by simp) (rfl) fun w4 r4 u4 he4 hs4 (hM4 : Mem w (ids (⟨bf, 24, [.bool false, .int .i64 h, v]⟩ :: r)) w4 [[⟨bf, 24, [.bool false, .int .i64 h, v]⟩], r4]) => ?_
  refine h2 _ _ ?_
  clear h2
  refine seq fun K5 h5 => ?_
  refine stp (v := .bool true) (o_mv rfl) ?_
  refine h5 _ _ ?_
  clear h5
  refine ⟨(.bool true), rfl, ?_⟩
  exact ⟨rfl, _, hs4, hM4⟩

set_option maxRecDepth 100000 in
/-- filter.Build -/
theorem Build_ok (x : Value) (l : List (List UInt8)) (p : Int) (w : World) (hx : RdE strV w x l) (hk : ∀ k ∈ l, k.length ≤ 9223372036854775000) (hl : l.length * 16 ≤ 175921860444160) (hp : inK .i64 p) : Calls Tryd.prog 14 [x, .int .i64 p].toArray w (Rt fun r w' => ∃ v rs, r = .tuple [.agg [.bool (buildF l p).1, .int .i64 (buildF l p).2.1, v].toArray, .int .i64 (buildF l p).2.2.2].toArray ∧ SlE byteV 5 v (buildF l p).2.2.1 rs ∧ Mem w [] w' [rs]) := by
  have hM0 : Mem w [] w [] := Mem.nil w []
  simp only [inK] at hp
  refine calls_vc mixed Tryd.func14 rfl C14 (by simp [Tryd.ntmps14]) ?_
  refine seq fun K1 h1 => ?_
  refine m_al hM0 fun b2 w3 (hM3 : Mem w [] w3 [[⟨b2, 24, [.bool false, .int .i64 0, .slice none 0 0]⟩]]) => ?_
  refine stp (v := .int .i64 0) (o_mv rfl) ?_
  refine h1 _ _ ?_
  clear h1
  refine seq fun K4 h4 => ?_
  refine seq fun K5 h5 => ?_
  refine stp (v := .int .i64 p) (o_mv rfl) ?_
  refine stp (v := .bool (decide (p < 0))) (o_bin rfl rfl rfl) ?_
  refine stp (v := .bool (decide (p < 0))) (o_mv rfl) ?_
  refine splitP rfl (fun c6 => ?_) (fun c6 => ?_)
  ·
    refine gno rfl (by simp) ?_
    refine gno rfl (by simp) ?_
    refine stp (v := .bool true) (o_pickT rfl rfl) ?_
    refine stp (v := .bool true) (o_mv rfl) ?_
    refine h5 _ _ ?_
    clear h5
    refine cndT rfl ?_
    refine seq fun K7 h7 => ?_
    refine stp (v := .agg ([.bool false, .int .i64 0, .slice none 0 0] : List Value).toArray) (o_bld rfl rfl) ?_
    refine m_stA (l := [.bool false, .int .i64 0, .slice none 0 0]) hM3 (i := 0) rfl rfl rfl rfl (by simp [oneCells, Value.oneCell', byteV]) (by simp) fun w8 (hM8 : Mem w [] w8 [[⟨b2, 24, [.bool false, .int .i64 0, .slice none 0 0]⟩]]) => ?_
    refine stp (v := .int .i64 3) (o_mv rfl) ?_
    refine h7 _ _ ?_
    clear h7
    show resV _ _ _ _ _
    refine res_cell (s := some 3) (by kernel_rfl) ?_
    refine vl_ldA (cs := [.bool false, .int .i64 0, .slice none 0 0]) rfl rfl ((hM8.at (i := 0) (j := 0) rfl rfl).agg rfl rfl) ?_
    refine res_tmp ?_
    refine ⟨(.tuple [.agg ([.bool false, .int .i64 0, .slice none 0 0] : List Value).toArray, .int .i64 3].toArray), rfl, ?_⟩
    exact ⟨_, _, by rw [build_arg (by omega)], by rw [build_arg (by omega)]; exact Sl.nil 1 5, hM8.addNil.keep (by simp)⟩
  ·
    refine stg rfl (v := .int .i64 p) (o_mv rfl) ?_
    refine stg rfl (v := .bool (decide ((16 : Int) < p))) (o_bin rfl rfl rfl) ?_
    refine stp (v := .bool (decide ((16 : Int) < p))) (o_pickF rfl rfl) ?_
    refine stp (v := .bool (decide ((16 : Int) < p))) (o_mv rfl) ?_
    refine h5 _ _ ?_
    clear h5
    refine cndP rfl (fun c9 => ?_) (fun c9 => ?_)
    ·
      refine seq fun K10 h10 => ?_
      refine stp (v := .agg ([.bool false, .int .i64 0, .slice none 0 0] : List Value).toArray) (o_bld rfl rfl) ?_
      refine m_stA (l := [.bool false, .int .i64 0, .slice none 0 0]) hM3 (i := 0) rfl rfl rfl rfl (by simp [oneCells, Value.oneCell', byteV]) (by simp) fun w11 (hM11 : Mem w [] w11 [[⟨b2, 24, [.bool false, .int .i64 0, .slice none 0 0]⟩]]) => ?_
      refine stp (v := .int .i64 3) (o_mv rfl) ?_
      refine h10 _ _ ?_
      clear h10
      show resV _ _ _ _ _
      refine res_cell (s := some 3) (by kernel_rfl) ?_
      refine vl_ldA (cs := [.bool false, .int .i64 0, .slice none 0 0]) rfl rfl ((hM11.at (i := 0) (j := 0) rfl rfl).agg rfl rfl) ?_
      refine res_tmp ?_
      refine ⟨(.tuple [.agg ([.bool false, .int .i64 0, .slice none 0 0] : List Value).toArray, .int .i64 3].toArray), rfl, ?_⟩
      exact ⟨_, _, by rw [build_arg (by omega)], by rw [build_arg (by omega)]; exact Sl.nil 1 5, hM11.addNil.keep (by simp)⟩
    ·
      refine seq fun K12 h12 => ?_
      refine stp (v := x) (o_mv rfl) ?_
      refine stp (v := .int .i64 (l.length : Nat)) (o_lenR (hx.upd hM3.upd) rfl rfl) ?_
      refine stp (v := .bool (decide (((l.length : Nat) : Int) = 0))) (o_bin rfl rfl rfl) ?_
      refine stp (v := .bool (decide (((l.length : Nat) : Int) = 0))) (o_mv rfl) ?_
      refine h12 _ _ ?_
      clear h12
      refine cndP rfl (fun c13 => ?_) (fun c13 => ?_)
      ·
        refine seq fun K14 h14 => ?_
        refine stp (v := .agg ([.bool false, .int .i64 0, .slice none 0 0] : List Value).toArray) (o_bld rfl rfl) ?_
        refine m_stA (l := [.bool false, .int .i64 0, .slice none 0 0]) hM3 (i := 0) rfl rfl rfl rfl (by simp [oneCells, Value.oneCell', byteV]) (by simp) fun w15 (hM15 : Mem w [] w15 [[⟨b2, 24, [.bool false, .int .i64 0, .slice none 0 0]⟩]]) => ?_
        refine stp (v := .int .i64 0) (o_mv rfl) ?_
        refine h14 _ _ ?_
        clear h14
        show resV _ _ _ _ _
        refine res_cell (s := some 3) (by kernel_rfl) ?_
        refine vl_ldA (cs := [.bool false, .int .i64 0, .slice none 0 0]) rfl rfl ((hM15.at (i := 0) (j := 0) rfl rfl).agg rfl rfl) ?_
        refine res_tmp ?_
        refine ⟨(.tuple [.agg ([.bool false, .int .i64 0, .slice none 0 0] : List Value).toArray, .int .i64 0].toArray), rfl, ?_⟩
        exact ⟨_, _, by rw [build_nil (by omega) (by omega)], by rw [build_nil (by omega) (by omega)]; exact Sl.nil 1 5, hM15.addNil.keep (by simp)⟩
      ·
        refine seq fun K16 h16 => ?_
        refine stp (v := .int .i64 p) (o_mv rfl) ?_
        refine stp (v := .bool (decide (p = 0))) (o_bin rfl rfl rfl) ?_
        refine stp (v := .bool (decide (p = 0))) (o_mv rfl) ?_
        refine splitP rfl (fun c17 => ?_) (fun c17 => ?_)
        ·
          refine gno rfl (by simp) ?_
          refine gno rfl (by simp) ?_
          refine gno rfl (by simp) ?_
          refine stp (v := .bool true) (o_pickT rfl rfl) ?_
          refine stp (v := .bool true) (o_mv rfl) ?_
          refine h16 _ _ ?_
          clear h16
          refine cndT rfl ?_
          refine seq fun K18 h18 => ?_
          refine stp (v := .agg ([.bool true, .int .i64 0, .slice none 0 0] : List Value).toArray) (o_bld rfl rfl) ?_
          refine m_stA (l := [.bool true, .int .i64 0, .slice none 0 0]) hM3 (i := 0) rfl rfl rfl rfl (by simp [oneCells, Value.oneCell', byteV]) (by simp) fun w19 (hM19 : Mem w [] w19 [[⟨b2, 24, [.bool true, .int .i64 0, .slice none 0 0]⟩]]) => ?_
          refine stp (v := .int .i64 0) (o_mv rfl) ?_
          refine h18 _ _ ?_
          clear h18
          show resV _ _ _ _ _
          refine res_cell (s := some 3) (by kernel_rfl) ?_
          refine vl_ldA (cs := [.bool true, .int .i64 0, .slice none 0 0]) rfl rfl ((hM19.at (i := 0) (j := 0) rfl rfl).agg rfl rfl) ?_
          refine res_tmp ?_
          refine ⟨(.tuple [.agg ([.bool true, .int .i64 0, .slice none 0 0] : List Value).toArray, .int .i64 0].toArray), rfl, ?_⟩
          exact ⟨_, _, by rw [build_all (by omega) (by omega) (by omega)], by rw [build_all (by omega) (by omega) (by omega)]; exact Sl.nil 1 5, hM19.addNil.keep (by simp)⟩
        ·
          refine stg rfl (v := x) (o_mv rfl) ?_
          refine stg rfl (v := .int .i64 (l.length : Nat)) (o_lenR (hx.upd hM3.upd) rfl rfl) ?_
          refine stg rfl (v := .bool (decide ((65536 : Int) < ((l.length : Nat) : Int)))) (o_bin rfl rfl rfl) ?_
          refine stp (v := .bool (decide ((65536 : Int) < ((l.length : Nat) : Int)))) (o_pickF rfl rfl) ?_
          refine stp (v := .bool (decide ((65536 : Int) < ((l.length : Nat) : Int)))) (o_mv rfl) ?_
          refine h16 _ _ ?_
          clear h16
          refine cndP rfl (fun c20 => ?_) (fun c20 => ?_)
          ·
            refine seq fun K21 h21 => ?_
            refine stp (v := .agg ([.bool true, .int .i64 0, .slice none 0 0] : List Value).toArray) (o_bld rfl rfl) ?_
            refine m_stA (l := [.bool true, .int .i64 0, .slice none 0 0]) hM3 (i := 0) rfl rfl rfl rfl (by simp [oneCells, Value.oneCell', byteV]) (by simp) fun w22 (hM22 : Mem w [] w22 [[⟨b2, 24, [.bool true, .int .i64 0, .slice none 0 0]⟩]]) => ?_
            refine stp (v := .int .i64 0) (o_mv rfl) ?_
            refine h21 _ _ ?_
            clear h21
            show resV _ _ _ _ _
            refine res_cell (s := some 3) (by kernel_rfl) ?_
            refine vl_ldA (cs := [.bool true, .int .i64 0, .slice none 0 0]) rfl rfl ((hM22.at (i := 0) (j := 0) rfl rfl).agg rfl rfl) ?_
            refine res_tmp ?_
            refine ⟨(.tuple [.agg ([.bool true, .int .i64 0, .slice none 0 0] : List Value).toArray, .int .i64 0].toArray), rfl, ?_⟩
            exact ⟨_, _, by rw [build_all (by omega) (by omega) (by omega)], by rw [build_all (by omega) (by omega) (by omega)]; exact Sl.nil 1 5, hM22.addNil.keep (by simp)⟩
          ·
            refine h4 _ _ ?_
            clear h4
            refine seq fun K23 h23 => ?_
            refine stp (v := .int .i64 p) (o_mv rfl) ?_
            refine stp (v := .int .i64 (69 * p)) (o_bin rfl rfl (v_mul64 (by constructor <;> omega))) ?_
            refine stp (v := .int .i64 ((69 * p) + 50)) (o_bin rfl rfl (v_add64 (by constructor <;> omega))) ?_
            refine stp (v := .int .i64 (((69 * p) + 50) / 100)) (o_quo rfl rfl (by omega) (v_quo (by omega) (by omega) (by simp only [inK]; omega))) ?_
            refine stp (v := .int .i64 (max (((69 * p) + 50) / 100 : Int) (1 : Int))) (o_mm rfl rfl rfl) ?_
            refine stp (v := .int .i64 (hsN p : Nat)) (o_mm rfl rfl ((o_mmv (hsN_int (by omega))))) ?_
            refine stp (v := .int .i64 p) (o_mv rfl) ?_
            refine stp (v := x) (o_mv rfl) ?_
            refine stp (v := .int .i64 (l.length : Nat)) (o_lenR (hx.upd hM3.upd) rfl rfl) ?_
            refine stp (v := .int .i64 (p.toNat * l.length : Nat)) (o_bin rfl rfl ((v_mul64 (by rw [(pm_bd (by omega) (by omega) (by omega)).1]; have := (pm_bd (m := l.length) (p := p) (by omega) (by omega) (by omega)).2; omega)).trans (v_int (pm_bd (by omega) (by omega) (by omega)).1))) ?_
            have hpm := (pm_bd (m := l.length) (p := p) (by omega) (by omega) (by omega)).2
            have hby := byN_bd (m := l.length) (p := p) (by omega) (by omega)
            have hhs := hsN_bd p
            refine stp (v := .int .i64 ((p.toNat * l.length : Nat) + 7)) (o_bin rfl rfl (v_add64 (by constructor <;> omega))) ?_
            refine stp (v := .int .i64 (((p.toNat * l.length : Nat) + 7) / 8)) (o_quo rfl rfl (by omega) (v_quo (by omega) (by omega) (by simp only [inK]; omega))) ?_
            refine stp (v := .int .i64 (byN l.length p : Nat)) (o_mm rfl rfl (v_int (byN_int _))) ?_
            refine m_mksE (E := byteV) (z := 0) (n := byN l.length p) (c := byN l.length p) rfl hM3 rfl rfl (by omega) (by omega) (by omega) fun v24 w24 r24 hs24 (hM24 : Mem w [] w24 [[⟨b2, 24, [.bool false, .int .i64 0, .slice none 0 0]⟩], r24]) => ?_
            obtain ⟨a25_, n25_, c25_, rfl⟩ := Sl.isSlice hs24
            refine stp (v := .agg ([.bool false, .int .i64 (hsN p : Nat), (.slice a25_ n25_ c25_)] : List Value).toArray) (o_bld rfl rfl) ?_
            refine m_al hM24 fun b26 w27 (hM27 : Mem w [] w27 [[⟨b2, 24, [.bool false, .int .i64 0, .slice none 0 0]⟩], r24, [⟨b26, 24, [.bool false, .int .i64 0, .slice none 0 0]⟩]]) => ?_
            refine m_stA (l := [.bool false, .int .i64 (hsN p : Nat), (.slice a25_ n25_ c25_)]) hM27 (i := 2) rfl rfl rfl rfl (by simp [oneCells, Value.oneCell', byteV]) (by simp) fun w28 (hM28 : Mem w [] w28 [[⟨b2, 24, [.bool false, .int .i64 0, .slice none 0 0]⟩], r24, [⟨b26, 24, [.bool false, .int .i64 (hsN p : Nat), (.slice a25_ n25_ c25_)]⟩]]) => ?_
            refine h23 _ _ ?_
            clear h23
            refine seq fun K29 h29 => ?_
            refine seq fun K30 h30 => ?_
            refine stp (v := x) (o_mv rfl) ?_
            refine stp (v := .int .i64 (l.length : Nat)) (o_lenR (hx.upd hM28.upd) rfl rfl) ?_
            refine stp (v := .int .i64 0) (o_mv rfl) ?_
            refine h30 _ _ ?_
            clear h30
            refine lp (n := fun _ _ => False) (ι := (Nat) × (List Ent)) (fun ⟨i, rd⟩ f w' => f 48 = .int .i64 (i : Nat) ∧ f 4 = .pointer (some ⟨b2, 0, none⟩) ∧ f 6 = .pointer (some ⟨b26, 0, none⟩) ∧ f 46 = x ∧ f 47 = .int .i64 (l.length : Nat) ∧ Mem w [] w' [[⟨b2, 24, [.bool false, .int .i64 0, .slice none 0 0]⟩], rd, [⟨b26, 24, [.bool false, .int .i64 (hsN p : Nat), (.slice a25_ n25_ c25_)]⟩]] ∧ (SlE byteV 5 (.slice a25_ n25_ c25_) (fillK (hsN p) (List.replicate (byN l.length p) 0) (l.take i)) rd) ∧ (i ≤ l.length) ∧ ((fillK (hsN p) (List.replicate (byN l.length p) 0) (l.take i)).length = byN l.length p)) (fun ⟨i, rd⟩ => l.length - i) (0, r24) ?_ ?_
            · exact ⟨by first | rfl | exact v_int (by omega) | exact v_int (by simp) | exact v_int (by simp; omega), rfl, rfl, rfl, by first | rfl | exact v_int (by omega) | exact v_int (by simp) | exact v_int (by simp; omega), hM28, hs24, by omega, by rw [fillK_length, List.length_replicate]⟩
            · rintro ⟨i, rd⟩ f w31 ⟨e31_48, e31_4, e31_6, e31_46, e31_47, hM31, hsd, hi, hld⟩ K32 h32
              obtain ⟨frm, rfl⟩ : ∃ frm, f = (upd (upd (upd (upd (upd frm 48 (.int .i64 (i : Nat))) 4 (.pointer (some ⟨b2, 0, none⟩))) 6 (.pointer (some ⟨b26, 0, none⟩))) 46 (x)) 47 (.int .i64 (l.length : Nat))) := ⟨f, by rw [upd_self e31_48, upd_self e31_4, upd_self e31_6, upd_self e31_46, upd_self e31_47]⟩
              clear e31_48 e31_4 e31_6 e31_46 e31_47
              refine seq fun K33 h33 => ?_
              refine stp (v := .bool (decide (((i : Nat) : Int) < (l.length : Nat)))) (o_bin rfl rfl rfl) ?_
              refine h33 _ _ ?_
              clear h33
              refine seq fun K34 h34 => ?_
              refine cndP rfl (fun c35 => ?_) (fun c35 => ?_)
              ·
                refine h34 _ _ ?_
                clear h34
                refine seq fun K36 h36 => ?_
                refine seq fun K37 h37 => ?_
                refine m_idxE [] (j := i) (hx.upd hM31.upd) rfl rfl (by omega) fun b38 o38 hp38 => ?_
                refine ld (v := .string (str (l.getD i []))) rfl (hp38) ?_
                refine stp (v := .string (str (l.getD i []))) (o_mv rfl) ?_
                refine h37 _ _ ?_
                clear h37
                refine stp (v := .string (str (l.getD i []))) (o_mv rfl) ?_
                refine stp (v := .pointer (some ⟨b26, 1, none⟩)) (o_fa rfl rfl) ?_
                refine m_ld (v := .int .i64 (hsN p : Nat)) hM31 (i := 2) (j := 0) rfl rfl rfl rfl ?_
                refine stp (v := .pointer (some ⟨b26, 2, none⟩)) (o_fa rfl rfl) ?_
                refine m_ld (v := (.slice a25_ n25_ c25_)) hM31 (i := 2) (j := 0) rfl rfl rfl rfl ?_
                refine stp (v := .int .i64 ((fillK (hsN p) (List.replicate (byN l.length p) 0) (l.take i)).length : Nat)) (o_lenR (hsd.rd hM31 (i := 1) rfl) rfl rfl) ?_
                refine stp (v := .func (.func 28) [].toArray [.pointer (some ⟨b26, 0, none⟩)].toArray) (o_mkf rfl) ?_
                refine m_call (each_ok (I := fun s wc => ∃ r2, SlE byteV 5 ((.slice a25_ n25_ c25_)) s r2 ∧ s.length = (fillK (hsN p) (List.replicate (byN l.length p) 0) (l.take i)).length ∧ Mem w [] wc [[⟨b2, 24, [.bool false, .int .i64 0, .slice none 0 0]⟩], r2, [⟨b26, 24, [.bool false, .int .i64 (hsN p : Nat), (.slice a25_ n25_ c25_)]⟩]]) (fun _ _ => true) setB (fillK (hsN p) (List.replicate (byN l.length p) 0) (l.take i)) (l.getD i []) ((hsN p : Nat) : Int) (fillK (hsN p) (List.replicate (byN l.length p) 0) (l.take i)).length _ _ w31 (by have := hk _ (getD_memG [] (i := i) (l := l) (by omega)); omega) (by omega) (by omega) (by omega) (by kernel_rfl) ⟨_, hsd, rfl, hM31⟩ (fun s wa wb h1 u => h1.elim fun r2 h2 => ⟨r2, h2.1, h2.2.1, h2.2.2.pure u⟩) (fun s q wc h1 hq => h1.elim fun r2 h2 => (set_ok q _ _ ((.slice a25_ n25_ c25_)) s r2 wc h2.1 (h2.2.2.res2 2 1 rfl rfl (by decide)) (by omega) (by omega)).mono fun e w2 h3 => h3.elim fun v h4 => h4.2.2.elim fun r3 h5 => ⟨v, h4.1, h4.2.1, r3, h5.1, by rw [setB_length]; exact h2.2.1, h2.2.2.step2 2 1 rfl rfl (by decide) h5.2⟩)) rfl fun v39 w39 ⟨hr39, hI39⟩ => ?_
                rw [runE_set, Int.toNat_natCast] at hI39
                obtain ⟨rd39, hs39, hl39, hm39⟩ := hI39
                clear hr39
                have hM39 : Mem w [] w39 [[⟨b2, 24, [.bool false, .int .i64 0, .slice none 0 0]⟩], rd39, [⟨b26, 24, [.bool false, .int .i64 (hsN p : Nat), (.slice a25_ n25_ c25_)]⟩]] := hm39
                refine h36 _ _ ?_
                clear h36
                refine stp (v := .int .i64 ((i : Nat) + 1)) (o_bin rfl rfl (v_add64 (by constructor <;> omega))) ?_
                refine stp (v := .int .i64 ((i : Nat) + 1)) (o_mv rfl) ?_
                refine h32 (i + 1, rd39) _ _ ⟨by first | rfl | exact v_int (by omega) | exact v_int (by simp) | exact v_int (by simp; omega), rfl, rfl, rfl, by first | rfl | exact v_int (by omega) | exact v_int (by simp) | exact v_int (by simp; omega), hM39, by rw [fillK_snoc (by omega)]; exact hs39, by omega, by rw [fillK_length, List.length_replicate]⟩ (by (try dsimp only); omega)
              ·
                refine h29 _ _ ?_
                clear h29
                refine seq fun K40 h40 => ?_
                refine m_ldA (l := [.bool false, .int .i64 (hsN p : Nat), (.slice a25_ n25_ c25_)]) hM31 (i := 2) (j := 0) rfl rfl rfl rfl rfl ?_
                refine m_stA (l := [.bool false, .int .i64 (hsN p : Nat), (.slice a25_ n25_ c25_)]) hM31 (i := 0) rfl rfl rfl rfl (by simp [oneCells, Value.oneCell', byteV]) (by simp) fun w41 (hM41 : Mem w [] w41 [[⟨b2, 24, [.bool false, .int .i64 (hsN p : Nat), (.slice a25_ n25_ c25_)]⟩], rd, [⟨b26, 24, [.bool false, .int .i64 (hsN p : Nat), (.slice a25_ n25_ c25_)]⟩]]) => ?_
                refine stp (v := .int .i64 0) (o_mv rfl) ?_
                refine h40 _ _ ?_
                clear h40
                show resV _ _ _ _ _
                refine res_cell (s := some 3) (by kernel_rfl) ?_
                refine vl_ldA (cs := [.bool false, .int .i64 (hsN p : Nat), (.slice a25_ n25_ c25_)]) rfl rfl ((hM41.at (i := 0) (j := 0) rfl rfl).agg rfl rfl) ?_
                refine res_tmp ?_
                refine ⟨(.tuple [.agg ([.bool false, .int .i64 (hsN p : Nat), (.slice a25_ n25_ c25_)] : List Value).toArray, .int .i64 0].toArray), rfl, ?_⟩
                rw [List.take_of_length_le (by omega)] at hsd
                exact ⟨_, _, by rw [build_bits (by omega) (by omega) (by omega)], by rw [build_bits (by omega) (by omega) (by omega)]; exact hsd, hM41.keep (by simp)⟩

theorem place_v {x i y : Int} : binI .add .u64 x (i * y % 18446744073709551616) = .int .u64 ((x + i * y) % 18446744073709551616) := by
  show Value.int .u64 (IntKind.u64.wrap _) = _
  rw [wrap_u64]; exact v_int (by omega)

theorem all_take {key : List UInt8} {hs n k : Nat} {q : Nat → Bool} (h : k < hs) : ((places key hs n).take (k + 1)).all q = (((places key hs n).take k).all q && q (bitN key k n)) := by
  have hl : k < (places key hs n).length := by simp [places]; exact h
  rw [takeG 0 hl, List.all_append]
  congr 1
  simp [places, h]
theorem all_step {key : List UInt8} {hs n k : Nat} {q : Nat → Bool} (h : k < hs) (hp : ((places key hs n).take k).all q = true) (hq : (!q (bitN key k n)) = false) : ((places key hs n).take (k + 1)).all q = true := by
  rw [all_take h, hp]; simpa using hq
theorem all_end {key : List UInt8} {hs n k : Nat} {q : Nat → Bool} (h : hs ≤ k) (ha : ((places key hs n).take k).all q = true) : (places key hs n).all q = true := by
  rwa [List.take_of_length_le (by simp [places]; exact h)] at ha
theorem all_not {key : List UInt8} {hs n k : Nat} {q : Nat → Bool} (h : k < hs) (hq : q (bitN key k n) = false) : (places key hs n).all q = false := by
  rw [List.all_eq_false]
  exact ⟨bitN key k n, by unfold places; exact List.mem_map.2 ⟨k, List.mem_range.2 h, rfl⟩, by simp [hq]⟩
theorem testN_v {d : List UInt8} {p : Nat} : binI .eql .u8 (((d.getD (p / 8) 0).toNat / 2 ^ (p % 8) % 2 : Nat) : Int) 0 = .bool (!testB d p) := by
  unfold testB
  rw [Nat.testBit_eq_decide_div_mod_eq]
  show Value.bool (decide (((_ : Nat) : Int) = 0)) = _
  congr 1
  rw [← decide_not, decide_eq_decide]
  omega
theorem rem_v8 {q : Nat} : Value.int .u8 (Int.tmod (q : Int) 2) = .int .u8 ((q % 2 : Nat) : Int) := (v_rem (Int.natCast_nonneg _)).trans rfl
theorem chk_fk {a : Bool} {h : Int} {d : List UInt8} (k : chk a h d = 0) : ¬ fk a h d = 0 := fun e => by rw [chk_70 e] at k; omega
theorem fk_empty {a : Bool} {h : Int} {d : List UInt8} (k : ¬ fk a h d = 0) (hd : d.length = 0) : fk a h d = if a then 1 else 2 := by
  unfold fk at k ⊢
  split at k
  · rename_i c; rw [if_pos c]
  · split at k
    · omega
    · omega
theorem fk_full {a : Bool} {h : Int} {d : List UInt8} (k : ¬ fk a h d = 0) (hd : ¬ d.length = 0) : fk a h d = 3 := by
  unfold fk at k ⊢
  split at k
  · omega
  · split at k
    · rename_i c1 c2; rw [if_neg c1, if_pos c2]
    · omega
theorem hasF_e {a : Bool} {h : Int} {d key : List UInt8} (k : ¬ fk a h d = 0) (hd : d.length = 0) : hasF a h d key = a := by
  have e := fk_empty k hd
  cases a
  · exact hasF_0 (by rw [e]; simp) (by rw [e]; simp)
  · exact hasF_1 e
theorem hasF_bad {a : Bool} {h : Int} {d key : List UInt8} (k : ¬ chk a h d = 0) : hasF a h d key = false := by
  have : fk a h d = 0 := Decidable.byContradiction fun c => k (chk_0 c)
  exact hasF_0 (by omega) (by omega)
