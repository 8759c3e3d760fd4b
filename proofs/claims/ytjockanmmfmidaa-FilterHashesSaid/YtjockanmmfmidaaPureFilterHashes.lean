/- For every text, Hash tells the two numbers that the document tells. The text takes at most 2^47 - 4096 bytes. -/
import Derived.Test.YtjockanmmfmidaaPFilterHashesx1
namespace Go.Proofs.Ytjockanmmfmidaa.Pure
open Go.RowKit Go.Proofs.Ytjockanmmfmidaa.PFilterHashes Go.Proofs.YtjockanmmfmidaaW.PrintWords Go.Proofs.YtjockanmmfmidaaW.PrintLast

theorem wrap_one {i : Int} {n : Nat} (h0 : 0 ≤ i) (h : i < (n : Int)) (hn : n ≤ 140737488351232) : wrap64 (i + 1) = i + 1 := by
  unfold wrap64
  omega

theorem hash_same (s : ByteArray) (hn : s.size ≤ 140737488351232) (d : Nat) : ∀ (k : Nat) (h i : Int), 0 ≤ i → i ≤ s.size → (s.size : Int) - i = d → d < k →
    ∃ r, filter_Hash.l0 k s h (s.size : Int) i = some r ∧ winnowref7_Hash.l0 k s h i = some r := by
  induction d with
  | zero =>
    intro k h i h0 h1 hd hk
    obtain ⟨k, rfl⟩ : ∃ m, k = m + 1 := ⟨k - 1, by omega⟩
    simp only [filter_Hash.l0, winnowref7_Hash.l0]
    rw [if_neg (by omega)]
    exact ⟨_, rfl, by rw [if_neg (by omega)]⟩
  | succ d ih =>
    intro k h i h0 h1 hd hk
    obtain ⟨k, rfl⟩ : ∃ m, k = m + 1 := ⟨k - 1, by omega⟩
    have hlt : i < (s.size : Int) := by omega
    obtain ⟨r, hr, hr'⟩ := ih k (IntKind.u64.wrap ((Go.bits .xor .u64 h (IntKind.u64.wrap (bt s i))) * 1099511628211)) (i + 1) (by omega) (by omega) (by omega) (by omega)
    refine ⟨r, ?_, ?_⟩
    · simp only [filter_Hash.l0]; rw [if_pos hlt, if_pos h0, if_pos hlt, wrap_one h0 hlt hn]; exact hr
    · simp only [winnowref7_Hash.l0]; rw [if_pos hlt, if_pos h0, wrap_one h0 hlt hn]; exact hr'

theorem FilterHashes : winnowlaw7_FilterHashes.Pure := by
  intro s hn
  obtain ⟨r, hr, hr'⟩ := hash_same s hn s.size (s.size + 1) 14695981039346656037 0 (by omega) (by omega) (by omega) (by omega)
  refine ⟨s.size + 1, ?_⟩
  unfold winnowlaw7_FilterHashes.f filter_Hash.f winnowref7_Hash.f
  rw [hr, hr']
  simp


end Go.Proofs.Ytjockanmmfmidaa.Pure
