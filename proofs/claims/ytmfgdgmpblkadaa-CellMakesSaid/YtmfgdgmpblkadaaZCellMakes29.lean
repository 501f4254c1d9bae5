/- PureCell: what this claim needs of a text of ours. -/
import Derived.Test.YtmfgdgmpblkadaaZCellMakes24
import Derived.Test.YtmfgdgmpblkadaaZCellMakes22
import Derived.Test.YtmfgdgmpblkadaaZCellMakes13
import Derived.Test.YtmfgdgmpblkadaaZCellMakes25
import Derived.Test.YtmfgdgmpblkadaaZCellMakes18
import Derived.Test.YtmfgdgmpblkadaaZCellMakes28
import Derived.Test.YtmfgdgmpblkadaaZCellMakes17
import Derived.Test.YtmfgdgmpblkadaaZCellMakes26
namespace Go.RS
end Go.RS
namespace Go.RL
end Go.RL
namespace Go.RP
end Go.RP
namespace Go.Proofs.Ytmfgdgmpblkadaa.PAll
end Go.Proofs.Ytmfgdgmpblkadaa.PAll
namespace Go.Proofs.YtmfgdgmpblkadaaW.PrintWords
end Go.Proofs.YtmfgdgmpblkadaaW.PrintWords
namespace Go.Proofs.YtmfgdgmpblkadaaW.PrintLast
end Go.Proofs.YtmfgdgmpblkadaaW.PrintLast

set_option linter.unusedVariables false
set_option linter.unusedSimpArgs false
namespace Go.Proofs.Ytmfgdgmpblkadaa.Pure
open Go.RowKit Go.RS Go.RL Go.RP Go.Proofs.Ytmfgdgmpblkadaa.PAll Go.Proofs.YtmfgdgmpblkadaaW.PrintWords Go.Proofs.YtmfgdgmpblkadaaW.PrintLast
theorem clone_i (l : List Int) (h : l.length ≤ 1000) : slices_Clone_int_int.f l = some l := by unfold slices_Clone_int_int.f; rw [if_pos (by omega)]
theorem clone_l (l : List Int) (h : l.length ≤ 1000) : slices_Clone_int64_int64.f l = some l := by unfold slices_Clone_int64_int64.f; rw [if_pos (by omega)]
theorem nums_l (xs ys : List Int) (hl : xs.length = ys.length) (hb : xs.length ≤ 100000) : ∀ (d k i : Nat), i + d = xs.length → d < k → xs.take i = ys.take i → riffleref03_Nums.l0 k xs ys (i : Int) = some (decide (xs = ys)) := by
  intro d
  induction d with
  | zero =>
    intro k i hi hk ht
    obtain ⟨k, rfl⟩ := succ_of hk
    obtain rfl : i = xs.length := by omega
    simp only [riffleref03_Nums.l0]
    rw [if_neg (by omega)]
    rw [List.take_length, hl, List.take_length] at ht
    simp [ht]
  | succ d ih =>
    intro k i hi hk ht
    obtain ⟨k, rfl⟩ := succ_of (show 0 < k by omega)
    have hlt : i < xs.length := by omega
    have hlt' : i < ys.length := by omega
    simp only [riffleref03_Nums.l0]
    rw [if_pos (by omega), if_pos (by omega), if_pos (by omega), rd_get hlt, rd_get hlt', w64_succ (by omega)]
    by_cases he : xs[i] = ys[i]
    · rw [if_pos he]
      exact ih k (i + 1) (by omega) (by omega) (by rw [List.take_add_one, List.take_add_one, ht, List.getElem?_eq_getElem hlt, List.getElem?_eq_getElem hlt', he])
    · rw [if_neg he]
      have : xs ≠ ys := by rintro rfl; exact he rfl
      simp [this]
theorem nums_eq (xs ys : List Int) (hb : xs.length ≤ 100000) (k : Nat) (hk : xs.length < k) : riffleref03_Nums.f k xs ys = some (decide (xs = ys)) := by
  unfold riffleref03_Nums.f
  by_cases hl : (xs.length : Int) = (ys.length : Int)
  · rw [if_pos hl]
    have := nums_l xs ys (by omega) hb xs.length k 0 (by omega) hk rfl
    simpa using this
  · rw [if_neg hl]
    have : xs ≠ ys := by rintro rfl; exact hl rfl
    simp [this]
theorem rSame_eq (d v e u : List Int) (hd : d.length ≤ 100000) (hv : v.length ≤ 100000) (k : Nat) (hk : d.length < k ∧ v.length < k) : riffleref03_Same.f k d v e u = some (decide (d = e) && decide (v = u)) := by
  unfold riffleref03_Same.f
  rw [refSame_eq d e (by omega) k hk.1, nums_eq v u hv k hk.2]
  by_cases h : d = e <;> simp [h]
theorem rSame_self (d v : List Int) (hd : d.length ≤ 100000) (hv : v.length ≤ 100000) (k : Nat) (hk : d.length < k ∧ v.length < k) : riffleref03_Same.f k d v d v = some true := by
  rw [rSame_eq d v d v hd hv k hk]; simp
theorem of_eq (d v : List Int) (hv : v.length ≤ 1000) : cell_Of.f d v = some (if rightB d then (if (v.length : Int) = sizeF d then (d, v, 0) else ([], [], 3)) else ([], [], 1)) := by
  unfold cell_Of.f
  rw [right_eq, size_eq]
  by_cases h : rightB d = true
  · have := (rightB_ok h).1
    simp only [Option.bind_some, h, if_true]
    rw [clone_i d (by omega), clone_l v hv]
    split <;> rfl
  · simp [h]
theorem list_eq (v : List Int) (hv : v.length ≤ 1000) : cell_List.f v = some (if (v.length : Int) > 64 then ([], [], 4) else ([(v.length : Int)], v, 0)) := by
  unfold cell_List.f
  rw [clone_l v hv]
  split <;> rfl
def zeroF (d : List Int) : List Int × List Int := if rightB d then (d, List.replicate (sizeF d).toNat 0) else ([], [])
theorem zero_eq (d : List Int) : cell_Zero.f d = some (zeroF d) := by
  unfold cell_Zero.f zeroF
  rw [right_eq, size_eq]
  obtain ⟨h0, h1⟩ := size_nonneg d
  by_cases h : rightB d = true
  · have := (rightB_ok h).1
    simp only [Option.bind_some, h, if_true]
    rw [clone_i d (by omega)]
    simp only [Option.bind_some]
    rw [if_pos h0, if_pos (by omega)]
  · simp [h]
theorem rZero_eq (d : List Int) (hd : d.length ≤ 1000) (k : Nat) (hk : 3 < k) : riffleref03_Zero.f k d = some (zeroF d) := by
  unfold riffleref03_Zero.f zeroF
  rw [refRight_eq d k hk, refSize_eq d k hk]
  obtain ⟨h0, h1⟩ := size_nonneg d
  by_cases h : rightB d = true
  · simp only [Option.bind_some, h, if_true, List.nil_append, List.length_nil]
    rw [if_pos (by omega), if_pos h0, if_pos (by omega)]
  · simp [h]
theorem lives03_at {k : Nat} (hk : 50 ≤ k) : rifflelaw03_lives.f k = some true :=
  at_rounds (fun k => rifflelaw03_lives.mono k) hk (by decide +kernel)
end Go.Proofs.Ytmfgdgmpblkadaa.Pure
