/- PureShape: what this claim needs of a text of ours. -/
import Derived.Test.YtmfgdgmpblkadaaZCellMakes13
import Derived.Test.YtmfgdgmpblkadaaZCellMakes17
import Derived.Test.YtmfgdgmpblkadaaZCellMakes18
import Derived.Test.YtmfgdgmpblkadaaZCellMakes19
namespace Go.RS
end Go.RS
namespace Go.RL
end Go.RL
namespace Go.RP
end Go.RP
namespace Go.Proofs.Ytmfgdgmpblkadaa.PAll
end Go.Proofs.Ytmfgdgmpblkadaa.PAll
namespace Go.Proofs.YtmfgdgmpblkadaaW.PrintWords
end Go.Proofs.YtmfgdgmpblkadaaW.PrintWords
namespace Go.Proofs.YtmfgdgmpblkadaaW.PrintLast
end Go.Proofs.YtmfgdgmpblkadaaW.PrintLast

set_option linter.unusedVariables false
set_option linter.unusedSimpArgs false
namespace Go.Proofs.Ytmfgdgmpblkadaa.Pure
open Go.RowKit Go.RS Go.RL Go.RP Go.Proofs.Ytmfgdgmpblkadaa.PAll Go.Proofs.YtmfgdgmpblkadaaW.PrintWords Go.Proofs.YtmfgdgmpblkadaaW.PrintLast
theorem right_eq (l : List Int) : shape_Right.f l = some (rightB l) := by
  unfold shape_Right.f shape_product.f rightB
  simp only [Option.bind_some]
  cases okDims l <;> simp
theorem size_eq (l : List Int) : shape_Size.f l = some (sizeF l) := by
  unfold shape_Size.f shape_product.f sizeF rightB
  simp only [Option.bind_some]
  cases okDims l
  · simp
  · by_cases h : prodI l ≤ 64 <;> simp [h]
theorem refRight_l (l : List Int) (hl : l.length ≤ 3) : ∀ (d k i : Nat), i + d = l.length → d < k → (l.take i).all inAxis = true →
    riffleref01_Right.l0 k l (prodI (l.take i)) i = some (rightB l) := by
  intro d
  induction d with
  | zero =>
    intro k i hi hk ha
    obtain ⟨k, rfl⟩ := succ_of hk
    have hi : i = l.length := by omega
    subst hi
    rw [List.take_length] at ha ⊢
    simp only [riffleref01_Right.l0]
    rw [if_neg (by omega)]
    simp [rightB, okDims, ha, hl]
  | succ d ih =>
    intro k i hi hk ha
    obtain ⟨k, rfl⟩ := succ_of (show 0 < k by omega)
    have hlt : i < l.length := by omega
    simp only [riffleref01_Right.l0]
    rw [if_pos (by omega), if_pos (by omega), rd_get hlt, w64_succ (by omega)]
    have hbad : inAxis l[i] = false → rightB l = false := by
      intro h
      have : l.all inAxis = false := by
        rw [Bool.eq_false_iff]; intro hh
        rw [List.all_eq_true] at hh
        have := hh l[i] (List.getElem_mem hlt)
        rw [h] at this; cases this
      simp [rightB, okDims, this]
    by_cases h1 : l[i] < 0
    · rw [if_pos h1, hbad (by simp [inAxis]; omega)]
    · rw [if_neg h1]
      by_cases h2 : l[i] > 64
      · rw [if_pos h2, hbad (by simp [inAxis]; omega)]
      · rw [if_neg h2]
        have ha' : (l.take (i + 1)).all inAxis = true := by
          rw [List.take_add_one, List.getElem?_eq_getElem hlt, Option.toList_some, List.all_append, ha]
          simp [inAxis]; omega
        have hp : prodI (l.take (i + 1)) = prodI (l.take i) * l[i] := by
          rw [List.take_add_one, List.getElem?_eq_getElem hlt, Option.toList_some, prodI_snoc]
        have hb := prodI_bd ha' (by rw [List.length_take]; omega)
        rw [← hp, w64 (by omega)]
        exact ih k (i + 1) (by omega) (by omega) ha'
theorem refRight_eq (l : List Int) (k : Nat) (hk : 3 < k) : riffleref01_Right.f k l = some (rightB l) := by
  unfold riffleref01_Right.f
  by_cases h : l.length ≤ 3
  · rw [if_neg (by omega)]
    have := refRight_l l h l.length k 0 (by omega) (by omega) rfl
    simpa [prodI] using this
  · rw [if_pos (by omega)]
    have : decide (l.length ≤ 3) = false := decide_eq_false h
    simp [rightB, okDims, this]
theorem refSize_l (l : List Int) (hl : l.length ≤ 3) (ha : l.all inAxis = true) : ∀ (d k i : Nat), i + d = l.length → d < k →
    riffleref01_Size.l0 k l (prodI (l.take i)) i = some (prodI l) := by
  intro d
  induction d with
  | zero =>
    intro k i hi hk
    obtain ⟨k, rfl⟩ := succ_of hk
    obtain rfl : i = l.length := by omega
    simp only [riffleref01_Size.l0]
    rw [if_neg (by omega), List.take_length]
  | succ d ih =>
    intro k i hi hk
    obtain ⟨k, rfl⟩ := succ_of (show 0 < k by omega)
    have hlt : i < l.length := by omega
    simp only [riffleref01_Size.l0]
    rw [if_pos (by omega), if_pos (by omega), rd_get hlt, w64_succ (by omega)]
    have hp : prodI (l.take (i + 1)) = prodI (l.take i) * l[i] := by
      rw [List.take_add_one, List.getElem?_eq_getElem hlt, Option.toList_some, prodI_snoc]
    have ha' : (l.take (i + 1)).all inAxis = true := by
      rw [List.all_eq_true] at ha ⊢
      exact fun x hx => ha x (List.mem_of_mem_take hx)
    have hb := prodI_bd ha' (by rw [List.length_take]; omega)
    rw [← hp, w64 (by omega)]
    exact ih k (i + 1) (by omega) (by omega)
theorem rightB_ok {l : List Int} (h : rightB l = true) : l.length ≤ 3 ∧ l.all inAxis = true ∧ prodI l ≤ 64 := by
  simpa [rightB, okDims, and_assoc] using h
theorem refSize_eq (l : List Int) (k : Nat) (hk : 3 < k) : riffleref01_Size.f k l = some (sizeF l) := by
  unfold riffleref01_Size.f
  rw [refRight_eq l k hk]
  simp only [Option.bind_some]
  by_cases h : rightB l = true
  · obtain ⟨h1, h2, h3⟩ := rightB_ok h
    rw [if_pos h]
    have := refSize_l l h1 h2 l.length k 0 (by omega) (by omega)
    rw [sizeF, if_pos h]
    simpa [prodI] using this
  · rw [if_neg h, sizeF, if_neg h]
theorem refSame_l (xs ys : List Int) (hl : xs.length = ys.length) (hb : xs.length ≤ 140737488351232) : ∀ (d k i : Nat), i + d = xs.length → d < k → xs.take i = ys.take i → riffleref01_Same.l0 k xs ys i = some (decide (xs = ys)) := by
  intro d
  induction d with
  | zero =>
    intro k i hi hk ht
    obtain ⟨k, rfl⟩ := succ_of hk
    obtain rfl : i = xs.length := by omega
    simp only [riffleref01_Same.l0]
    rw [if_neg (by omega)]
    rw [List.take_length, hl, List.take_length] at ht
    simp [ht]
  | succ d ih =>
    intro k i hi hk ht
    obtain ⟨k, rfl⟩ := succ_of (show 0 < k by omega)
    have hlt : i < xs.length := by omega
    have hlt' : i < ys.length := by omega
    simp only [riffleref01_Same.l0]
    rw [if_pos (by omega), if_pos (by omega), if_pos (by omega), rd_get hlt, rd_get hlt', w64_succ (by omega)]
    by_cases he : xs[i] = ys[i]
    · rw [if_pos he]
      exact ih k (i + 1) (by omega) (by omega) (by rw [List.take_add_one, List.take_add_one, ht, List.getElem?_eq_getElem hlt, List.getElem?_eq_getElem hlt', he])
    · rw [if_neg he]
      have : xs ≠ ys := by rintro rfl; exact he rfl
      simp [this]
theorem refSame_eq (xs ys : List Int) (hb : xs.length ≤ 140737488351232) (k : Nat) (hk : xs.length < k) : riffleref01_Same.f k xs ys = some (decide (xs = ys)) := by
  unfold riffleref01_Same.f
  by_cases hl : xs.length = ys.length
  · rw [if_pos (by omega)]
    exact refSame_l xs ys hl hb xs.length k 0 (by omega) hk rfl
  · rw [if_neg (by omega)]
    have : xs ≠ ys := by rintro rfl; exact hl rfl
    simp [this]
end Go.Proofs.Ytmfgdgmpblkadaa.Pure
