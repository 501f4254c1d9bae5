/- PureHas: what this claim needs of a text of ours. -/
import Derived.Test.YtmfgdgmpblkadaaZFoldRows13
import Derived.Test.YtmfgdgmpblkadaaZFoldRows16
namespace Go.RS
end Go.RS
namespace Go.RL
end Go.RL
namespace Go.RP
end Go.RP
namespace Go.Proofs.Ytmfgdgmpblkadaa.PAll
end Go.Proofs.Ytmfgdgmpblkadaa.PAll
namespace Go.Proofs.YtmfgdgmpblkadaaW.PrintWords
end Go.Proofs.YtmfgdgmpblkadaaW.PrintWords
namespace Go.Proofs.YtmfgdgmpblkadaaW.PrintLast
end Go.Proofs.YtmfgdgmpblkadaaW.PrintLast

set_option linter.unusedVariables false
set_option linter.unusedSimpArgs false
namespace Go.Proofs.Ytmfgdgmpblkadaa.Pure
open Go.RowKit Go.RS Go.RL Go.RP Go.Proofs.Ytmfgdgmpblkadaa.PAll Go.Proofs.YtmfgdgmpblkadaaW.PrintWords Go.Proofs.YtmfgdgmpblkadaaW.PrintLast
def hasF (code v : Int) : Bool := if v = 2 then decide (1 ≤ code) && decide (code ≤ 18) else if v = 1 then (decide (1 ≤ code) && decide (code ≤ 6)) || (decide (17 ≤ code) && decide (code ≤ 19)) else false
theorem has_eq (c v : Int) : scalar_Has.f c v = some (hasF c v) := by
  unfold scalar_Has.f glyph_Class.f glyph_is.f hasF
  by_cases h1 : c ≥ 1
  · rw [if_pos h1]
    simp only [Option.bind_some]
    by_cases h2 : c ≤ 43
    · rw [if_pos (decide_eq_true h2)]
      by_cases h3 : c ≤ 19
      · rw [if_pos h3]
        simp only [Option.bind_some, if_true]
        by_cases v1 : v = 1
        · subst v1
          simp only [if_true]
          rw [if_neg (show ¬ (1 : Int) = 2 by decide)]
          by_cases h6 : c ≤ 6
          · rw [if_pos h6]; simp; omega
          · rw [if_neg h6]; congr 1; rw [Bool.eq_iff_iff]; simp; omega
        · rw [if_neg v1]
          by_cases v2 : v = 2
          · subst v2
            simp only [if_true]
            congr 1
            rw [Bool.eq_iff_iff]; simp; omega
          · rw [if_neg v2, if_neg v2, if_neg v1]
      · rw [if_neg h3]
        have hf : (if v = 2 then decide (1 ≤ c) && decide (c ≤ 18) else if v = 1 then (decide (1 ≤ c) && decide (c ≤ 6)) || (decide (17 ≤ c) && decide (c ≤ 19)) else false) = false := by
          split
          · simp; omega
          · split
            · simp; omega
            · rfl
        rw [hf]
        by_cases h4 : c ≤ 30
        · rw [if_pos h4]; rfl
        · rw [if_neg h4]
          by_cases h5 : c ≤ 38
          · rw [if_pos h5]; rfl
          · rw [if_neg h5]; rfl
    · rw [if_neg (by simpa using h2)]
      simp only [Option.bind_some]
      rw [if_neg (by decide)]
      congr 1
      symm
      split
      · simp; omega
      · split
        · simp; omega
        · rfl
  · rw [if_neg h1]
    simp only [Option.bind_some]
    rw [if_neg (by decide)]
    simp only [Option.bind_some]
    rw [if_neg (by decide)]
    congr 1
    symm
    split
    · simp; omega
    · split
      · simp; omega
      · rfl
end Go.Proofs.Ytmfgdgmpblkadaa.Pure
