/- PurePlaces3: what this claim needs of a text of ours. -/
import Derived.Test.YtmfgdgmpblkadaaZCellMakes21
import Derived.Test.YtmfgdgmpblkadaaZCellMakes13
import Derived.Test.YtmfgdgmpblkadaaZCellMakes18
import Derived.Test.YtmfgdgmpblkadaaZCellMakes17
namespace Go.RS
end Go.RS
namespace Go.RL
end Go.RL
namespace Go.RP
end Go.RP
namespace Go.Proofs.Ytmfgdgmpblkadaa.PAll
end Go.Proofs.Ytmfgdgmpblkadaa.PAll
namespace Go.Proofs.YtmfgdgmpblkadaaW.PrintWords
end Go.Proofs.YtmfgdgmpblkadaaW.PrintWords
namespace Go.Proofs.YtmfgdgmpblkadaaW.PrintLast
end Go.Proofs.YtmfgdgmpblkadaaW.PrintLast

set_option linter.unusedVariables false
set_option linter.unusedSimpArgs false
namespace Go.Proofs.Ytmfgdgmpblkadaa.Pure
open Go.RowKit Go.RS Go.RL Go.RP Go.Proofs.Ytmfgdgmpblkadaa.PAll Go.Proofs.YtmfgdgmpblkadaaW.PrintWords Go.Proofs.YtmfgdgmpblkadaaW.PrintLast
theorem size_nonneg (d : List Int) : 0 ≤ sizeF d ∧ sizeF d ≤ 64 := by
  unfold sizeF
  by_cases hr : rightB d = true
  · rw [if_pos hr]; obtain ⟨h1, h2, h3⟩ := rightB_ok hr; exact ⟨prodI_nonneg h2, h3⟩
  · rw [if_neg hr]; omega
end Go.Proofs.Ytmfgdgmpblkadaa.Pure
