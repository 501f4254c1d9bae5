/- PureBack: what this claim needs of a text of ours. -/
import Derived.Test.YtmfgdgmpblkadaaZCellMakes21
import Derived.Test.YtmfgdgmpblkadaaZCellMakes13
import Derived.Test.YtmfgdgmpblkadaaZCellMakes18
import Derived.Test.YtmfgdgmpblkadaaZCellMakes17
import Derived.Test.YtmfgdgmpblkadaaZCellMakes20
import Derived.Test.YtmfgdgmpblkadaaZCellMakes23
import Derived.KernelRfl
namespace Go.RS
end Go.RS
namespace Go.RL
end Go.RL
namespace Go.RP
end Go.RP
namespace Go.Proofs.Ytmfgdgmpblkadaa.PAll
end Go.Proofs.Ytmfgdgmpblkadaa.PAll
namespace Go.Proofs.YtmfgdgmpblkadaaW.PrintWords
end Go.Proofs.YtmfgdgmpblkadaaW.PrintWords
namespace Go.Proofs.YtmfgdgmpblkadaaW.PrintLast
end Go.Proofs.YtmfgdgmpblkadaaW.PrintLast

set_option linter.unusedVariables false
set_option linter.unusedSimpArgs false
namespace Go.Proofs.Ytmfgdgmpblkadaa.Pure
open Go.RowKit Go.RS Go.RL Go.RP Go.Proofs.Ytmfgdgmpblkadaa.PAll Go.Proofs.YtmfgdgmpblkadaaW.PrintWords Go.Proofs.YtmfgdgmpblkadaaW.PrintLast
def permOk (p : List Int) : Prop := p.Nodup ∧ ∀ x ∈ p, 0 ≤ x ∧ x < p.length
instance (p : List Int) : Decidable (permOk p) := by unfold permOk; infer_instance
end Go.Proofs.Ytmfgdgmpblkadaa.Pure
