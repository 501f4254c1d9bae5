/- PurePlaces: what this claim needs of a text of ours. -/
import Derived.Test.YtmfgdgmpblkadaaZCellMakes20
import Derived.Test.YtmfgdgmpblkadaaZCellMakes13
import Derived.Test.YtmfgdgmpblkadaaZCellMakes18
import Derived.Test.YtmfgdgmpblkadaaZCellMakes17
set_option linter.unusedVariables false
set_option linter.unusedSimpArgs false
namespace Go.RS
def hr : List Int → List Int → Int
  | a :: t, x :: xs => x + a * hr t xs
  | _, _ => 0
end Go.RS
