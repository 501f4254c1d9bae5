/- WalkScalar: what this claim needs of a text of ours. -/
import Derived.Test.YtmfgdgmpblkadaaZFoldRows23
import Derived.Test.YtmfgdgmpblkadaaZFoldRows27
namespace Go.RK
end Go.RK
namespace Go.Proofs.Ytmfgdgmpblkadaa.PAll
end Go.Proofs.Ytmfgdgmpblkadaa.PAll
namespace Go.Proofs.YtmfgdgmpblkadaaW.PrintWords
end Go.Proofs.YtmfgdgmpblkadaaW.PrintWords

set_option linter.unusedVariables false
set_option linter.unusedSimpArgs false
namespace Go.Proofs.Ytmfgdgmpblkadaa.Laws
open Go.RowKit Go.RK Go.Proofs.Ytmfgdgmpblkadaa.PAll Go.Proofs.YtmfgdgmpblkadaaW.PrintWords
theorem fn_K {w : World} {x : Int × Bool} {cs : Array Value} (h : (Kd.pair (Kd.int .i64) Kd.bool).K w x cs.toList) : cs = #[.int .i64 x.1, .bool x.2] := by
  obtain ⟨a, b, e, ha, hb⟩ := h
  have ha : a = [Value.int .i64 x.1] := ha
  have hb : b = [Value.bool x.2] := hb
  subst ha hb
  cases cs; simp_all
end Go.Proofs.Ytmfgdgmpblkadaa.Laws
