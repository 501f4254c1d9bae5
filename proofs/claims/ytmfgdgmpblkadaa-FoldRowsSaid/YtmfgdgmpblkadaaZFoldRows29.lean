/- WalkKinds: what this claim needs of a text of ours. -/
import Derived.Test.YtmfgdgmpblkadaaZFoldRows26
import Derived.Test.YtmfgdgmpblkadaaZFoldRows28
namespace Go.RK
end Go.RK
namespace Go.Proofs.Ytmfgdgmpblkadaa.PAll
end Go.Proofs.Ytmfgdgmpblkadaa.PAll
namespace Go.Proofs.YtmfgdgmpblkadaaW.PrintWords
end Go.Proofs.YtmfgdgmpblkadaaW.PrintWords

set_option linter.unusedVariables false
set_option linter.unusedSimpArgs false
namespace Go.Proofs.Ytmfgdgmpblkadaa.Laws
open Go.RowKit Go.RK Go.Proofs.Ytmfgdgmpblkadaa.PAll Go.Proofs.YtmfgdgmpblkadaaW.PrintWords
theorem foldRows (w : World) (cs : Array Value) (x : Int × Bool) (hk : (Kd.pair (Kd.int .i64) Kd.bool).K w x (Value.agg cs).cells.toList) (_ : I64wf x.1 ∧ True) (A : Option Addr) (c : Nat) (l : List Int) (_hl : l.length ≤ c) (hC : (Kd.int .i64).C w A l.length l) (hw : ∀ x ∈ l, I64wf x) :
    Calls Try.prog 29 #[.agg cs, .slice A l.length c] w fun e w' => e = .returned (.bool true) ∧ Below w.heap.size w w' := by
  obtain rfl := fn_K hk
  exact rifflelaw08_FoldRows.calls 1000 x.1 x.2 A c l true w hC _hl (Pure.foldRows_all x.1 x.2 l hw)
end Go.Proofs.Ytmfgdgmpblkadaa.Laws
