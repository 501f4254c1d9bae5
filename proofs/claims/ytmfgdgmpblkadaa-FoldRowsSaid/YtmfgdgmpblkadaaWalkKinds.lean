/- ScalarKinds and FoldRows, walked: by the printed contracts and the pure statements. No condition but that the arguments read. -/
import Derived.Test.YtmfgdgmpblkadaaPureKinds
import Derived.Test.YtmfgdgmpblkadaaWalkScalar
set_option linter.unusedVariables false
set_option linter.unusedSimpArgs false
namespace Go.Proofs.Ytmfgdgmpblkadaa.Laws
open Go.RowKit Go.RK Go.Proofs.Ytmfgdgmpblkadaa.PAll Go.Proofs.YtmfgdgmpblkadaaW.PrintWords

theorem scalarKinds (w : World) (c : Int) (_ : I64wf c) :
    Calls Try.prog 13 #[.int .i64 c] w fun e w' => e = .returned (.bool true) ∧ Below w.heap.size w w' :=
  rifflelaw04_ScalarKinds.calls 1000 c true w (Pure.scalarKinds_all c)

theorem foldRows (w : World) (cs : Array Value) (x : Int × Bool) (hk : (Kd.pair (Kd.int .i64) Kd.bool).K w x (Value.agg cs).cells.toList) (_ : I64wf x.1 ∧ True) (A : Option Addr) (c : Nat) (l : List Int) (_hl : l.length ≤ c) (hC : (Kd.int .i64).C w A l.length l) (hw : ∀ x ∈ l, I64wf x) :
    Calls Try.prog 29 #[.agg cs, .slice A l.length c] w fun e w' => e = .returned (.bool true) ∧ Below w.heap.size w w' := by
  obtain rfl := fn_K hk
  exact rifflelaw08_FoldRows.calls 1000 x.1 x.2 A c l true w hC _hl (Pure.foldRows_all x.1 x.2 l hw)

end Go.Proofs.Ytmfgdgmpblkadaa.Laws
