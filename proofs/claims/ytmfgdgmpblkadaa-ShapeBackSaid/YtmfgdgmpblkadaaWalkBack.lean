/- ShapeBack, walked: by the printed contract and the pure statement. No condition but that the arguments read. -/
import Derived.Test.YtmfgdgmpblkadaaPureBack
import Derived.Test.YtmfgdgmpblkadaaOpen
set_option linter.unusedVariables false
set_option linter.unusedSimpArgs false
namespace Go.Proofs.Ytmfgdgmpblkadaa.Laws
open Go.RowKit Go.RK Go.Proofs.Ytmfgdgmpblkadaa.PAll Go.Proofs.YtmfgdgmpblkadaaW.PrintWords

theorem shapeBack (w : World) (A : Option Addr) (c : Nat) (l : List Int) (_hl : l.length ≤ c) (hC : (Kd.int .i64).C w A l.length l) (_hw : ∀ x ∈ l, I64wf x) (B : Option Addr) (c' : Nat) (m : List Int) (_hl' : m.length ≤ c') (hC' : (Kd.int .i64).C w B m.length m) (_hw' : ∀ x ∈ m, I64wf x) :
    Calls Try.prog 6 #[.slice A l.length c, .slice B m.length c'] w fun e w' => e = .returned (.bool true) ∧ Below w.heap.size w w' :=
  rifflelaw01_ShapeBack.calls 1000 A c l B c' m true w hC _hl hC' _hl' (Pure.shapeBack_all l m)

end Go.Proofs.Ytmfgdgmpblkadaa.Laws
