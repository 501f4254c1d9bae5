/- The laws of shape, walked: by the printed contracts and the pure statements. No condition but that the arguments read. -/
import Derived.Test.YtmfgdgmpblkadaaPureShapeTells
import Derived.Test.YtmfgdgmpblkadaaOpen
set_option linter.unusedVariables false
set_option linter.unusedSimpArgs false
namespace Go.Proofs.Ytmfgdgmpblkadaa.Laws
open Go.RowKit Go.RK Go.Proofs.Ytmfgdgmpblkadaa.PAll Go.Proofs.YtmfgdgmpblkadaaW.PrintWords

theorem len_of {w : World} {A : Option Addr} {xs : List Int} (h : (Kd.int .i64).C w A xs.length xs) : xs.length ≤ 9223372036854775807 := (C_ints h).2.1

theorem shapeTells (w : World) (A : Option Addr) (c : Nat) (l : List Int) (_hl : l.length ≤ c) (hC : (Kd.int .i64).C w A l.length l) (_hw : ∀ x ∈ l, I64wf x) (B : Option Addr) (c' : Nat) (m : List Int) (_hl' : m.length ≤ c') (hC' : (Kd.int .i64).C w B m.length m) (_hw' : ∀ x ∈ m, I64wf x) :
    Calls Try.prog 3 #[.slice A l.length c, .slice B m.length c'] w fun e w' => e = .returned (.bool true) ∧ Below w.heap.size w w' := by
  have h : rifflelaw01_ShapeTells.f 1000 l m = some true := Pure.shapeTells_all l m
  exact (rifflelaw01_ShapeTells.calls 1000 A c l B c' m true w hC _hl hC' _hl' h)

end Go.Proofs.Ytmfgdgmpblkadaa.Laws
