/- The laws of scalar, walked: by the printed contracts and the pure statements. No condition but that the arguments read. -/
import Derived.Test.YtmfgdgmpblkadaaPureScalar3
import Derived.Test.YtmfgdgmpblkadaaOpen
set_option linter.unusedVariables false
set_option linter.unusedSimpArgs false
namespace Go.Proofs.Ytmfgdgmpblkadaa.Laws
open Go.RowKit Go.RK Go.Proofs.Ytmfgdgmpblkadaa.PAll Go.Proofs.YtmfgdgmpblkadaaW.PrintWords

theorem fn_K {w : World} {x : Int × Bool} {cs : Array Value} (h : (Kd.pair (Kd.int .i64) Kd.bool).K w x cs.toList) : cs = #[.int .i64 x.1, .bool x.2] := by
  obtain ⟨a, b, e, ha, hb⟩ := h
  have ha : a = [Value.int .i64 x.1] := ha
  have hb : b = [Value.bool x.2] := hb
  subst ha hb
  cases cs; simp_all

theorem scalarTwos (w : World) (cs : Array Value) (x : Int × Bool) (hk : (Kd.pair (Kd.int .i64) Kd.bool).K w x (Value.agg cs).cells.toList) (_ : I64wf x.1 ∧ True) (a : Int) (ha : I64wf a) (b : Int) (hb : I64wf b) :
    Calls Try.prog 11 #[.agg cs, .int .i64 a, .int .i64 b] w fun e w' => e = .returned (.bool true) ∧ Below w.heap.size w w' := by
  obtain rfl := fn_K hk
  exact rifflelaw04_ScalarTwos.calls 1000 x.1 x.2 a b true w (Pure.scalarTwos_all x.1 x.2 a b ha hb)

theorem scalarParts (w : World) (cs : Array Value) (x : Int × Bool) (hk : (Kd.pair (Kd.int .i64) Kd.bool).K w x (Value.agg cs).cells.toList) (_ : I64wf x.1 ∧ True) (a : Int) (ha : I64wf a) (b : Int) (hb : I64wf b) :
    Calls Try.prog 12 #[.agg cs, .int .i64 a, .int .i64 b] w fun e w' => e = .returned (.bool true) ∧ Below w.heap.size w w' := by
  obtain rfl := fn_K hk
  exact rifflelaw04_ScalarParts.calls 602 x.1 x.2 a b true w (Pure.scalarParts_all x.1 x.2 a b ha hb)

theorem scalarOnes (w : World) (c : Int) (_ : I64wf c) (v : Int) (_ : I64wf v) (a : Int) (ha : I64wf a) :
    Calls Try.prog 14 #[.int .i64 c, .int .i64 v, .int .i64 a] w fun e w' => e = .returned (.bool true) ∧ Below w.heap.size w w' :=
  rifflelaw04_ScalarOnes.calls 1000 c v a true w (Pure.scalarOnes_all c v a ha)

end Go.Proofs.Ytmfgdgmpblkadaa.Laws
