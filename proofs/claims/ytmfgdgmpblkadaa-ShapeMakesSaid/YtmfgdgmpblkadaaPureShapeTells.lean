/- ShapeTells: what the program tells of axes is what the reference tells. No condition beyond the law's own. -/
import Derived.Test.YtmfgdgmpblkadaaPureShape
set_option linter.unusedVariables false
set_option linter.unusedSimpArgs false
namespace Go.Proofs.Ytmfgdgmpblkadaa.Pure
open Go.RowKit Go.RS Go.RL Go.RP Go.Proofs.Ytmfgdgmpblkadaa.PAll Go.Proofs.YtmfgdgmpblkadaaW.PrintWords Go.Proofs.YtmfgdgmpblkadaaW.PrintLast

theorem lives01_at {k : Nat} (hk : 20 ≤ k) : rifflelaw01_lives.f k = some true :=
  at_rounds (fun k => rifflelaw01_lives.mono k) hk (by decide +kernel)

theorem shapeTells_all (l0 l1 : List Int) : rifflelaw01_ShapeTells.f 1000 l0 l1 = some true := by
  unfold rifflelaw01_ShapeTells.f
  by_cases h0 : (l0.length : Int) > 100
  · rw [if_pos h0]
    simp only [rifflelaw01_ShapeTells.j0]
    simp [lives01_at]
  · rw [if_neg h0]
    by_cases h1 : (l1.length : Int) > 100
    · rw [decide_eq_true h1]
      simp only [rifflelaw01_ShapeTells.j0]
      simp [lives01_at]
    · rw [decide_eq_false h1]
      simp only [rifflelaw01_ShapeTells.j0]
      have e1 := same_eq l0 l1 (by omega) 999 (by omega)
      have e2 := refSame_eq l0 l1 (by omega) 999 (by omega)
      have e3 := same_eq l0 l0 (by omega) 999 (by omega)
      simp [right_eq, size_eq, refRight_eq, refSize_eq, e1, e2, e3, lives01_at]

end Go.Proofs.Ytmfgdgmpblkadaa.Pure
