/- Small lemmas for the printed functions: a round's index, a list's element, a wrap that changes nothing. No condition. -/
import Derived.Test.YtmfgdgmpblkadaaPAllx0
import Derived.Test.YtmfgdgmpblkadaaSpecShape
import Derived.Test.YtmfgdgmpblkadaaLists
set_option linter.unusedVariables false
set_option linter.unusedSimpArgs false
namespace Go.RP
open Go.RowKit Go.RS Go.RL Go.Proofs.YtmfgdgmpblkadaaW.PrintWords

theorem w64 {n : Int} (h : -9223372036854775808 ≤ n ∧ n ≤ 9223372036854775807) : wrap64 n = n := by unfold wrap64; omega
theorem w64_succ {i : Nat} (h : i ≤ 140737488351232) : wrap64 ((i : Int) + 1) = ((i + 1 : Nat) : Int) := by rw [w64 (by omega)]; rfl
theorem rd_get {xs : List Int} {i : Nat} (h : i < xs.length) : rd xs (i : Int) = xs[i] := by
  unfold rd; rw [Int.toNat_natCast, List.getD_eq_getElem?_getD, List.getElem?_eq_getElem h]; rfl
theorem drop_cons {α : Type} {xs : List α} {i : Nat} (h : i < xs.length) : xs.drop i = xs[i] :: xs.drop (i + 1) := List.drop_eq_getElem_cons h
theorem nat_lt {a b : Nat} : ((a : Int) < (b : Int)) = (a < b) := propext Int.ofNat_lt
theorem nat_le0 (a : Nat) : (0 ≤ (a : Int)) = True := eq_true (by omega)
theorem succ_of {k : Nat} (h : 0 < k) : ∃ m, k = m + 1 := ⟨k - 1, by omega⟩

end Go.RP
