/- PureScalar3: what this claim needs of a text of ours. -/
import Derived.Test.YtmfgdgmpblkadaaZFoldRows19
import Derived.Test.YtmfgdgmpblkadaaZFoldRows21
import Derived.Test.YtmfgdgmpblkadaaZFoldRows20
import Derived.Test.YtmfgdgmpblkadaaZFoldRows11
import Derived.Test.YtmfgdgmpblkadaaZFoldRows13
import Derived.Test.YtmfgdgmpblkadaaZFoldRows14
import Derived.Test.YtmfgdgmpblkadaaZFoldRows15
import Derived.Test.YtmfgdgmpblkadaaZFoldRows22
namespace Go.RS
end Go.RS
namespace Go.RL
end Go.RL
namespace Go.RP
end Go.RP
namespace Go.Proofs.Ytmfgdgmpblkadaa.PAll
end Go.Proofs.Ytmfgdgmpblkadaa.PAll
namespace Go.Proofs.YtmfgdgmpblkadaaW.PrintWords
end Go.Proofs.YtmfgdgmpblkadaaW.PrintWords
namespace Go.Proofs.YtmfgdgmpblkadaaW.PrintLast
end Go.Proofs.YtmfgdgmpblkadaaW.PrintLast

set_option linter.unusedVariables false
set_option linter.unusedSimpArgs false
namespace Go.Proofs.Ytmfgdgmpblkadaa.Pure
open Go.RowKit Go.RS Go.RL Go.RP Go.Proofs.Ytmfgdgmpblkadaa.PAll Go.Proofs.YtmfgdgmpblkadaaW.PrintWords Go.Proofs.YtmfgdgmpblkadaaW.PrintLast
theorem do_eq (c : Int) (s : Bool) (a b : Int) (ha : In64 a) (hb : In64 b) (k : Nat) (hk : 64 < k) : scalar_Do.f k c s a b = some (if hasF c 2 then (if s then twoF c b a else twoF c a b, true) else (0, false)) := by
  unfold scalar_Do.f
  cases s
  · rw [if_neg (by decide), two_eq c a b hb k hk]
    by_cases h : hasF c 2 = true <;> simp [h]
  · rw [if_pos rfl, two_eq c b a ha k hk]
    by_cases h : hasF c 2 = true <;> simp [h]
theorem refDo_eq (c : Int) (s : Bool) (a b : Int) (ha : In64 a) (hb : In64 b) (k : Nat) (hk : 301 < k) : riffleref04_Do.f k c s a b = some (if hasF c 2 then (if s then twoF c b a else twoF c a b, true) else (0, false)) := by
  unfold riffleref04_Do.f
  cases s
  · rw [if_neg (by decide), refTwo_eq c a b ha hb k hk]
    by_cases h : hasF c 2 = true <;> simp [h]
  · rw [if_pos rfl, refTwo_eq c b a hb ha k hk]
    by_cases h : hasF c 2 = true <;> simp [h]
end Go.Proofs.Ytmfgdgmpblkadaa.Pure
