/- PUnit: what this claim needs of a text of ours. -/
import Derived.Test.YtmfgdgmpblkadaaZFoldRows11
import Derived.Test.YtmfgdgmpblkadaaZFoldRows13
import Derived.Test.YtmfgdgmpblkadaaZFoldRows12
import Derived.Test.YtmfgdgmpblkadaaZFoldRows18
namespace Go.RK
end Go.RK
namespace Go.Proofs.YtmfgdgmpblkadaaW.PrintWords
end Go.Proofs.YtmfgdgmpblkadaaW.PrintWords

set_option linter.unusedVariables false
set_option linter.unusedSimpArgs false
set_option maxHeartbeats 800000
set_option maxRecDepth 100000
namespace Go.Proofs.Ytmfgdgmpblkadaa.PAll
open Go.RowKit Go.RK Go.Proofs.YtmfgdgmpblkadaaW.PrintWords
theorem drawn_size {w w' : World} (h : Drawn0 w w') : w.heap.size ≤ w'.heap.size := by
  obtain ⟨n, rfl⟩ := h.out
  simp
def unitsL : List Int := [0, 0, 0, 1, 1, 1, 0, -9223372036854775808, 9223372036854775807, 1, 0, 0, 1, 0, 1, -1, 0]
def scalar_Unit.f (c : Int) : Option (Int × Bool) := some (if 1 ≤ c ∧ c ≤ 16 then (unitsL.getD c.toNat 0, true) else (0, false))
theorem scalar_Unit.calls (a0 : Int) (r1 : Int) (r2 : Bool) (w : World) (h : scalar_Unit.f a0 = some (r1, r2)) :
    Calls Try.prog 87 #[.int .i64 a0] w fun e w' => e = .returned (.tuple #[.int .i64 r1, .bool r2]) ∧ Below w.heap.size w w' := by
  have HF := Lib.hid h
  clear h
  by_cases hc : 1 ≤ a0 ∧ a0 ≤ 16
  · have hh : scalar_Has.f a0 2 = some true := by rw [Pure.has_eq]; simp [Pure.hasF]; omega
    have h := HF.out
    unfold scalar_Unit.f at h
    rw [if_pos hc] at h
    obtain ⟨rfl, rfl⟩ := Prod.mk.inj (Option.some.inj h)
    have h17 : ¬ a0 = 17 := by omega
    have h18 : ¬ a0 = 18 := by omega
    have hb : ∃ k : Nat, a0 = ↑k ∧ 1 ≤ k ∧ k ≤ 16 := ⟨a0.toNat, by omega, by omega, by omega⟩
    obtain ⟨k, rfl, hk1, hk2⟩ := hb
    clear h hc HF
    have e17 : ((k : Int) == 17) = false := by simpa using h17
    have e18 : ((k : Int) == 18) = false := by simpa using h18
    clear h17 h18
    have hget : ([Value.int .i64 0, Value.int .i64 0, Value.int .i64 0, Value.int .i64 1, Value.int .i64 1, Value.int .i64 1, Value.int .i64 0, Value.int .i64 (-9223372036854775808), Value.int .i64 9223372036854775807, Value.int .i64 1, Value.int .i64 0, Value.int .i64 0, Value.int .i64 1, Value.int .i64 0, Value.int .i64 1, Value.int .i64 (-1), Value.int .i64 0] : List Value)[k]? = some (.int .i64 (unitsL.getD k 0)) := by
      have hk : (k = 1 ∨ k = 2 ∨ k = 3 ∨ k = 4 ∨ k = 5 ∨ k = 6 ∨ k = 7 ∨ k = 8) ∨ (k = 9 ∨ k = 10 ∨ k = 11 ∨ k = 12 ∨ k = 13 ∨ k = 14 ∨ k = 15 ∨ k = 16) := by omega
      rcases hk with (rfl | rfl | rfl | rfl | rfl | rfl | rfl | rfl) | (rfl | rfl | rfl | rfl | rfl | rfl | rfl | rfl) <;> rfl
    rw [show (↑k : Int).toNat = k from rfl]
    go_enter Try.func87, Try.ntmps87
    go_wp2_with fail
    refine (scalar_Has.calls _ _ _ _ hh).mono ?_
    rintro e w1 ⟨rfl, HW⟩
    have HB := Aside0.mk HW
    clear HW hh
    go_wp2_with fail
    go_ret2
    exact ⟨rfl, HB.out.below.alloc (drawn_size HB.out) _⟩
  · have h := HF.out
    unfold scalar_Unit.f at h
    rw [if_neg hc] at h
    obtain ⟨rfl, rfl⟩ := Prod.mk.inj (Option.some.inj h)
    clear h HF
    by_cases h17 : a0 = 17 ∨ a0 = 18
    · have hh : scalar_Has.f a0 2 = some true := by rw [Pure.has_eq]; simp [Pure.hasF]; omega
      rcases h17 with rfl | rfl
      all_goals
        clear hc
        go_enter Try.func87, Try.ntmps87
        go_wp2_with fail
        refine (scalar_Has.calls _ _ _ _ hh).mono ?_
        rintro e w1 ⟨rfl, HW⟩
        have HB := Aside0.mk HW
        clear HW hh
        go_wp2
        go_ret2
        exact ⟨rfl, HB.out.below⟩
    · have hh : scalar_Has.f a0 2 = some false := by rw [Pure.has_eq]; simp [Pure.hasF]; omega
      clear hc h17
      go_enter Try.func87, Try.ntmps87
      go_wp2_with fail
      refine (scalar_Has.calls _ _ _ _ hh).mono ?_
      rintro e w1 ⟨rfl, HW⟩
      have HB := Aside0.mk HW
      clear HW hh
      go_wp2
      go_ret2
      exact ⟨rfl, HB.out.below⟩
end Go.Proofs.Ytmfgdgmpblkadaa.PAll
