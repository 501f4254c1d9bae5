/- PureScalar2: what this claim needs of a text of ours. -/
import Derived.Test.YtmfgdgmpblkadaaZFoldRows17
import Derived.Test.YtmfgdgmpblkadaaZFoldRows18
import Derived.Test.YtmfgdgmpblkadaaZFoldRows14
import Derived.Test.YtmfgdgmpblkadaaZFoldRows15
import Derived.Test.YtmfgdgmpblkadaaZFoldRows13
namespace Go.RS
end Go.RS
namespace Go.RL
end Go.RL
namespace Go.RP
end Go.RP
namespace Go.Proofs.Ytmfgdgmpblkadaa.PAll
end Go.Proofs.Ytmfgdgmpblkadaa.PAll
namespace Go.Proofs.YtmfgdgmpblkadaaW.PrintWords
end Go.Proofs.YtmfgdgmpblkadaaW.PrintWords
namespace Go.Proofs.YtmfgdgmpblkadaaW.PrintLast
end Go.Proofs.YtmfgdgmpblkadaaW.PrintLast

set_option linter.unusedVariables false
set_option linter.unusedSimpArgs false
namespace Go.Proofs.Ytmfgdgmpblkadaa.Pure
open Go.RowKit Go.RS Go.RL Go.RP Go.Proofs.Ytmfgdgmpblkadaa.PAll Go.Proofs.YtmfgdgmpblkadaaW.PrintWords Go.Proofs.YtmfgdgmpblkadaaW.PrintLast
def In64 (n : Int) : Prop := -9223372036854775808 ≤ n ∧ n ≤ 9223372036854775807
def overF (a b : Int) : Int := if b = 0 then 0 else if Int.tmod a b = 0 then wrap64 (Int.tdiv a b) else if (decide (a < 0) != decide (b < 0)) = true then wrap64 (wrap64 (Int.tdiv a b) - 1) else wrap64 (Int.tdiv a b)
theorem over_eq (a b : Int) : scalar_over.f a b = some (overF a b) := by
  unfold scalar_over.f overF
  split
  · rfl
  · split
    · rfl
    · split <;> rfl
theorem tmod_wrap (a b : Int) (ha : In64 a) (hb : In64 b) : wrap64 (a - wrap64 (wrap64 (Int.tdiv a b) * b)) = Int.tmod a b := by
  have h1 : wrap64 (a - wrap64 (wrap64 (Int.tdiv a b) * b)) = wrap64 (Int.tmod a b) := by
    rw [wrap_mul_l]
    obtain ⟨q, hq⟩ := wrap_mod (Int.tdiv a b * b)
    refine wrap_of_mod (-q) ?_
    have := Int.tmod_add_tdiv_mul a b
    rw [hq, Int.neg_mul]
    omega
  rw [h1]
  refine w64 ?_
  by_cases hb0 : b = 0
  · subst hb0; rw [Int.tmod_zero]; exact ha
  · have h2 := Int.tmod_lt_of_pos a (show (0 : Int) < b.natAbs by omega)
    have h3 := Int.lt_tmod_of_pos a (show (0 : Int) < b.natAbs by omega)
    have h4 : Int.tmod a b.natAbs = Int.tmod a b := by rcases Int.natAbs_eq b with h | h <;> rw [h] <;> simp
    rw [h4] at h2 h3
    unfold In64 at hb
    omega
theorem tmod_sign (a b : Int) (h : Int.tmod a b ≠ 0) : (0 < Int.tmod a b) = (0 < a) := by
  refine propext ⟨fun h1 => ?_, fun h1 => ?_⟩
  · by_cases h2 : 0 < a
    · exact h2
    · have := Int.tmod_nonneg b (show 0 ≤ -a by omega)
      rw [Int.neg_tmod] at this
      omega
  · have := Int.tmod_nonneg b (show 0 ≤ a by omega)
    omega
theorem refOver_eq (a b : Int) (ha : In64 a) (hb : In64 b) : riffleref04_over.f a b = some (overF a b) := by
  unfold riffleref04_over.f overF
  by_cases h0 : b = 0
  · rw [if_pos h0, if_pos h0]
  · rw [if_neg h0, if_neg h0]
    by_cases h1 : b = -1
    · subst h1
      rw [if_pos rfl, if_pos (by simp), Int.tdiv_neg, Int.tdiv_one]
    · rw [if_neg h1, tmod_wrap a b ha hb]
      by_cases h2 : Int.tmod a b = 0
      · rw [if_pos h2, if_pos h2]
      · rw [if_neg h2, if_neg h2]
        have h3 := tmod_sign a b h2
        have h4 : (decide (Int.tmod a b > 0) != decide (b > 0)) = (decide (a < 0) != decide (b < 0)) := by
          have e1 : decide (Int.tmod a b > 0) = !decide (a < 0) := by
            rw [Bool.eq_iff_iff]; simp only [decide_eq_true_eq, Bool.not_eq_true', decide_eq_false_iff_not]
            rw [show (Int.tmod a b > 0) = (0 < a) from h3]
            constructor
            · intro h; omega
            · intro h
              by_cases ha0 : a = 0
              · subst ha0; simp at h2
              · omega
          have e2 : decide (b > 0) = !decide (b < 0) := by
            rw [Bool.eq_iff_iff]; simp only [decide_eq_true_eq, Bool.not_eq_true', decide_eq_false_iff_not]; omega
          rw [e1, e2]
          cases decide (a < 0) <;> cases decide (b < 0) <;> rfl
        rw [h4]
        split <;> rfl
theorem refHas_eq (c v : Int) : riffleref04_Has.f c v = some (hasF c v) := by
  unfold riffleref04_Has.f hasF
  by_cases v2 : v = 2
  · subst v2
    simp only [if_true]
    by_cases h1 : c ≥ 1
    · rw [if_pos h1]; simp; omega
    · rw [if_neg h1]; simp; omega
  · rw [if_neg v2, if_neg v2]
    by_cases v1 : v = 1
    · subst v1
      simp only [if_true]
      by_cases h1 : c ≥ 1
      · rw [if_pos h1]
        by_cases h6 : c ≤ 6
        · rw [if_pos h6]; simp; omega
        · rw [if_neg h6]
          by_cases h7 : c ≥ 17
          · rw [if_pos h7]; congr 1; rw [Bool.eq_iff_iff]; simp; omega
          · rw [if_neg h7]; simp; omega
      · rw [if_neg h1, if_neg (by omega)]; simp; omega
    · rw [if_neg v1, if_neg v1]
def bI (b : Bool) : Int := if b then 1 else 0
theorem truth_eq (b : Bool) : scalar_truth.f b = some (bI b) := by cases b <;> rfl
theorem refTruth_eq (b : Bool) : riffleref04_truth.f b = some (bI b) := by cases b <;> rfl
def restF (a b : Int) : Int := if a = 0 then b else wrap64 (b - wrap64 (a * overF b a))
theorem rest_eq (a b : Int) : scalar_rest.f a b = some (restF a b) := by
  unfold scalar_rest.f restF
  split
  · rfl
  · rw [over_eq]; rfl
def twoF (c a b : Int) : Int :=
  if c = 1 then wrap64 (a + b) else if c = 2 then wrap64 (a - b) else if c = 3 then wrap64 (a * b) else if c = 4 then overF a b else if c = 5 then powF a b else if c = 6 then restF a b
  else if c = 7 then mx a b else if c = 8 then mn a b else if c = 9 then bI (a == b) else if c = 10 then bI (a != b) else if c = 11 then bI (decide (a < b)) else if c = 12 then bI (decide (a ≤ b)) else if c = 13 then bI (decide (a > b)) else if c = 14 then bI (decide (a ≥ b))
  else if c = 15 then Go.bits .and .i64 a b else if c = 16 then Go.bits .or .i64 a b else if c = 17 then a else if c = 18 then b else 0
theorem compared_eq (c a b : Int) (h : 9 ≤ c ∧ c ≤ 14) : scalar_compared.f c a b = some (twoF c a b) := by
  have hc : c = 9 ∨ c = 10 ∨ c = 11 ∨ c = 12 ∨ c = 13 ∨ c = 14 := by omega
  unfold scalar_compared.f twoF
  simp only [truth_eq, Option.bind_some]
  rcases hc with rfl | rfl | rfl | rfl | rfl | rfl
  · simp
  · by_cases h : a = b <;> simp [h, bI]
  · by_cases h : a < b <;> simp [h, bI]
  · by_cases h : a < b
    · simp [h, bI]; omega
    · by_cases h2 : a = b
      · simp [h2, bI]
      · simp [h, h2, bI]; omega
  · by_cases h : a > b
    · have h' : b < a := h; simp [h', bI]
    · have h' : ¬ b < a := h; simp [h', bI]
  · by_cases h : a > b
    · have h' : b < a := h
      simp [h', bI]; omega
    · have h' : ¬ b < a := h
      by_cases h2 : a = b
      · simp [h2, bI]
      · simp [h', h2, bI]; omega
theorem two_eq (c a b : Int) (hb : In64 b) (k : Nat) (hk : 64 < k) : scalar_Two.f k c a b = some (if hasF c 2 then (twoF c a b, true) else (0, false)) := by
  unfold scalar_Two.f
  rw [has_eq]
  simp only [Option.bind_some]
  by_cases h : hasF c 2 = true
  · rw [if_pos h, if_pos h]
    have hc : 1 ≤ c ∧ c ≤ 18 := by simpa [hasF] using h
    by_cases hcmp : 9 ≤ c ∧ c ≤ 14
    · rw [compared_eq c a b hcmp]
      rw [if_neg (by omega), if_neg (by omega), if_neg (by omega), if_neg (by omega), if_neg (by omega), if_neg (by omega), if_neg (by omega), if_neg (by omega), if_neg (by omega), if_neg (by omega), if_neg (by omega), if_neg (by omega)]
      rfl
    · have : c = 1 ∨ c = 2 ∨ c = 3 ∨ c = 4 ∨ c = 5 ∨ c = 6 ∨ c = 7 ∨ c = 8 ∨ c = 15 ∨ c = 16 ∨ c = 17 ∨ c = 18 := by omega
      rcases this with rfl | rfl | rfl | rfl | rfl | rfl | rfl | rfl | rfl | rfl | rfl | rfl <;> simp [twoF, over_eq, rest_eq, power_eq a b hb.2 k hk]
  · rw [if_neg h, if_neg h]
theorem refTwo_eq (c a b : Int) (ha : In64 a) (hb : In64 b) (k : Nat) (hk : 301 < k) : riffleref04_Two.f k c a b = some (if hasF c 2 then (twoF c a b, true) else (0, false)) := by
  obtain ⟨k, rfl⟩ := succ_of (show 0 < k by omega)
  unfold riffleref04_Two.f
  rw [refHas_eq]
  simp only [Option.bind_some, refOver_eq a b ha hb, refPower_eq a b hb (k + 1) (by omega), refTruth_eq]
  by_cases h : hasF c 2 = true
  · rw [if_pos h, if_pos h]
    have hc : 1 ≤ c ∧ c ≤ 18 := by simpa [hasF] using h
    have : c = 1 ∨ c = 2 ∨ c = 3 ∨ c = 4 ∨ c = 5 ∨ c = 6 ∨ c = 7 ∨ c = 8 ∨ c = 9 ∨ c = 10 ∨ c = 11 ∨ c = 12 ∨ c = 13 ∨ c = 14 ∨ c = 15 ∨ c = 16 ∨ c = 17 ∨ c = 18 := by omega
    simp only [riffleref04_Two.j0]
    rcases this with rfl | rfl | rfl | rfl | rfl | rfl | rfl | rfl | rfl | rfl | rfl | rfl | rfl | rfl | rfl | rfl | rfl | rfl
    case inr.inr.inr.inr.inr.inl =>
      by_cases h0 : a = 0
      · simp [h0, twoF, restF, rd]
      · simp [h0, twoF, restF, refOver_eq b a hb ha]
    case inr.inr.inr.inr.inr.inr.inl => by_cases h7 : b > a <;> simp [h7, twoF, mx, rd] <;> omega
    case inr.inr.inr.inr.inr.inr.inr.inl => by_cases h7 : b < a <;> simp [h7, twoF, mn, rd]
    all_goals simp [twoF, rd]
  · rw [if_neg h, if_neg h]
end Go.Proofs.Ytmfgdgmpblkadaa.Pure
