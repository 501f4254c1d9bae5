/- ScalarTwos, ScalarOnes, ScalarParts: the plain statements. No condition but that integers are of their kind. -/
import Derived.Test.YtmfgdgmpblkadaaPureScalar2
import Derived.Test.YtmfgdgmpblkadaaPAllx20
import Derived.Test.YtmfgdgmpblkadaaPAllx19
import Derived.Test.YtmfgdgmpblkadaaPAllx21
set_option linter.unusedVariables false
set_option linter.unusedSimpArgs false
namespace Go.Proofs.Ytmfgdgmpblkadaa.Pure
open Go.RowKit Go.RS Go.RL Go.RP Go.Proofs.Ytmfgdgmpblkadaa.PAll Go.Proofs.YtmfgdgmpblkadaaW.PrintWords Go.Proofs.YtmfgdgmpblkadaaW.PrintLast

theorem lives04_at {k : Nat} (hk : 200 ≤ k) : rifflelaw04_lives.f k = some true :=
  at_rounds (fun k => rifflelaw04_lives.mono k) hk (by decide +kernel)

theorem do_eq (c : Int) (s : Bool) (a b : Int) (ha : In64 a) (hb : In64 b) (k : Nat) (hk : 64 < k) : scalar_Do.f k c s a b = some (if hasF c 2 then (if s then twoF c b a else twoF c a b, true) else (0, false)) := by
  unfold scalar_Do.f
  cases s
  · rw [if_neg (by decide), two_eq c a b hb k hk]
    by_cases h : hasF c 2 = true <;> simp [h]
  · rw [if_pos rfl, two_eq c b a ha k hk]
    by_cases h : hasF c 2 = true <;> simp [h]

theorem refDo_eq (c : Int) (s : Bool) (a b : Int) (ha : In64 a) (hb : In64 b) (k : Nat) (hk : 301 < k) : riffleref04_Do.f k c s a b = some (if hasF c 2 then (if s then twoF c b a else twoF c a b, true) else (0, false)) := by
  unfold riffleref04_Do.f
  cases s
  · rw [if_neg (by decide), refTwo_eq c a b ha hb k hk]
    by_cases h : hasF c 2 = true <;> simp [h]
  · rw [if_pos rfl, refTwo_eq c b a hb ha k hk]
    by_cases h : hasF c 2 = true <;> simp [h]

theorem scalarTwos_all (c : Int) (s : Bool) (a b : Int) (ha : In64 a) (hb : In64 b) : rifflelaw04_ScalarTwos.f 1000 c s a b = some true := by
  unfold rifflelaw04_ScalarTwos.f
  rw [two_eq c a b hb 1000 (by omega), refTwo_eq c a b ha hb 1000 (by omega), do_eq c s a b ha hb 1000 (by omega), refDo_eq c s a b ha hb 1000 (by omega)]
  simp [lives04_at]

/-- what a function makes of one number -/
def oneF (c a : Int) : Int :=
  if c = 2 then wrap64 (-a) else if c = 3 then wrap64 (bI (decide (a > 0)) - bI (decide (a < 0))) else if c = 4 then overF 1 a else if c = 5 then powF 2 a else if c = 6 then mx a (wrap64 (-a)) else if c = 19 then bI (a == 0) else a

theorem one_eq (c a : Int) (ha : In64 a) (k : Nat) (hk : 64 < k) : scalar_One.f k c a = some (if hasF c 1 then (oneF c a, true) else (0, false)) := by
  unfold scalar_One.f oneF
  rw [has_eq]
  simp only [Option.bind_some, truth_eq, over_eq, power_eq 2 a ha.2 k hk]
  by_cases h : hasF c 1 = true
  · rw [if_pos h, if_pos h]
    repeat' (split; · rfl)
    rfl
  · rw [if_neg h, if_neg h]

theorem refOne_eq (c a : Int) (ha : In64 a) (k : Nat) (hk : 301 < k) : riffleref04_One.f k c a = some (if hasF c 1 then (oneF c a, true) else (0, false)) := by
  unfold riffleref04_One.f oneF
  rw [refHas_eq]
  simp only [Option.bind_some, refTruth_eq, refOver_eq 1 a (by unfold In64; omega) ha, refPower_eq 2 a ha k (by omega)]
  by_cases h : hasF c 1 = true
  · rw [if_pos h, if_pos h]
    by_cases h2 : c = 2
    · rw [if_pos h2, if_pos h2]
    rw [if_neg h2, if_neg h2]
    by_cases h3 : c = 3
    · rw [if_pos h3, if_pos h3]
    rw [if_neg h3, if_neg h3]
    by_cases h4 : c = 4
    · rw [if_pos h4, if_pos h4]
    rw [if_neg h4, if_neg h4]
    by_cases h5 : c = 5
    · rw [if_pos h5, if_pos h5]
    rw [if_neg h5, if_neg h5]
    by_cases h6 : c = 6
    · rw [if_pos h6, if_pos h6]
      unfold mx wrap64
      unfold In64 at ha
      by_cases h7 : a < 0
      · rw [if_pos h7]; congr 2; split <;> omega
      · rw [if_neg h7]; congr 2; split <;> omega
    rw [if_neg h6, if_neg h6]
    by_cases h19 : c = 19
    · rw [if_pos h19, if_pos h19]
    rw [if_neg h19, if_neg h19]
  · rw [if_neg h, if_neg h]

theorem scalarOnes_all (c v a : Int) (ha : In64 a) : rifflelaw04_ScalarOnes.f 1000 c v a = some true := by
  unfold rifflelaw04_ScalarOnes.f
  rw [one_eq c a ha 1000 (by omega), refOne_eq c a ha 1000 (by omega)]
  simp [has_eq, refHas_eq, lives04_at]

theorem joins_eq (c : Int) : scalar_Joins.f c = some (decide (c = 1 ∨ c = 3 ∨ c = 15 ∨ c = 16 ∨ c = 17 ∨ c = 18 ∨ c = 7 ∨ c = 8)) := by
  unfold scalar_Joins.f scalar_Picks.f
  repeat' (first | (split; · (simp [*]; done)) | skip)
  all_goals (first | (split <;> simp [*]; done) | (simp [*]; done) | (simp [*]; rw [Bool.eq_iff_iff]; simp))

theorem parts_l0 (c : Int) (s : Bool) (h : c = 2 ∨ c = 4 ∨ c = 5 ∨ c = 6 ∨ c = 9 ∨ c = 10 ∨ c = 11 ∨ c = 12 ∨ c = 13 ∨ c = 14) : rifflelaw04_ScalarParts.l0 600 0 c s = some true := by
  rcases h with rfl | rfl | rfl | rfl | rfl | rfl | rfl | rfl | rfl | rfl <;> cases s <;> decide +kernel

theorem parts_j0 (c : Int) (s : Bool) : rifflelaw04_ScalarParts.j0 602 false c s = some true := by
  simp only [rifflelaw04_ScalarParts.j0]
  rw [if_neg (by decide), has_eq]
  simp only [Option.bind_some]
  by_cases h : hasF c 2 = true
  · rw [if_pos h, joins_eq]
    simp only [Option.bind_some, rifflelaw04_ScalarParts.j1]
    have hc : 1 ≤ c ∧ c ≤ 18 := by simpa [hasF] using h
    by_cases hj : c = 1 ∨ c = 3 ∨ c = 15 ∨ c = 16 ∨ c = 17 ∨ c = 18 ∨ c = 7 ∨ c = 8
    · rw [decide_eq_true hj, if_pos rfl, lives04_at (by omega)]; rfl
    · rw [decide_eq_false hj, if_neg (by decide)]
      exact parts_l0 c s (by omega)
  · rw [if_neg h]
    simp only [rifflelaw04_ScalarParts.j1]
    simp [lives04_at]

theorem tmod_wrap' (a b : Int) (ha : In64 a) (hb : In64 b) : wrap64 (a - wrap64 (b * wrap64 (Int.tdiv a b))) = Int.tmod a b := by
  rw [Int.mul_comm b]; exact tmod_wrap a b ha hb
/-- what is divided, and what is left -/
theorem over_rest (a b : Int) (ha : In64 a) (hb : In64 b) (h0 : b ≠ 0) : wrap64 (wrap64 (b * overF a b) + restF b a) = a ∧ (restF b a ≠ 0 → (restF b a < 0 ↔ b < 0)) := by
  have hr : restF b a = wrap64 (a - wrap64 (b * overF a b)) := by unfold restF; rw [if_neg h0]
  refine ⟨?_, ?_⟩
  · rw [hr]
    have : wrap64 (wrap64 (b * overF a b) + wrap64 (a - wrap64 (b * overF a b))) = wrap64 a := by
      obtain ⟨q, hq⟩ := wrap_mod (a - wrap64 (b * overF a b))
      exact wrap_of_mod q (by rw [hq]; omega)
    rw [this, w64 ha]
  · rw [hr]
    have hd := Int.tmod_add_tdiv_mul a b
    have h2 := Int.tmod_lt_of_pos a (show (0 : Int) < b.natAbs by omega)
    have h3 := Int.lt_tmod_of_pos a (show (0 : Int) < b.natAbs by omega)
    have h4 : Int.tmod a b.natAbs = Int.tmod a b := by rcases Int.natAbs_eq b with h | h <;> rw [h] <;> simp
    rw [h4] at h2 h3
    unfold In64 at ha hb
    unfold overF
    rw [if_neg h0]
    by_cases hm : Int.tmod a b = 0
    · rw [if_pos hm, wrap_mul_r]
      have : wrap64 (a - wrap64 (b * Int.tdiv a b)) = 0 := by
        obtain ⟨q, hq⟩ := wrap_mod (b * Int.tdiv a b)
        have e : wrap64 (a - wrap64 (b * Int.tdiv a b)) = wrap64 0 := wrap_of_mod (-q) (by rw [hq, Int.mul_comm b, Int.neg_mul]; omega)
        rw [e]; unfold wrap64; omega
      rw [this]
      intro h; exact absurd rfl h
    · rw [if_neg hm]
      have hs := tmod_sign a b hm
      by_cases hsg : (decide (a < 0) != decide (b < 0)) = true
      · rw [if_pos hsg]
        have e : wrap64 (a - wrap64 (b * wrap64 (wrap64 (Int.tdiv a b) - 1))) = wrap64 (Int.tmod a b + b) := by
          rw [wrap_mul_r]
          obtain ⟨q, hq⟩ := wrap_mod (b * (wrap64 (Int.tdiv a b) - 1))
          obtain ⟨p, hp⟩ := wrap_mod (Int.tdiv a b)
          refine wrap_of_mod (-q - b * p) ?_
          rw [hq, hp]
          have e2 : b * (Int.tdiv a b + p * 18446744073709551616 - 1) = Int.tdiv a b * b + b * p * 18446744073709551616 - b := by
            rw [Int.mul_sub, Int.mul_add, Int.mul_one, Int.mul_comm b (Int.tdiv a b), Int.mul_assoc]
          rw [e2, Int.sub_mul, Int.neg_mul]
          omega
        have hab : (a < 0) ≠ (b < 0) := by
          intro h
          simp [h] at hsg
        have hr2 : -9223372036854775808 ≤ Int.tmod a b + b ∧ Int.tmod a b + b ≤ 9223372036854775807 := by
          by_cases h1 : a < 0 <;> by_cases h5 : b < 0
          · exact absurd (by simp [h1, h5]) hab
          · have : ¬ 0 < Int.tmod a b := by rw [hs]; omega
            omega
          · have : ¬ a < 0 := h1
            have h6 : 0 ≤ Int.tmod a b := Int.tmod_nonneg b (by omega)
            omega
          · exact absurd (by simp [h1, h5]) hab
        rw [e, w64 hr2]
        intro _
        by_cases h1 : a < 0 <;> by_cases h5 : b < 0
        · exact absurd (by simp [h1, h5]) hab
        · omega
        · omega
        · exact absurd (by simp [h1, h5]) hab
      · rw [if_neg hsg, tmod_wrap' a b ha hb]
        intro _
        have hab : (a < 0) = (b < 0) := by
          by_cases h1 : a < 0 <;> by_cases h5 : b < 0 <;> simp [h1, h5] at hsg ⊢
        by_cases h1 : a < 0
        · have h5 : b < 0 := by rw [← hab]; exact h1
          have : ¬ 0 < Int.tmod a b := by rw [hs]; omega
          omega
        · have h5 : ¬ b < 0 := by rw [← hab]; exact h1
          have h6 : 0 ≤ Int.tmod a b := Int.tmod_nonneg b (by omega)
          omega

theorem scalarParts_all (c : Int) (s : Bool) (a b : Int) (ha : In64 a) (hb : In64 b) : rifflelaw04_ScalarParts.f 602 c s a b = some true := by
  unfold rifflelaw04_ScalarParts.f
  rw [two_eq 4 a b hb 602 (by omega), two_eq 6 b a ha 602 (by omega)]
  have e4 : hasF 4 2 = true := by decide
  have e6 : hasF 6 2 = true := by decide
  have t4 : twoF 4 a b = overF a b := by simp [twoF]
  have t6 : twoF 6 b a = restF b a := by simp [twoF]
  simp only [e4, e6, t4, t6, if_true, Option.bind_some]
  by_cases h0 : b = 0
  · rw [if_pos h0]; exact parts_j0 c s
  · rw [if_neg h0]
    obtain ⟨h1, h2⟩ := over_rest a b ha hb h0
    rw [if_pos h1]
    by_cases h3 : restF b a = 0
    · rw [if_pos h3]; exact parts_j0 c s
    · rw [if_neg h3]
      have h4 := h2 h3
      have : (decide (restF b a < 0) != decide (b < 0)) = false := by
        by_cases h5 : b < 0
        · simp [h5, h4.2 h5]
        · simp [h5]
          exact Int.not_lt.1 (fun h => h5 (h4.1 h))
      rw [this]
      exact parts_j0 c s

end Go.Proofs.Ytmfgdgmpblkadaa.Pure
