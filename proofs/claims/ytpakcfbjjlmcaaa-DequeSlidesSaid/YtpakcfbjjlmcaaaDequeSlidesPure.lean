/- What DequeSlides asks, of plain lists. No condition. -/
import Derived.Test.YtpakcfbjjlmcaaaDequeLawPure
set_option linter.unusedVariables false
set_option linter.unusedSimpArgs false
set_option maxRecDepth 100000
namespace Go.Proofs.Ytpakcfbjjlmcaaa.DQL
open Go.RowKit Go.DQ Go.Proofs.YtpakcfbjjlmcaaaW.PrintWords Go.Proofs.Ytpakcfbjjlmcaaa.PAll
/-- what the window holds when k numbers have come -/
def wn (l : List Int) (m k : Nat) : List Int := (l.take k).drop (k - m)
theorem wn_len (l : List Int) (m k : Nat) (hk : k ≤ l.length) : (wn l m k).length = min k m := by
  simp [wn]; omega
theorem wn_push (l : List Int) (m k : Nat) (hk : k < l.length) (hm : k < m) : wn l m k ++ [l[k]] = wn l m (k + 1) := by
  unfold wn
  rw [show k - m = 0 by omega, show k + 1 - m = 0 by omega, List.drop_zero, List.drop_zero, List.take_succ_eq_append_getElem hk]
theorem wn_drop (l : List Int) (m k : Nat) (hk : k < l.length) (h1 : 1 ≤ m) (hm : m ≤ k) : (wn l m k).tail ++ [l[k]] = wn l m (k + 1) := by
  unfold wn
  rw [List.tail_drop, show k + 1 - m = k - m + 1 by omega, List.take_succ_eq_append_getElem hk, List.drop_append_of_le_length (by rw [List.length_take]; omega)]
/-- what is told of the best b and of those kept K, behind the push of x onto T -/
structure Told (least : Bool) (L : List Int) (x b : Int) (K : List Int) (d : Nat) : Prop where
  best : riffleref13_Best.f 2001000 L least = some (b, true)
  kept : riffleref13_Kept.f 2001000 L least = some K
  is : b ∈ L
  good : ∀ y ∈ L, bt least b y = true
  len : K.length = d + 1
  small : d < 1000
  fst : K[0]? = some b
  lst : K[d]? = some x
  up : ∀ j p q, K[j]? = some p → K[j + 1]? = some q → bt least q p = false
theorem kept_len' (least : Bool) : ∀ (p : Int) (L : List Int), (kept least p L).length ≤ L.length
  | _, [] => by simp [kept]
  | p, x :: xs => by
    have ih := kept_len' least (p + 1) xs
    simp only [kept]
    split
    · simp; omega
    · simp; omega
theorem told (least : Bool) (T : List Int) (x : Int) (hl : (T ++ [x]).length ≤ 1000) : ∃ b K d, Told least (T ++ [x]) x b K d := by
  obtain ⟨y, ys, hL⟩ : ∃ y ys, T ++ [x] = y :: ys := by
    cases T with
    | nil => exact ⟨x, [], rfl⟩
    | cons y ys => exact ⟨y, ys ++ [x], rfl⟩
  obtain ⟨q, F, hk⟩ := kept_best least 0 y ys
  have hs := best_spec least ys y
  have hp := kept_push (least := least) x 0 T
  have hso := kept_sorted (least := least) 0 (T ++ [x])
  have hr := refKept 2001000 (T ++ [x]) hl (by omega) least 0
  have hb : riffleref13_Best.f 2001000 (T ++ [x]) least = some (best least ys y, true) := by
    rw [hL] at hl ⊢
    exact refBest_cons _ y ys hl (by omega) least
  rw [← hL] at hk hs
  have hkl := kept_len' least 0 (T ++ [x])
  rw [hk] at hkl
  refine ⟨best least ys y, (kept least 0 (T ++ [x])).map (·.1), F.length, hb, hr, hs.1, hs.2, by rw [hk]; simp, by simp at hkl hl; omega, by rw [hk]; rfl, ?_, fun j p' q' h1 h2 => ?_⟩
  · have h1 : (kept least 0 (T ++ [x])).length = F.length + 1 := by rw [hk]; rfl
    rw [hp, List.length_append, List.length_singleton] at h1
    rw [hp, List.map_append, List.getElem?_append_right (by rw [List.length_map]; omega), List.length_map]
    rw [show F.length - ((kept least 0 T).filter (fun e => !DQ.bt least x e.1)).length = 0 by omega]
    rfl
  · generalize kept least 0 (T ++ [x]) = E at hso h1 h2
    rw [List.getElem?_map] at h1 h2
    obtain ⟨e1, g1, rfl⟩ := Option.map_eq_some_iff.1 h1
    obtain ⟨e2, g2, rfl⟩ := Option.map_eq_some_iff.1 h2
    obtain ⟨i1, rfl⟩ := List.getElem?_eq_some_iff.1 g1
    obtain ⟨i2, rfl⟩ := List.getElem?_eq_some_iff.1 g2
    exact List.pairwise_iff_getElem.1 hso j (j + 1) i1 i2 (by omega)
end Go.Proofs.Ytpakcfbjjlmcaaa.DQL
