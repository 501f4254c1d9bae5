/- Plain lemmas on lists and integers (no program in sight). No condition. -/
namespace Go.RL

/-- xs laid into l from a on -/
def layIn {α : Type} (l : List α) (a : Nat) (xs : List α) : List α := l.take a ++ xs ++ l.drop (a + xs.length)

theorem layIn_length {α : Type} (l : List α) (a : Nat) (xs : List α) (h : a + xs.length ≤ l.length) : (layIn l a xs).length = l.length := by
  simp [layIn]; omega

theorem layIn_get {α : Type} (l : List α) (a : Nat) (xs : List α) (h : a + xs.length ≤ l.length) (i : Nat) :
    (layIn l a xs)[i]? = if a ≤ i ∧ i < a + xs.length then xs[i - a]? else l[i]? := by
  unfold layIn
  by_cases h1 : i < a
  · rw [List.append_assoc, List.getElem?_append_left (by simp; omega), List.getElem?_take_of_lt h1, if_neg (by omega)]
  · by_cases h2 : i < a + xs.length
    · rw [List.append_assoc, List.getElem?_append_right (by simp; omega), List.getElem?_append_left (by simp; omega), if_pos (by omega)]
      congr 1
      simp; omega
    · rw [List.getElem?_append_right (by simp; omega), if_neg (by omega), List.getElem?_drop]
      congr 1
      simp; omega

theorem layIn_append {α : Type} (l s : List α) (a : Nat) (xs : List α) (h : a + xs.length ≤ l.length) : layIn (l ++ s) a xs = layIn l a xs ++ s := by
  unfold layIn
  rw [List.take_append_of_le_length (by omega), List.drop_append_of_le_length (by omega)]
  simp [List.append_assoc]

theorem layIn_map {α β : Type} (f : α → β) (l : List α) (a : Nat) (xs : List α) : layIn (l.map f) a (xs.map f) = (layIn l a xs).map f := by
  simp [layIn, List.map_take, List.map_drop]

theorem layIn_seg {α : Type} (l : List α) (a : Nat) (xs : List α) (h : a + xs.length ≤ l.length) : ((layIn l a xs).drop a).take xs.length = xs := by
  apply List.ext_getElem?
  intro i
  by_cases hi : i < xs.length
  · rw [List.getElem?_take_of_lt hi, List.getElem?_drop, layIn_get l a xs h, if_pos (by omega)]
    congr 1
    omega
  · rw [List.getElem?_eq_none (by simp; omega), List.getElem?_eq_none (by omega)]

theorem layIn_apart {α : Type} (l : List α) (a : Nat) (xs : List α) (h : a + xs.length ≤ l.length) (b m : Nat) (hb : b + m ≤ a ∨ a + xs.length ≤ b) : ((layIn l a xs).drop b).take m = (l.drop b).take m := by
  apply List.ext_getElem?
  intro i
  by_cases hi : i < m
  · rw [List.getElem?_take_of_lt hi, List.getElem?_take_of_lt hi, List.getElem?_drop, List.getElem?_drop, layIn_get l a xs h, if_neg (by omega)]
  · rw [List.getElem?_eq_none (by simp; omega), List.getElem?_eq_none (by simp; omega)]

/-- two rows of one width stand apart -/
theorem mul_apart (p q w : Int) (hw : 0 ≤ w) (hne : p ≠ q) : p * w + w ≤ q * w ∨ q * w + w ≤ p * w := by
  rcases Int.lt_or_gt_of_ne hne with h | h
  · left
    have := Int.mul_le_mul_of_nonneg_right (show p + 1 ≤ q by omega) hw
    rw [Int.add_mul, Int.one_mul] at this
    exact this
  · right
    have := Int.mul_le_mul_of_nonneg_right (show q + 1 ≤ p by omega) hw
    rw [Int.add_mul, Int.one_mul] at this
    exact this

theorem mod_apart (f i j r : Int) (h0 : 0 ≤ i) (hij : i < j) (hj : j < r) : (f + i) % r ≠ (f + j) % r := by
  intro h
  have h2 : (f + j - (f + i)) % r = 0 := Int.emod_eq_emod_iff_emod_sub_eq_zero.1 h.symm
  have h3 : f + j - (f + i) = j - i := by omega
  rw [h3, Int.emod_eq_of_lt (by omega) (by omega)] at h2
  omega

end Go.RL
