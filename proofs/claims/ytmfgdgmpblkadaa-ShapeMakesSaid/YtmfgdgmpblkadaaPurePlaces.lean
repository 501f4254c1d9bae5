/- Places of axes: mixed numbers, from the last axis on. The plain lists that the program's and the reference's functions come to. No condition. -/
import Derived.Test.YtmfgdgmpblkadaaPureShape
import Derived.Test.YtmfgdgmpblkadaaPAllx4
import Derived.Test.YtmfgdgmpblkadaaPAllx3
import Derived.Test.YtmfgdgmpblkadaaPAllx1
set_option linter.unusedVariables false
set_option linter.unusedSimpArgs false
namespace Go.RS

/-- the numbers of a place, the last one first -/
def plr : List Int → Int → List Int
  | [], _ => []
  | a :: t, i => (i % a) :: plr t (i / a)
/-- which number a place is, its numbers laid the last one first -/
def hr : List Int → List Int → Int
  | a :: t, x :: xs => x + a * hr t xs
  | _, _ => 0
/-- counted up, the numbers laid the last one first -/
def inc : List Int → List Int → List Int
  | a :: t, x :: xs => if x + 1 < a then (x + 1) :: xs else 0 :: inc t xs
  | _, xs => xs
def okPlace : List Int → List Int → Bool
  | a :: t, x :: xs => decide (0 ≤ x) && decide (x < a) && okPlace t xs
  | [], [] => true
  | _, _ => false
def placeF (d : List Int) (i : Int) : List Int := (plr d.reverse i).reverse

theorem plr_length (r : List Int) (i : Int) : (plr r i).length = r.length := by
  induction r generalizing i with
  | nil => rfl
  | cons a t ih => simp [plr, ih]
theorem placeF_length (d : List Int) (i : Int) : (placeF d i).length = d.length := by simp [placeF, plr_length]
theorem prodI_rev (d : List Int) : prodI d.reverse = prodI d := by
  induction d with
  | nil => rfl
  | cons a d ih => rw [List.reverse_cons, prodI_snoc, ih, prodI_cons, Int.mul_comm]
theorem pos_of_prod {a p : Int} (ha : 0 ≤ a) (hp : 0 ≤ p) (h : 0 < a * p) : 0 < a ∧ 0 < p := by
  constructor
  · rcases Int.lt_or_eq_of_le ha with h1 | h1
    · exact h1
    · rw [← h1, Int.zero_mul] at h; omega
  · rcases Int.lt_or_eq_of_le hp with h1 | h1
    · exact h1
    · rw [← h1, Int.mul_zero] at h; omega
theorem hr_plr {r : List Int} (hr0 : ∀ x ∈ r, 0 < x) {i : Int} (h0 : 0 ≤ i) (h : i < prodI r) : hr r (plr r i) = i := by
  induction r generalizing i with
  | nil => rw [prodI_nil] at h; simp [hr]; omega
  | cons a t ih =>
    have ha : 0 < a := hr0 a (by simp)
    rw [prodI_cons] at h
    have hd : i / a < prodI t := Int.ediv_lt_of_lt_mul ha (by rw [Int.mul_comm]; exact h)
    rw [plr, hr, ih (fun x hx => hr0 x (by simp [hx])) (Int.ediv_nonneg h0 (by omega)) hd]
    exact Int.emod_add_mul_ediv i a
theorem plr_ok {r : List Int} (hr0 : ∀ x ∈ r, 0 < x) (i : Int) : okPlace r (plr r i) = true := by
  induction r generalizing i with
  | nil => rfl
  | cons a t ih =>
    have ha : 0 < a := hr0 a (by simp)
    simp only [plr, okPlace, Bool.and_eq_true, decide_eq_true_eq]
    exact ⟨⟨Int.emod_nonneg i (by omega), Int.emod_lt_of_pos i ha⟩, ih (fun x hx => hr0 x (by simp [hx])) _⟩
theorem okPlace_length {r xs : List Int} (h : okPlace r xs = true) : xs.length = r.length := by
  induction r generalizing xs with
  | nil => cases xs with
    | nil => rfl
    | cons x xs => simp [okPlace] at h
  | cons a t ih => cases xs with
    | nil => simp [okPlace] at h
    | cons x xs =>
      simp only [okPlace, Bool.and_eq_true] at h
      simp [ih h.2]
theorem hr_bd {r xs : List Int} (h : okPlace r xs = true) : 0 ≤ hr r xs ∧ hr r xs < prodI r ∧ plr r (hr r xs) = xs := by
  induction r generalizing xs with
  | nil => cases xs with
    | nil => simp [hr, prodI_nil, plr]
    | cons x xs => simp [okPlace] at h
  | cons a t ih => cases xs with
    | nil => simp [okPlace] at h
    | cons x xs =>
      simp only [okPlace, Bool.and_eq_true, decide_eq_true_eq] at h
      obtain ⟨⟨h0, h1⟩, h2⟩ := h
      obtain ⟨i0, i1, i2⟩ := ih h2
      rw [hr, prodI_cons, plr]
      have ha : 0 < a := by omega
      have e1 : (x + a * hr t xs) % a = x := by rw [Int.add_mul_emod_self_left, Int.emod_eq_of_lt h0 h1]
      have e2 : (x + a * hr t xs) / a = hr t xs := by rw [Int.add_mul_ediv_left _ _ (by omega), Int.ediv_eq_zero_of_lt h0 h1, Int.zero_add]
      refine ⟨Int.add_nonneg h0 (Int.mul_nonneg (by omega) i0), ?_, by rw [e1, e2, i2]⟩
      have : a * (hr t xs + 1) ≤ a * prodI t := Int.mul_le_mul_of_nonneg_left (by omega) (by omega)
      rw [Int.mul_add, Int.mul_one] at this
      omega
theorem inc_plr {r : List Int} (hr0 : ∀ x ∈ r, 0 < x) {i : Int} (h0 : 0 ≤ i) : inc r (plr r i) = plr r (i + 1) := by
  induction r generalizing i with
  | nil => rfl
  | cons a t ih =>
    have ha : 0 < a := hr0 a (by simp)
    have hm := Int.emod_nonneg i (show a ≠ 0 by omega)
    have hl := Int.emod_lt_of_pos i ha
    have hd := Int.emod_add_mul_ediv i a
    rw [plr, plr, inc]
    by_cases h : i % a + 1 < a
    · rw [if_pos h]
      have e : i + 1 = (i % a + 1) + a * (i / a) := by omega
      have e1 : (i + 1) % a = i % a + 1 := by rw [e, Int.add_mul_emod_self_left, Int.emod_eq_of_lt (by omega) h]
      have e2 : (i + 1) / a = i / a := by rw [e, Int.add_mul_ediv_left _ _ (by omega), Int.ediv_eq_zero_of_lt (by omega) h, Int.zero_add]
      rw [e1, e2]
    · rw [if_neg h]
      have e : i + 1 = 0 + a * (i / a + 1) := by rw [Int.mul_add]; omega
      have e1 : (i + 1) % a = 0 := by rw [e, Int.add_mul_emod_self_left]; simp
      have e2 : (i + 1) / a = i / a + 1 := by rw [e, Int.add_mul_ediv_left _ _ (by omega)]; simp
      rw [ih (fun x hx => hr0 x (by simp [hx])) (Int.ediv_nonneg h0 (by omega)), e1]
      congr 2
      rw [e2]
theorem plr_zero (r : List Int) : plr r 0 = List.replicate r.length 0 := by
  induction r with
  | nil => rfl
  | cons a t ih => simp [plr, ih, List.replicate_succ]
/-- which number a place is -/
def indexF (d p : List Int) : Int := if okPlace d.reverse p.reverse then hr d.reverse p.reverse else -1
theorem index_place {d : List Int} (hd : ∀ x ∈ d, 0 < x) {i : Int} (h0 : 0 ≤ i) (h : i < prodI d) : indexF d (placeF d i) = i := by
  have hd' : ∀ x ∈ d.reverse, 0 < x := fun x hx => hd x (by simpa using hx)
  unfold indexF placeF
  rw [List.reverse_reverse, if_pos (plr_ok hd' i), hr_plr hd' h0 (by rw [prodI_rev]; exact h)]
theorem place_index {d p : List Int} (h : okPlace d.reverse p.reverse = true) : placeF d (indexF d p) = p ∧ 0 ≤ indexF d p ∧ indexF d p < prodI d := by
  obtain ⟨h1, h2, h3⟩ := hr_bd h
  unfold indexF placeF
  rw [if_pos h, h3, List.reverse_reverse]
  rw [prodI_rev] at h2
  exact ⟨rfl, h1, h2⟩

end Go.RS
