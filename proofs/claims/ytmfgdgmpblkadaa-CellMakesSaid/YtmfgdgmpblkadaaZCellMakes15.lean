/- SpecShape: what this claim needs of a text of ours. -/

namespace Go.RS
def prodI (d : List Int) : Int := d.foldl (· * ·) 1
def inAxis (k : Int) : Bool := decide (0 ≤ k) && decide (k ≤ 64)
def okDims (d : List Int) : Bool := decide (d.length ≤ 3) && d.all inAxis
def rightB (d : List Int) : Bool := okDims d && decide (prodI d ≤ 64)
def sizeF (d : List Int) : Int := if rightB d then prodI d else 0
theorem prodI_snoc (d : List Int) (k : Int) : prodI (d ++ [k]) = prodI d * k := by simp [prodI]
theorem foldl_mul (d : List Int) (a : Int) : d.foldl (· * ·) a = a * prodI d := by
  induction d generalizing a with
  | nil => simp [prodI]
  | cons x d ih => simp only [List.foldl_cons, prodI]; rw [ih, ih (1 * x)]; simp [Int.mul_assoc]
theorem prodI_cons (x : Int) (d : List Int) : prodI (x :: d) = x * prodI d := by
  unfold prodI; rw [List.foldl_cons, foldl_mul, Int.one_mul]; rfl
theorem inAxis_iff {k : Int} : inAxis k = true ↔ 0 ≤ k ∧ k ≤ 64 := by simp [inAxis]
theorem prodI_nonneg {d : List Int} (h : d.all inAxis = true) : 0 ≤ prodI d := by
  induction d with
  | nil => simp [prodI]
  | cons x d ih =>
    rw [List.all_cons, Bool.and_eq_true] at h
    rw [prodI_cons]
    exact Int.mul_nonneg (inAxis_iff.1 h.1).1 (ih h.2)
theorem prodI_le {d : List Int} (h : d.all inAxis = true) : prodI d ≤ 64 ^ d.length := by
  induction d with
  | nil => simp [prodI]
  | cons x d ih =>
    rw [List.all_cons, Bool.and_eq_true] at h
    rw [prodI_cons, List.length_cons, Int.pow_succ, Int.mul_comm]
    have h1 := inAxis_iff.1 h.1
    have h2 := ih h.2
    have h3 := prodI_nonneg h.2
    calc prodI d * x ≤ prodI d * 64 := Int.mul_le_mul_of_nonneg_left h1.2 h3
      _ ≤ 64 ^ d.length * 64 := Int.mul_le_mul_of_nonneg_right h2 (by omega)
theorem prodI_bd {d : List Int} (h : d.all inAxis = true) (hl : d.length ≤ 3) : 0 ≤ prodI d ∧ prodI d ≤ 262144 := by
  refine ⟨prodI_nonneg h, Int.le_trans (prodI_le h) ?_⟩
  have : d.length = 0 ∨ d.length = 1 ∨ d.length = 2 ∨ d.length = 3 := by omega
  rcases this with h | h | h | h <;> rw [h] <;> decide
end Go.RS
