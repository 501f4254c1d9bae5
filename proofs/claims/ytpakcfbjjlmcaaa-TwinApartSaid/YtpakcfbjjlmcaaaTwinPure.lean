/- A window by two stacks, in plain lists. No condition. -/
namespace Go.TW
variable {α : Type} (jn : α → α → α)
/-- all from x on, joined from the end -/
def foldR (x : α) : List α → α
  | [] => x
  | y :: ys => jn x (foldR y ys)
/-- the front stack: what is on top is last -/
def sufs : List α → List α
  | [] => []
  | x :: xs => sufs xs ++ [foldR jn x xs]
def foldL (x : α) (l : List α) : α := l.foldl jn x
theorem sufs_length : ∀ l : List α, (sufs jn l).length = l.length
  | [] => rfl
  | x :: xs => by simp [sufs, sufs_length xs]
theorem sufs_last (x : α) (xs : List α) : (sufs jn (x :: xs))[xs.length]? = some (foldR jn x xs) := by
  simp [sufs, sufs_length]
theorem sufs_take (x : α) (xs : List α) : (sufs jn (x :: xs)).take xs.length = sufs jn xs := by
  simp only [sufs]
  rw [List.take_append_of_le_length (by rw [sufs_length]; exact Nat.le_refl _), List.take_of_length_le (by rw [sufs_length]; exact Nat.le_refl _)]
theorem foldL_snoc (x y : α) (xs : List α) : foldL jn x (xs ++ [y]) = jn (foldL jn x xs) y := by simp [foldL]
theorem foldL_cons (x y : α) (xs : List α) : foldL jn x (y :: xs) = foldL jn (jn x y) xs := rfl
section
variable {jn} (hj : ∀ a b c, jn (jn a b) c = jn a (jn b c))
include hj
theorem foldL_jn (a x : α) (xs : List α) : foldL jn (jn a x) xs = jn a (foldL jn x xs) := by
  induction xs generalizing x with
  | nil => rfl
  | cons y ys ih => rw [foldL_cons, foldL_cons, hj, ih]
theorem foldR_foldL (x : α) (xs : List α) : foldR jn x xs = foldL jn x xs := by
  induction xs generalizing x with
  | nil => rfl
  | cons y ys ih => rw [foldR, ih, foldL_cons, foldL_jn hj]
theorem foldL_app (x y : α) (xs ys : List α) : foldL jn x (xs ++ y :: ys) = jn (foldL jn x xs) (foldL jn y ys) := by
  induction xs generalizing x with
  | nil => rw [List.nil_append, foldL_cons, foldL_jn hj]; rfl
  | cons z zs ih => rw [List.cons_append, foldL_cons, ih]; rfl
end
/-- all of a list, joined -/
def all (z : α) : List α → α
  | [] => z
  | x :: xs => foldL jn x xs
section
variable {jn} (sz : α → Nat) (B : Nat) (hs : ∀ a b, sz (jn a b) ≤ sz a + sz b)
include hs
theorem foldL_sz (x : α) (l : List α) (hx : sz x ≤ B) (hl : ∀ y ∈ l, sz y ≤ B) : sz (foldL jn x l) ≤ B * (l.length + 1) := by
  suffices h : ∀ (l : List α) (x : α) (n : Nat), sz x ≤ n → (∀ y ∈ l, sz y ≤ B) → sz (foldL jn x l) ≤ n + B * l.length by
    have := h l x B hx hl
    rw [Nat.mul_add, Nat.mul_one]; omega
  intro l
  induction l with
  | nil => intro x n h _; simpa [foldL] using h
  | cons y ys ih =>
    intro x n h hy
    rw [foldL_cons]
    have h1 := hs x y
    have h2 := hy y (by simp)
    have := ih (jn x y) (n + B) (by omega) (fun z hz => hy z (by simp [hz]))
    simp only [List.length_cons, Nat.mul_add, Nat.mul_one]
    omega
theorem foldR_sz (x : α) (l : List α) (hx : sz x ≤ B) (hl : ∀ y ∈ l, sz y ≤ B) : sz (foldR jn x l) ≤ B * (l.length + 1) := by
  induction l generalizing x with
  | nil => simpa [foldR] using hx
  | cons y ys ih =>
    have h1 := ih y (hl y (by simp)) (fun z hz => hl z (by simp [hz]))
    have h2 := hs x (foldR jn y ys)
    simp only [foldR, List.length_cons, Nat.mul_add, Nat.mul_one] at *
    omega
end
end Go.TW
