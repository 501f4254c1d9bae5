/- A window's best, in plain lists: what is kept of it. No condition. -/
namespace Go.DQ
/-- does a new number beat an old one? -/
def bt (least : Bool) (new old : Int) : Bool := if least = true then decide (new ≤ old) else decide (new ≥ old)
/-- what is kept: each that none behind beats, with its place -/
def kept (least : Bool) : Int → List Int → List (Int × Int)
  | _, [] => []
  | p, x :: xs => if xs.any (fun y => bt least y x) = true then kept least (p + 1) xs else (x, p) :: kept least (p + 1) xs
variable {least : Bool}
theorem kept_mem : ∀ (p : Int) (l : List Int) (e : Int × Int), e ∈ kept least p l → e.1 ∈ l ∧ p ≤ e.2 ∧ e.2 < p + l.length
  | _, [], e, h => by cases h
  | p, x :: xs, e, h => by
    simp only [kept] at h
    split at h
    · have := kept_mem (p + 1) xs e h
      simp only [List.mem_cons, List.length_cons]
      exact ⟨.inr this.1, by omega, by omega⟩
    · rcases List.mem_cons.1 h with rfl | h
      · simp only [List.mem_cons, List.length_cons]
        exact ⟨.inl trivial, by omega, by omega⟩
      · have := kept_mem (p + 1) xs e h
        simp only [List.mem_cons, List.length_cons]
        exact ⟨.inr this.1, by omega, by omega⟩
theorem kept_push (x : Int) : ∀ (p : Int) (l : List Int), kept least p (l ++ [x]) = (kept least p l).filter (fun e => !bt least x e.1) ++ [(x, p + l.length)]
  | p, [] => by simp [kept]
  | p, y :: ys => by
    have ih := kept_push x (p + 1) ys
    have e : p + 1 + (ys.length : Int) = p + ((y :: ys).length : Int) := by simp; omega
    rw [e] at ih
    simp only [List.cons_append, kept, List.any_append, List.any_cons, List.any_nil, Bool.or_false]
    by_cases h1 : ys.any (fun z => bt least z y) = true
    · simp only [h1, Bool.true_or, if_true]
      exact ih
    · rw [Bool.not_eq_true] at h1
      simp only [h1, Bool.false_or, Bool.false_eq_true, if_false]
      by_cases h2 : bt least x y = true
      · simp only [h2, if_true, List.filter_cons, Bool.not_true, Bool.false_eq_true, if_false]
        exact ih
      · rw [Bool.not_eq_true] at h2
        simp only [h2, Bool.false_eq_true, if_false, List.filter_cons, Bool.not_false, if_true, List.cons_append]
        rw [ih]
/-- none of those kept beats one ahead -/
theorem kept_sorted : ∀ (p : Int) (l : List Int), (kept least p l).Pairwise (fun a b => bt least b.1 a.1 = false)
  | _, [] => List.Pairwise.nil
  | p, x :: xs => by
    simp only [kept]
    split
    · exact kept_sorted (p + 1) xs
    · rename_i h
      refine List.Pairwise.cons (fun e he => ?_) (kept_sorted (p + 1) xs)
      have h1 := (kept_mem (p + 1) xs e he).1
      rw [Bool.eq_false_iff]
      intro hb
      exact h (List.any_eq_true.2 ⟨e.1, h1, hb⟩)
theorem bt_trans {x a b : Int} (h1 : bt least x b = false) (h2 : bt least b a = false) : bt least x a = false := by
  unfold bt at *
  cases least <;> simp at * <;> omega
/-- taking from the end while the last is beaten leaves those that are not -/
theorem popped (x : Int) (E : List (Int × Int)) (hs : E.Pairwise (fun a b => bt least b.1 a.1 = false)) (j : Nat) (_hj : j ≤ E.length) (hb : ∀ e ∈ E.drop j, bt least x e.1 = true) (hl : ∀ e, (E.take j).getLast? = some e → bt least x e.1 = false) : E.take j = E.filter (fun e => !bt least x e.1) := by
  have h1 : E.filter (fun e => !bt least x e.1) = (E.take j).filter (fun e => !bt least x e.1) ++ (E.drop j).filter (fun e => !bt least x e.1) := by
    rw [← List.filter_append, List.take_append_drop]
  have h2 : (E.drop j).filter (fun e => !bt least x e.1) = [] := by
    rw [List.filter_eq_nil_iff]
    intro e he
    simp [hb e he]
  have h3 : (E.take j).filter (fun e => !bt least x e.1) = E.take j := by
    rw [List.filter_eq_self]
    intro e he
    have hst := hs.sublist (List.take_sublist j E)
    generalize E.take j = F at *
    rcases hF : F.getLast? with _ | z
    · rw [List.getLast?_eq_none_iff] at hF
      rw [hF] at he
      cases he
    · obtain ⟨G, rfl⟩ : ∃ G, F = G ++ [z] := by
        rw [List.getLast?_eq_some_iff] at hF
        exact hF
      have hz := hl z hF
      rcases List.mem_append.1 he with he | he
      · have := (List.pairwise_append.1 hst).2.2 e he z (by simp)
        simp [bt_trans hz this]
      · rw [List.mem_singleton.1 he]
        simp [hz]
  rw [h1, h2, h3, List.append_nil]
theorem kept_ne (p : Int) : ∀ l : List Int, l ≠ [] → kept least p l ≠ [] := by
  intro l
  induction l generalizing p with
  | nil => intro h; exact absurd rfl h
  | cons x xs ih =>
    intro _
    simp only [kept]
    split
    · rename_i h
      refine ih (p + 1) ?_
      rintro rfl
      simp at h
    · simp
/-- dropping the oldest -/
theorem kept_drop (p x : Int) (xs : List Int) : kept least (p + 1) xs = if (∃ e, (kept least p (x :: xs)).head? = some e ∧ e.2 = p) then (kept least p (x :: xs)).tail else kept least p (x :: xs) := by
  simp only [kept]
  split
  · rename_i h
    rw [if_neg]
    rintro ⟨e, he, hp⟩
    have := kept_mem (p + 1) xs e (List.mem_of_mem_head? he)
    omega
  · rw [if_pos ⟨(x, p), rfl, rfl⟩]
    rfl
/-- better of two: a strictly better one -/
def best (least : Bool) : List Int → Int → Int
  | [], n => n
  | x :: xs, n => best least xs (if (if least = true then x < n else x > n) then x else n)
end Go.DQ
