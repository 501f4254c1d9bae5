/- What shape.Place, shape.Index and the reference's Places and Index come to. No condition but that lists are shorter than memory. -/
import Derived.Test.YtmfgdgmpblkadaaPurePlaces
import Derived.Test.YtmfgdgmpblkadaaPAllx4
set_option linter.unusedVariables false
set_option linter.unusedSimpArgs false
namespace Go.Proofs.Ytmfgdgmpblkadaa.Pure
open Go.RowKit Go.RS Go.RL Go.RP Go.Proofs.Ytmfgdgmpblkadaa.PAll Go.Proofs.YtmfgdgmpblkadaaW.PrintWords Go.Proofs.YtmfgdgmpblkadaaW.PrintLast

theorem rd_mid (xs : List Int) (a : Int) (ys : List Int) : rd (xs ++ a :: ys) (xs.length : Int) = a := by
  rw [rd_get (by simp)]
  simp
theorem set_mid (n : Nat) (v : Int) (ys : List Int) : (List.replicate (n + 1) (0 : Int) ++ ys).set n v = List.replicate n 0 ++ v :: ys := by
  rw [List.replicate_succ', List.append_assoc, List.set_append]
  simp

theorem place_l (es d done : List Int) : ∀ (ds : List Int), True := fun _ => trivial
theorem place_loop : ∀ (ds es d done : List Int) (rem : Int) (k : Nat), d = ds.reverse ++ es → (∀ x ∈ ds, 0 < x) → 0 ≤ rem → rem ≤ 9223372036854775807 → d.length ≤ 1000 → ds.length < k →
    shape_Place.l0 k d rem (List.replicate ds.length 0 ++ done) (d.length : Int) (es.length : Int) = some ((plr ds rem).reverse ++ done) := by
  intro ds
  induction ds with
  | nil =>
    intro es d done rem k hd hp h0 h1 hm hk
    obtain ⟨k, rfl⟩ := succ_of (show 0 < k by omega)
    subst hd
    simp only [shape_Place.l0]
    rw [if_neg (by simp)]
    simp [plr]
  | cons a t ih =>
    intro es d done rem k hd hp h0 h1 hm hk
    obtain ⟨k, rfl⟩ := succ_of (show 0 < k by omega)
    have hd2 : d = t.reverse ++ a :: es := by rw [hd, List.reverse_cons, List.append_assoc]; rfl
    have hl : d.length = t.length + 1 + es.length := by rw [hd2]; simp; omega
    have ha : 0 < a := hp a (by simp)
    have eax : wrap64 (wrap64 ((d.length : Int) - 1) - (es.length : Int)) = ((t.length : Nat) : Int) := by rw [w64 (n := (d.length : Int) - 1) (by omega), w64 (by omega)]; omega
    have erd : rd d ((t.length : Nat) : Int) = a := by
      have := rd_mid t.reverse a es
      rw [List.length_reverse] at this
      rw [hd2]; exact this
    simp only [shape_Place.l0]
    rw [eax, erd, if_pos (by omega), if_pos (by omega), if_pos (by omega), if_neg (by omega), if_pos (by simp; omega)]
    have e1 : Int.tmod rem a = rem % a := Int.tmod_eq_emod_of_nonneg h0
    have e2 : Int.tdiv rem a = rem / a := Int.tdiv_eq_ediv_of_nonneg h0
    have h2 : 0 ≤ rem / a := Int.ediv_nonneg h0 (by omega)
    have h3 : rem / a ≤ rem := Int.ediv_le_self a h0
    rw [e1, e2, w64 (by omega), List.length_cons, show (((t.length : Nat) : Int)).toNat = t.length from rfl, set_mid, w64_succ (by omega)]
    have := ih (a :: es) d (rem % a :: done) (rem / a) k hd2 (fun x hx => hp x (by simp [hx])) h2 (by omega) hm (by simp at hk; omega)
    rw [List.length_cons] at this
    rw [this, plr, List.reverse_cons, List.append_assoc]
    rfl

theorem pos_of_size {d : List Int} {i : Int} (h0 : 0 ≤ i) (h : i < sizeF d) : rightB d = true ∧ i < prodI d ∧ (∀ x ∈ d, 0 < x) ∧ prodI d ≤ 64 := by
  unfold sizeF at h
  by_cases hr : rightB d = true
  · rw [if_pos hr] at h
    obtain ⟨h1, h2, h3⟩ := rightB_ok hr
    refine ⟨hr, h, ?_, h3⟩
    have h4 : i < prodI d := h
    clear hr h1 h3 h
    have h : 0 < prodI d := by omega
    clear h0 h4
    induction d with
    | nil => intro x hx; cases hx
    | cons a d ih =>
      rw [List.all_cons, Bool.and_eq_true] at h2
      rw [prodI_cons] at h
      obtain ⟨p1, p2⟩ := pos_of_prod (inAxis_iff.1 h2.1).1 (prodI_nonneg h2.2) h
      intro x hx
      rcases List.mem_cons.1 hx with rfl | hx
      · exact p1
      · exact ih h2.2 p2 x hx
  · rw [if_neg hr] at h; omega

theorem place_eq (d : List Int) (i : Int) (k : Nat) (hk : 10 ≤ k) : shape_Place.f k d i = some (if 0 ≤ i ∧ i < sizeF d then placeF d i else []) := by
  unfold shape_Place.f
  obtain ⟨k, rfl⟩ := succ_of (show 0 < k by omega)
  by_cases h0 : i < 0
  · rw [if_pos h0, if_neg (by omega)]; simp [shape_Place.j0]
  · rw [if_neg h0, size_eq]
    simp only [Option.bind_some, shape_Place.j0]
    by_cases h1 : i < sizeF d
    · rw [decide_eq_false (by omega), if_neg (by decide), if_pos (by omega)]
      obtain ⟨hr, h2, h3, h4⟩ := pos_of_size (by omega) h1
      have hl := (rightB_ok hr).1
      rw [if_pos (by omega), if_pos (by omega)]
      have := place_loop d.reverse [] d [] i k (by simp) (fun x hx => h3 x (by simpa using hx)) (by omega) (by omega) (by omega) (by simp; omega)
      rw [List.length_reverse, List.append_nil, List.append_nil] at this
      exact this
    · rw [decide_eq_true (by omega), if_pos rfl, if_neg (by omega)]

/-- the search of a place, number by number -/
def idxF : List Int → List Int → Int → Int
  | a :: d, x :: p, acc => if x < 0 then -1 else if x ≥ a then -1 else idxF d p (acc * a + x)
  | _, _, acc => acc
theorem okPlace_snoc {r xs : List Int} {a x : Int} (h : xs.length = r.length) : okPlace (r ++ [a]) (xs ++ [x]) = (okPlace r xs && (decide (0 ≤ x) && decide (x < a))) := by
  induction r generalizing xs with
  | nil => cases xs with
    | nil => simp [okPlace]
    | cons y xs => simp at h
  | cons b r ih => cases xs with
    | nil => simp at h
    | cons y xs =>
      simp only [List.cons_append, okPlace]
      rw [ih (by simpa using h)]
      simp only [Bool.and_assoc]
theorem hr_snoc {r xs : List Int} {a x : Int} (h : xs.length = r.length) : hr (r ++ [a]) (xs ++ [x]) = hr r xs + prodI r * x := by
  induction r generalizing xs with
  | nil => cases xs with
    | nil => simp [hr, prodI_nil]
    | cons y xs => simp at h
  | cons b r ih => cases xs with
    | nil => simp at h
    | cons y xs =>
      simp only [List.cons_append, hr]
      rw [ih (by simpa using h), prodI_cons, Int.mul_add, Int.mul_assoc, Int.add_assoc]
theorem idxF_eq (d p : List Int) (h : p.length = d.length) (acc : Int) : idxF d p acc = if okPlace d.reverse p.reverse then acc * prodI d + hr d.reverse p.reverse else -1 := by
  induction d generalizing p acc with
  | nil => cases p with
    | nil => simp [idxF, okPlace, hr, prodI_nil]
    | cons x p => simp at h
  | cons a d ih => cases p with
    | nil => simp at h
    | cons x p =>
      have hl : p.length = d.length := by simpa using h
      rw [idxF, List.reverse_cons, List.reverse_cons, okPlace_snoc (by simpa using hl), hr_snoc (by simpa using hl), prodI_cons, prodI_rev, ih p hl]
      by_cases h0 : x < 0
      · rw [if_pos h0, decide_eq_false (show ¬ 0 ≤ x by omega)]; simp
      · rw [if_neg h0]
        by_cases h1 : x ≥ a
        · rw [if_pos h1, decide_eq_false (show ¬ x < a by omega)]; simp
        · rw [if_neg h1, decide_eq_true (show 0 ≤ x by omega), decide_eq_true (show x < a by omega)]
          simp only [Bool.and_true]
          have e : (acc * a + x) * prodI d + hr d.reverse p.reverse = acc * (a * prodI d) + (hr d.reverse p.reverse + prodI d * x) := by
            rw [Int.add_mul, Int.mul_assoc, Int.mul_comm x]; omega
          rw [e]

theorem index_loop (d p : List Int) (hl : p.length = d.length) (h3 : d.length ≤ 3) (ha : d.all inAxis = true) : ∀ (m j k : Nat) (acc : Int), j + m = d.length → m < k → 0 ≤ acc → acc < 64 ^ j →
    shape_Index.l0 k d p acc (d.length : Int) (j : Int) = some (idxF (d.drop j) (p.drop j) acc) := by
  intro m
  induction m with
  | zero =>
    intro j k acc hj hk h0 h1
    obtain ⟨k, rfl⟩ := succ_of (show 0 < k by omega)
    simp only [shape_Index.l0]
    rw [if_neg (by omega), List.drop_of_length_le (show d.length ≤ j by omega)]
    rfl
  | succ m ih =>
    intro j k acc hj hk h0 h1
    obtain ⟨k, rfl⟩ := succ_of (show 0 < k by omega)
    have hjd : j < d.length := by omega
    have hjp : j < p.length := by omega
    simp only [shape_Index.l0]
    rw [if_pos (by omega), if_pos (by omega), if_pos (by omega), rd_get hjp, rd_get hjd, drop_cons hjd, drop_cons hjp, idxF]
    by_cases hx : p[j] < 0
    · rw [if_pos hx, if_pos hx]
    · rw [if_neg hx, if_neg hx, if_pos (by omega)]
      by_cases hy : p[j] ≥ d[j]
      · rw [if_pos hy, if_pos hy]
      · rw [if_neg hy, if_neg hy]
        obtain ⟨a0, a1⟩ := inAxis_iff.1 (List.all_eq_true.1 ha d[j] (List.getElem_mem hjd))
        have b0 : 0 ≤ acc * d[j] := Int.mul_nonneg h0 a0
        have b1 : acc * d[j] ≤ acc * 64 := Int.mul_le_mul_of_nonneg_left a1 h0
        have hj3 : j = 0 ∨ j = 1 ∨ j = 2 := by omega
        have hb : acc * d[j] + p[j] < 64 ^ (j + 1) ∧ acc * d[j] + p[j] ≤ 262144 := by
          generalize d[j] = dj at *
          generalize p[j] = pj at *
          generalize acc * dj = m' at *
          rcases hj3 with h | h | h <;> simp only [h] at h1 ⊢ <;> omega
        have ew : wrap64 (wrap64 (acc * d[j]) + p[j]) = acc * d[j] + p[j] := by
          rw [w64 (n := acc * d[j]) (by omega), w64 (by omega)]
        rw [ew, w64_succ (by omega)]
        exact ih (j + 1) k _ (by omega) (by omega) (by omega) hb.1

theorem index_eq (d p : List Int) (k : Nat) (hk : 10 ≤ k) : shape_Index.f k d p = some (if rightB d then indexF d p else -1) := by
  unfold shape_Index.f
  obtain ⟨k, rfl⟩ := succ_of (show 0 < k by omega)
  rw [right_eq]
  simp only [Option.bind_some]
  by_cases hr : rightB d = true
  · rw [if_pos hr, if_pos hr]
    simp only [shape_Index.j0]
    obtain ⟨h1, h2, h3⟩ := rightB_ok hr
    by_cases hl : p.length = d.length
    · rw [if_neg (by simp; omega)]
      have := index_loop d p hl h1 h2 d.length 0 k 0 (by omega) (by omega) (by omega) (by decide)
      rw [List.drop_zero, List.drop_zero, idxF_eq d p hl] at this
      rw [show ((0 : Nat) : Int) = 0 from rfl] at this
      rw [this]
      unfold indexF
      simp
    · rw [if_pos (by simp; omega)]
      unfold indexF
      rw [if_neg]
      intro h
      have := okPlace_length h
      simp at this
      omega
  · rw [if_neg hr, if_neg hr]
    simp [shape_Index.j0]

end Go.Proofs.Ytmfgdgmpblkadaa.Pure
