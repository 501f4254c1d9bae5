/- The document's Best and Kept are what the entries tell. No condition. -/
import Derived.Test.YtpakcfbjjlmcaaaPAllx3
import Derived.Test.YtpakcfbjjlmcaaaDequePure
set_option linter.unusedVariables false
set_option linter.unusedSimpArgs false
set_option maxRecDepth 100000
namespace Go.Proofs.Ytpakcfbjjlmcaaa.DQL
open Go.RowKit Go.DQ Go.Proofs.YtpakcfbjjlmcaaaW.PrintWords Go.Proofs.Ytpakcfbjjlmcaaa.PAll
theorem rd_at_ (l : List Int) (i : Nat) (h : i < l.length) : rd l (i : Int) = l[i] := by
  unfold rd
  rw [List.getD_eq_getElem?_getD, Int.toNat_natCast, List.getElem?_eq_getElem h]; rfl
theorem wrap_s (i : Nat) (h : i < 1000000) : wrap64 ((i : Int) + 1) = ((i + 1 : Nat) : Int) := by unfold wrap64; omega
theorem best_l0 (l : List Int) (hl : l.length ≤ 1000) (least : Bool) (d : Nat) : ∀ (k i : Nat) (n : Int), i + d = l.length → d < k → riffleref13_Best.l0 k l least n i = some (best least (l.drop i) n, true) := by
  induction d with
  | zero =>
    intro k i n hi hk
    obtain ⟨k, rfl⟩ : ∃ m, k = m + 1 := ⟨k - 1, by omega⟩
    rw [riffleref13_Best.l0, if_neg (by omega), List.drop_of_length_le (by omega)]; rfl
  | succ d ih =>
    intro k i n hi hk
    obtain ⟨k, rfl⟩ : ∃ m, k = m + 1 := ⟨k - 1, by omega⟩
    have hlt : i < l.length := by omega
    rw [riffleref13_Best.l0, if_pos (by omega), rd_at_ l i hlt, wrap_s i (by omega), List.drop_eq_getElem_cons hlt]
    cases least with
    | true =>
      rw [if_pos rfl, if_pos (by omega)]
      simp only [best, if_true]
      split
      · exact ih k (i + 1) _ (by omega) (by omega)
      · exact ih k (i + 1) _ (by omega) (by omega)
    | false =>
      rw [if_neg (by simp), if_pos (by omega)]
      simp only [best, Bool.false_eq_true, if_false]
      split
      · exact ih k (i + 1) _ (by omega) (by omega)
      · exact ih k (i + 1) _ (by omega) (by omega)
theorem refBest_nil (k : Nat) (least : Bool) : riffleref13_Best.f k [] least = some (0, false) := by simp [riffleref13_Best.f]
theorem refBest_cons (k : Nat) (x : Int) (xs : List Int) (hl : (x :: xs).length ≤ 1000) (hk : 1000 < k) (least : Bool) : riffleref13_Best.f k (x :: xs) least = some (best least xs x, true) := by
  have hp : 0 < (((x :: xs).length : Nat) : Int) := by rw [List.length_cons]; omega
  rw [riffleref13_Best.f, if_neg (by omega), if_pos hp]
  have h0 : rd (x :: xs) 0 = x := rfl
  rw [h0]
  exact best_l0 (x :: xs) hl least xs.length k 1 x (by simp; omega) (by simp at hl; omega)
/-- the one that none betters -/
theorem best_spec (least : Bool) : ∀ (xs : List Int) (x : Int), best least xs x ∈ x :: xs ∧ ∀ y ∈ x :: xs, DQ.bt least (best least xs x) y = true
  | [], x => by
    refine ⟨by simp [best], ?_⟩
    intro y hy
    rw [List.mem_singleton.1 hy]
    cases least <;> simp [DQ.bt, best]
  | z :: zs, x => by
    simp only [best]
    have ih := best_spec least zs (if (if least = true then z < x else z > x) then z else x)
    generalize best least zs (if (if least = true then z < x else z > x) then z else x) = m at ih
    by_cases hc : (if least = true then z < x else z > x)
    · rw [if_pos hc] at ih
      refine ⟨List.mem_cons_of_mem _ ih.1, fun y hy => ?_⟩
      rcases List.mem_cons.1 hy with rfl | hy
      · have h1 := ih.2 z (by simp)
        cases least <;> simp [DQ.bt] at h1 hc ⊢ <;> omega
      · exact ih.2 y hy
    · rw [if_neg hc] at ih
      refine ⟨?_, fun y hy => ?_⟩
      · rcases List.mem_cons.1 ih.1 with h | h
        · rw [h]; simp
        · exact List.mem_cons_of_mem _ (List.mem_cons_of_mem _ h)
      · rcases List.mem_cons.1 hy with rfl | hy
        · exact ih.2 _ (by simp)
        · rcases List.mem_cons.1 hy with rfl | hy
          · have h1 := ih.2 x (by simp)
            cases least <;> simp [DQ.bt] at h1 hc ⊢ <;> omega
          · exact ih.2 y (List.mem_cons_of_mem _ hy)
theorem kept_spec (least : Bool) : ∀ (l : List Int) (p : Int), l ≠ [] → ∃ n q T, kept least p l = (n, q) :: T ∧ n ∈ l ∧ ∀ y ∈ l, DQ.bt least n y = true
  | [], _, h => absurd rfl h
  | x :: xs, p, _ => by
    rw [kept]
    by_cases h : xs.any (fun y => DQ.bt least y x) = true
    · rw [if_pos h]
      obtain ⟨y, hy, hb⟩ := List.any_eq_true.1 h
      obtain ⟨n, q, T, e, hm, ha⟩ := kept_spec least xs (p + 1) (by rintro rfl; cases hy)
      refine ⟨n, q, T, e, List.mem_cons_of_mem _ hm, fun z hz => ?_⟩
      rcases List.mem_cons.1 hz with rfl | hz
      · have h1 := ha y hy
        cases least <;> simp [DQ.bt] at h1 hb ⊢ <;> omega
      · exact ha z hz
    · rw [if_neg h]
      refine ⟨x, p, _, rfl, by simp, fun z hz => ?_⟩
      rcases List.mem_cons.1 hz with rfl | hz
      · cases least <;> simp [DQ.bt]
      · have h1 : DQ.bt least z x = false := by
          rw [Bool.eq_false_iff]
          exact fun hb => h (List.any_eq_true.2 ⟨z, hz, hb⟩)
        cases least <;> simp [DQ.bt] at h1 ⊢ <;> omega
/-- the first that is kept is the best -/
theorem kept_best (least : Bool) (p x : Int) (xs : List Int) : ∃ q T, kept least p (x :: xs) = (best least xs x, q) :: T := by
  obtain ⟨n, q, T, e, hm, ha⟩ := kept_spec least (x :: xs) p (by simp)
  have hs := best_spec least xs x
  have h1 := ha _ hs.1
  have h2 := hs.2 _ hm
  have : n = best least xs x := by
    generalize best least xs x = m at *
    cases least <;> simp [DQ.bt] at h1 h2 <;> omega
  exact ⟨q, T, by rw [e, this]⟩
theorem kept_l1 (l : List Int) (hl : l.length ≤ 1000) (least : Bool) (out : List Int) (i : Nat) (hi : i < l.length) (d : Nat) : ∀ (k j : Nat) (b : Bool), j + d = l.length → d < k → riffleref13_Kept.l1 k l least out i b j = (if (b || (l.drop j).any (fun y => DQ.bt least y l[i])) = true then riffleref13_Kept.l0 (k - d - 1) l least out ((i + 1 : Nat) : Int) else (if out.length < 17592186044416 then riffleref13_Kept.l0 (k - d - 1) l least (out ++ [l[i]]) ((i + 1 : Nat) : Int) else none)) := by
  induction d with
  | zero =>
    intro k j b hj hk
    obtain ⟨k, rfl⟩ : ∃ m, k = m + 1 := ⟨k - 1, by omega⟩
    rw [riffleref13_Kept.l1, if_neg (by omega), List.drop_of_length_le (by omega), rd_at_ l i hi, wrap_s i (by omega), if_pos (show (0 : Int) ≤ (i : Int) by omega), if_pos (show (i : Int) < (l.length : Int) by omega)]
    simp only [List.any_nil, Bool.or_false, Nat.sub_zero, Nat.add_sub_cancel]
  | succ d ih =>
    intro k j b hj hk
    obtain ⟨k, rfl⟩ : ∃ m, k = m + 1 := ⟨k - 1, by omega⟩
    have hlt : j < l.length := by omega
    have ek : k + 1 - (d + 1) - 1 = k - d - 1 := by omega
    rw [riffleref13_Kept.l1, if_pos (show (j : Int) < (l.length : Int) by omega), rd_at_ l i hi, rd_at_ l j hlt, wrap_s j (by omega), List.drop_eq_getElem_cons hlt, List.any_cons, ek]
    simp only [if_pos (show (0 : Int) ≤ (i : Int) by omega), if_pos (show (0 : Int) ≤ (j : Int) by omega), if_pos (show (i : Int) < (l.length : Int) by omega)]
    rw [ih k (j + 1) true (by omega) (by omega), ih k (j + 1) false (by omega) (by omega), ih k (j + 1) _ (by omega) (by omega)]
    cases b with
    | true => simp only [Bool.true_or, if_true]
    | false =>
      cases least with
      | true =>
        simp only [if_true, Bool.false_eq_true, if_false, Bool.false_or, DQ.bt]
        by_cases h : l[j] ≤ l[i]
        · simp only [h, if_true, decide_true, Bool.true_or]
        · simp only [h, if_false, decide_false, Bool.false_or]
      | false =>
        simp only [Bool.false_eq_true, if_false, Bool.false_or, DQ.bt]
theorem kept_l0 (c : Nat) (hcc : 1002 ≤ c) (l : List Int) (hl : l.length ≤ 1000) (least : Bool) (d : Nat) : ∀ (k i : Nat) (p : Int) (out : List Int), i + d = l.length → (d + 1) * c < k → out.length + d ≤ 1000 → riffleref13_Kept.l0 k l least out i = some (out ++ (kept least p (l.drop i)).map (·.1)) := by
  induction d with
  | zero =>
    intro k i p out hi hk ho
    obtain ⟨k, rfl⟩ : ∃ m, k = m + 1 := ⟨k - 1, by omega⟩
    rw [riffleref13_Kept.l0, if_neg (by omega), List.drop_of_length_le (by omega)]
    simp [kept]
  | succ d ih =>
    intro k i p out hi hk ho
    obtain ⟨k, rfl⟩ : ∃ m, k = m + 1 := ⟨k - 1, by omega⟩
    have hlt : i < l.length := by omega
    rw [riffleref13_Kept.l0, if_pos (by omega), wrap_s i (by omega)]
    have hdk : d < k := by
      have := Nat.le_mul_of_pos_right (d + 1 + 1) (show 0 < c by omega)
      omega
    rw [kept_l1 l hl least out i hlt d k (i + 1) false (by omega) hdk, if_pos (show out.length < 17592186044416 by omega)]
    have a1 : i + 1 + d = l.length := by omega
    have a2 : (d + 1) * c < k - d - 1 := by
      clear ih
      have e := Nat.succ_mul (d + 1) c
      rw [Nat.succ_eq_add_one] at e
      generalize (d + 1) * c = q at *
      omega
    have a3 : out.length + d ≤ 1000 := by omega
    have a4 : (out ++ [l[i]]).length + d ≤ 1000 := by simp; omega
    rw [ih (k - d - 1) (i + 1) (p + 1) out a1 a2 a3, ih (k - d - 1) (i + 1) (p + 1) (out ++ [l[i]]) a1 a2 a4]
    rw [List.drop_eq_getElem_cons hlt, kept, Bool.false_or]
    split
    · rfl
    · simp
theorem refKept (k : Nat) (l : List Int) (hl : l.length ≤ 1000) (hk : 2000000 < k) (least : Bool) (p : Int) : riffleref13_Kept.f k l least = some ((kept least p l).map (·.1)) := by
  rw [riffleref13_Kept.f]
  have hq : (l.length + 1) * 1002 ≤ 1001 * 1002 := Nat.mul_le_mul_right _ (by omega)
  have h := kept_l0 1002 (Nat.le_refl _) l hl least l.length k 0 p [] (by omega) (Nat.lt_of_le_of_lt hq (by omega)) (by simp; omega)
  simpa using h
end Go.Proofs.Ytpakcfbjjlmcaaa.DQL
