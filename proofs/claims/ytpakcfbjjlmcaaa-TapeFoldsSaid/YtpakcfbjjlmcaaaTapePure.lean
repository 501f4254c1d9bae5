/- What the deltas of a tape are, in plain Lean. No program in sight. -/
import Derived.Test.YtpakcfbjjlmcaaaPAllx0
import Derived.Test.YtpakcfbjjlmcaaaPAllx1
import Derived.Test.YtpakcfbjjlmcaaaPAllx5
import Derived.Test.YtpakcfbjjlmcaaaPAllx8
set_option linter.unusedVariables false
set_option linter.unusedSimpArgs false
namespace Go.TP
open Go.Proofs.Ytpakcfbjjlmcaaa.PAll (S142)
def ups (f : Nat → List S142) (a : Nat) : Nat → List S142
  | 0 => []
  | n + 1 => ups f a n ++ f (a + n)
def downs (h : Int) : Nat → List S142
  | 0 => []
  | n + 1 => downs h n ++ [⟨3, h - ((n : Int) + 1), []⟩]
def repl (o : Int) (was is : List (List Int)) (i : Nat) : List S142 := if was[i]? = is[i]? then [] else [⟨2, o + i, is.getD i []⟩]
def apnd (o : Int) (is : List (List Int)) (i : Nat) : List S142 := [⟨1, o + i, is.getD i []⟩]
def chg (o : Int) (a : Nat) (was is : List (List Int)) : List S142 :=
  ups (repl o was is) a (min was.length is.length - a) ++ downs (o + was.length) (was.length - is.length) ++ ups (apnd o is) was.length (is.length - was.length)
theorem ups_le (f : Nat → List S142) (hf : ∀ i, (f i).length ≤ 1) (a n : Nat) : (ups f a n).length ≤ n := by
  induction n with
  | zero => simp [ups]
  | succ n ih => have := hf (a + n); simp only [ups, List.length_append]; omega
theorem downs_le (h : Int) (n : Nat) : (downs h n).length = n := by
  induction n with
  | zero => simp [downs]
  | succ n ih => simp only [downs, List.length_append, ih]; rfl
theorem repl_le (o : Int) (was is : List (List Int)) (i : Nat) : (repl o was is i).length ≤ 1 := by
  unfold repl; split <;> simp
theorem apnd_le (o : Int) (is : List (List Int)) (i : Nat) : (apnd o is i).length ≤ 1 := by simp [apnd]
theorem ups_shift (f g : Nat → List S142) (a b : Nat) : ∀ n, (∀ i < n, f (a + i) = g (b + i)) → ups f a n = ups g b n
  | 0, _ => rfl
  | n + 1, h => by
    simp only [ups]
    rw [ups_shift f g a b n (fun i hi => h i (by omega)), h n (by omega)]
/-- the tape's own deltas are the document's -/
theorem chg_doc (was is pre : List (List Int)) : chg pre.length 0 was is = chg 0 pre.length (pre ++ was) (pre ++ is) := by
  unfold chg
  have e1 : min (pre ++ was).length (pre ++ is).length - pre.length = min was.length is.length - 0 := by simp only [List.length_append]; omega
  have e2 : (pre ++ was).length - (pre ++ is).length = was.length - is.length := by simp only [List.length_append]; omega
  have e3 : (pre ++ is).length - (pre ++ was).length = is.length - was.length := by simp only [List.length_append]; omega
  rw [e1, e2, e3]
  congr 1
  · congr 1
    · refine ups_shift _ _ _ _ _ (fun i hi => ?_)
      unfold repl
      rw [Nat.zero_add, List.getElem?_append_right (by omega), List.getElem?_append_right (by omega), Nat.add_sub_cancel_left, List.getD_eq_getElem?_getD, List.getD_eq_getElem?_getD, List.getElem?_append_right (by omega), Nat.add_sub_cancel_left]
      split
      · rfl
      · congr 2; omega
    · congr 1
      rw [List.length_append]; omega
  · refine ups_shift _ _ _ _ _ (fun i hi => ?_)
    unfold apnd
    rw [List.length_append, List.getD_eq_getElem?_getD, List.getD_eq_getElem?_getD, List.getElem?_append_right (by omega), show pre.length + was.length + i - pre.length = was.length + i by omega]
    congr 2; omega
/-- with nothing to replace in a row that is told again -/
theorem ups_nil (f : Nat → List S142) (a : Nat) : ∀ n, (∀ i < n, f (a + i) = []) → ups f a n = []
  | 0, _ => rfl
  | n + 1, h => by simp only [ups]; rw [ups_nil f a n (fun i hi => h i (by omega)), h n (by omega)]; rfl
theorem chg_same (o : Int) (is : List (List Int)) : chg o 0 is is = [] := by
  unfold chg
  rw [Nat.sub_self]
  rw [ups_nil _ _ _ (fun i _ => by simp [repl])]
  rfl
open Go.RowKit Go.Proofs.Ytpakcfbjjlmcaaa.PAll Go.Proofs.YtpakcfbjjlmcaaaW.PrintWords
theorem equal_l0 (a b : List Int) (hl : a.length = b.length) (hb : a.length ≤ 1000000) : ∀ (k i : Nat), a.length < i + k → i ≤ a.length → a.take i = b.take i → slices_Equal_int64_int64.l0 k a b (a.length : Int) (i : Int) = some (decide (a = b))
  | 0, i, h1, h2, _ => by omega
  | k + 1, i, h1, h2, h => by
    unfold slices_Equal_int64_int64.l0
    by_cases hi : i < a.length
    · have hib : i < b.length := by omega
      have e1 : rd a (i : Int) = a[i] := by simp [rd, List.getElem?_eq_getElem hi, List.getD_eq_getElem?_getD]
      have e2 : rd b (i : Int) = b[i] := by simp [rd, List.getElem?_eq_getElem hib, List.getD_eq_getElem?_getD]
      have e3 : wrap64 ((i : Int) + 1) = ((i + 1 : Nat) : Int) := by unfold wrap64; omega
      rw [if_pos (by omega), if_pos (by omega), if_pos (by omega), if_pos (by omega), e1, e2, e3]
      by_cases he : a[i] = b[i]
      · rw [if_pos he]
        exact equal_l0 a b hl hb k (i + 1) (by omega) (by omega) (by rw [List.take_succ_eq_append_getElem hi, List.take_succ_eq_append_getElem hib, h, he])
      · rw [if_neg he]
        have : a ≠ b := fun h => by subst h; exact he rfl
        simp [this]
    · rw [if_neg (by omega)]
      have : a = b := by rwa [List.take_of_length_le (by omega), List.take_of_length_le (by omega)] at h
      simp [this]
theorem equal_pure (a b : List Int) (hb : a.length ≤ 1000000) : slices_Equal_int64_int64.f 1000001 a b = some (decide (a = b)) := by
  unfold slices_Equal_int64_int64.f
  by_cases h : a.length = b.length
  · rw [if_pos (by omega)]
    exact equal_l0 a b h hb 1000001 0 (by omega) (by omega) rfl
  · rw [if_neg (by omega)]
    have : a ≠ b := fun e => h (by rw [e])
    simp [this]
theorem nums_l0 (a b : List Int) (hl : a.length = b.length) (hb : a.length ≤ 1000000) : ∀ (k i : Nat), a.length < i + k → i ≤ a.length → a.take i = b.take i → riffleref03_Nums.l0 k a b (i : Int) = some (decide (a = b))
  | 0, i, h1, h2, _ => by omega
  | k + 1, i, h1, h2, h => by
    unfold riffleref03_Nums.l0
    by_cases hi : i < a.length
    · have hib : i < b.length := by omega
      have e1 : rd a (i : Int) = a[i] := by simp [rd, List.getElem?_eq_getElem hi, List.getD_eq_getElem?_getD]
      have e2 : rd b (i : Int) = b[i] := by simp [rd, List.getElem?_eq_getElem hib, List.getD_eq_getElem?_getD]
      have e3 : wrap64 ((i : Int) + 1) = ((i + 1 : Nat) : Int) := by unfold wrap64; omega
      rw [if_pos (by omega), if_pos (by omega), if_pos (by omega), e1, e2, e3]
      by_cases he : a[i] = b[i]
      · rw [if_pos he]
        exact nums_l0 a b hl hb k (i + 1) (by omega) (by omega) (by rw [List.take_succ_eq_append_getElem hi, List.take_succ_eq_append_getElem hib, h, he])
      · rw [if_neg he]
        have : a ≠ b := fun h => by subst h; exact he rfl
        simp [this]
    · rw [if_neg (by omega)]
      have : a = b := by rwa [List.take_of_length_le (by omega), List.take_of_length_le (by omega)] at h
      simp [this]
theorem nums_pure (a b : List Int) (hb : a.length ≤ 1000000) : riffleref03_Nums.f 1000001 a b = some (decide (a = b)) := by
  unfold riffleref03_Nums.f
  by_cases h : a.length = b.length
  · rw [if_pos (by omega)]
    exact nums_l0 a b h hb 1000001 0 (by omega) (by omega) rfl
  · rw [if_neg (by omega)]
    have : a ≠ b := fun e => h (by rw [e])
    simp [this]
end Go.TP
