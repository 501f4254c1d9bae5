/- Who does what the deltas say has the rows. No program in sight. -/
import Derived.Test.YtpakcfbjjlmcaaaTapeLawPure
set_option linter.unusedVariables false
set_option linter.unusedSimpArgs false
namespace Go.TP
open Go.Proofs.Ytpakcfbjjlmcaaa.PAll (S142)
def foldS (out : List (List Int)) (d : S142) : Option (List (List Int)) :=
  if d.f0 = 1 then (if d.f1 = out.length then some (out ++ [d.f2]) else none)
  else if d.f0 = 2 then (if 0 ≤ d.f1 ∧ d.f1 < out.length then some (out.set d.f1.toNat d.f2) else none)
  else if d.f0 = 3 then (if 0 ≤ d.f1 ∧ d.f1 = (out.length : Int) - 1 ∧ d.f2 = [] then some (out.take d.f1.toNat) else none)
  else none
def foldD : List (List Int) → List S142 → Option (List (List Int))
  | out, [] => some out
  | out, d :: l => (foldS out d).bind (fun o => foldD o l)
theorem foldD_append (l1 l2 : List S142) : ∀ out, foldD out (l1 ++ l2) = (foldD out l1).bind (fun o => foldD o l2) := by
  induction l1 with
  | nil => intro out; rfl
  | cons d l1 ih =>
    intro out
    simp only [List.cons_append, foldD]
    rcases foldS out d with _ | o
    · rfl
    · exact ih o
theorem foldD_one (out : List (List Int)) (d : S142) : foldD out [d] = foldS out d := by
  simp only [foldD]
  rcases foldS out d with _ | o <;> rfl
theorem foldD_le {out fin : List (List Int)} : ∀ {l : List S142}, foldD out l = some fin → fin.length ≤ out.length + l.length := by
  intro l
  induction l generalizing out with
  | nil => intro h; simp only [foldD, Option.some.injEq] at h; subst h; simp
  | cons d l ih =>
    intro h
    simp only [foldD] at h
    rcases hs : foldS out d with _ | o
    · rw [hs] at h; cases h
    · rw [hs] at h
      have h1 := ih h
      have h2 : o.length ≤ out.length + 1 := by
        unfold foldS at hs
        repeat' split at hs
        all_goals first
          | (cases hs; done)
          | (injection hs with hs; rw [← hs]; simp; done)
          | (injection hs with hs; rw [← hs]; simp; omega)
      simp only [List.length_cons]; omega
theorem fold_repl (X Y : List (List Int)) (a : Nat) (hX : a ≤ X.length) (hY : a ≤ Y.length) (h : X.take a = Y.take a) : ∀ n, a + n ≤ X.length → a + n ≤ Y.length → foldD X (ups (repl 0 X Y) a n) = some (Y.take (a + n) ++ X.drop (a + n))
  | 0, _, _ => by simp only [ups, foldD, Nat.add_zero]; rw [← h, List.take_append_drop]
  | n + 1, h1, h2 => by
    simp only [ups]
    rw [foldD_append, fold_repl X Y a hX hY h n (by omega) (by omega), Option.bind_some]
    have hx : a + n < X.length := by omega
    have hy : a + n < Y.length := by omega
    have hl : (Y.take (a + n)).length = a + n := by rw [List.length_take]; omega
    unfold repl
    rw [List.getElem?_eq_getElem hx, List.getElem?_eq_getElem hy, ← Nat.add_assoc, List.take_succ_eq_append_getElem hy, List.append_assoc]
    split
    · rename_i he
      injection he with he
      rw [foldD, ← he, List.singleton_append, ← List.drop_eq_getElem_cons hx]
    · rw [foldD_one]
      have e : Y.getD (a + n) [] = Y[a + n] := by simp [List.getD_eq_getElem?_getD, List.getElem?_eq_getElem hy]
      unfold foldS
      rw [if_neg (by simp), if_pos rfl, if_pos ⟨by simp only; omega, by simp only [List.length_append, hl, List.length_drop]; omega⟩]
      simp only [e]
      rw [show ((0 : Int) + ((a + n : Nat) : Int)).toNat = a + n by omega, List.set_append_right _ _ (by omega), hl, Nat.sub_self, List.drop_eq_getElem_cons hx]
      rfl
theorem fold_downs (L : List (List Int)) : ∀ n, n ≤ L.length → foldD L (downs (0 + L.length) n) = some (L.take (L.length - n))
  | 0, _ => by simp [downs, foldD]
  | n + 1, h => by
    simp only [downs]
    rw [foldD_append, fold_downs L n (by omega), Option.bind_some, foldD_one]
    have hl : (L.take (L.length - n)).length = L.length - n := by rw [List.length_take]; omega
    unfold foldS
    rw [if_neg (by simp), if_neg (by simp), if_pos rfl, if_pos ⟨by simp only; omega, by simp only [hl]; omega, rfl⟩]
    simp only
    rw [List.take_take]
    congr 2
    omega
theorem fold_apnd (Y : List (List Int)) (b : Nat) : ∀ n, b + n ≤ Y.length → foldD (Y.take b) (ups (apnd 0 Y) b n) = some (Y.take (b + n))
  | 0, _ => by simp [ups, foldD]
  | n + 1, h => by
    simp only [ups]
    have hy : b + n < Y.length := by omega
    have hl : (Y.take (b + n)).length = b + n := by rw [List.length_take]; omega
    rw [foldD_append, fold_apnd Y b n (by omega), Option.bind_some]
    unfold apnd
    rw [foldD_one]
    have e : Y.getD (b + n) [] = Y[b + n] := by simp [List.getD_eq_getElem?_getD, List.getElem?_eq_getElem hy]
    unfold foldS
    rw [if_pos rfl, if_pos (by simp only [hl]; omega)]
    simp only [e]
    rw [← Nat.add_assoc, List.take_succ_eq_append_getElem hy]
theorem fold_chg (X Y : List (List Int)) (a : Nat) (hX : a ≤ X.length) (hY : a ≤ Y.length) (h : X.take a = Y.take a) : foldD X (chg 0 a X Y) = some Y := by
  unfold chg
  rw [foldD_append, foldD_append, fold_repl X Y a hX hY h _ (by omega) (by omega), Option.bind_some]
  have hm : a + (min X.length Y.length - a) = min X.length Y.length := by omega
  rw [hm]
  rcases Nat.le_total X.length Y.length with hl | hl
  · rw [Nat.min_eq_left hl, Nat.sub_eq_zero_of_le hl]
    simp only [downs, foldD, Option.bind_some]
    rw [List.drop_of_length_le (Nat.le_refl _), List.append_nil, fold_apnd Y X.length _ (by omega), show X.length + (Y.length - X.length) = Y.length by omega, List.take_length]
  · rw [Nat.min_eq_right hl, List.take_length]
    have e : (Y ++ X.drop Y.length).length = X.length := by rw [List.length_append, List.length_drop]; omega
    have := fold_downs (Y ++ X.drop Y.length) (X.length - Y.length) (by omega)
    rw [e] at this
    rw [this, Option.bind_some, show X.length - (X.length - Y.length) = Y.length by omega, List.take_left, Nat.sub_eq_zero_of_le hl]
    rfl
theorem chg_none (o : Int) (a : Nat) (is : List (List Int)) : chg o a is is = [] := by
  unfold chg
  rw [Nat.sub_self]
  rw [ups_nil _ _ _ (fun i _ => by simp [repl])]
  rfl
end Go.TP
