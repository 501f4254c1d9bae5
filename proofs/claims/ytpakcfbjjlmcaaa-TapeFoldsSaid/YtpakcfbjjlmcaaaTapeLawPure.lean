/- What a deed makes of the document's tape; what 'Great' and 'Same' tell. No program in sight. -/
import Derived.Test.YtpakcfbjjlmcaaaTapePure
import Derived.Test.YtpakcfbjjlmcaaaPAllx4
import Derived.Test.YtpakcfbjjlmcaaaPAllx8
set_option linter.unusedVariables false
set_option linter.unusedSimpArgs false
namespace Go.TP
open Go.RowKit Go.Proofs.Ytpakcfbjjlmcaaa.PAll Go.Proofs.YtpakcfbjjlmcaaaW.PrintWords
def good (d : S95) : Prop := d.f2.length ≤ 20 ∧ ∀ r ∈ d.f2, r.length ≤ 70
theorem rd_at (L : List S95) (i : Nat) (h : i < L.length) : rd_T95 L (i : Int) = L[i] := by
  simp [rd_T95, List.getD_eq_getElem?_getD, List.getElem?_eq_getElem h]
theorem rd_row (L : List (List Int)) (i : Nat) (h : i < L.length) : rd_L1 L (i : Int) = L[i] := by
  simp [rd_L1, List.getD_eq_getElem?_getD, List.getElem?_eq_getElem h]
def GP (L : List S95) (i : Nat) (o : Option Bool) : Prop := ∃ r, o = some r ∧ (r = false → L.length ≤ 40 ∧ ∀ q, i ≤ q → (h : q < L.length) → good L[q])
theorem great_l1 (L : List S95) (i : Nat) (hi : i < L.length) (hi40 : i < 40) (h20 : L[i].f2.length ≤ 20) (F : Nat) (hl0 : ∀ k, F ≤ k → GP L (i + 1) (rifflelaw16_Great.l0 k L ((i + 1 : Nat) : Int))) :
    ∀ (e k j : Nat), e + j = L[i].f2.length → F + e < k → (∀ r ∈ L[i].f2.take j, r.length ≤ 70) → GP L i (rifflelaw16_Great.l1 k L (i : Int) (j : Int))
  | e, 0, j, _, hk, _ => by omega
  | 0, k + 1, j, hj, hk, hr => by
    unfold rifflelaw16_Great.l1
    rw [if_pos (by omega), if_pos (by omega), rd_at L i hi, if_neg (by omega)]
    have e3 : wrap64 ((i : Int) + 1) = ((i + 1 : Nat) : Int) := by unfold wrap64; omega
    rw [e3]
    obtain ⟨r, hr1, hr2⟩ := hl0 k (by omega)
    refine ⟨r, hr1, fun hf => ⟨(hr2 hf).1, fun q hq hql => ?_⟩⟩
    rcases Nat.lt_or_ge i q with h | h
    · exact (hr2 hf).2 q (by omega) hql
    · obtain rfl : i = q := by omega
      exact ⟨h20, by rwa [List.take_of_length_le (by omega)] at hr⟩
  | e + 1, k + 1, j, hj, hk, hr => by
    unfold rifflelaw16_Great.l1
    have hjl : j < L[i].f2.length := by omega
    rw [if_pos (by omega), if_pos (by omega), rd_at L i hi, if_pos (by omega), if_pos (by omega), rd_row _ j hjl]
    have e3 : wrap64 ((j : Int) + 1) = ((j + 1 : Nat) : Int) := by unfold wrap64; omega
    by_cases h70 : L[i].f2[j].length ≤ 70
    · rw [if_neg (by omega), e3]
      exact great_l1 L i hi hi40 h20 F hl0 e k (j + 1) (by omega) (by omega) (fun r hr' => by
        rw [List.take_succ_eq_append_getElem hjl] at hr'
        rcases List.mem_append.1 hr' with h | h
        · exact hr r h
        · rw [List.mem_singleton.1 h]; exact h70)
    · rw [if_pos (by omega)]
      exact ⟨true, rfl, fun h => by cases h⟩
theorem great_l0 (L : List S95) : ∀ (d i k : Nat), i + d = 40 → i ≤ L.length → 30 * d + 5 < k → GP L i (rifflelaw16_Great.l0 k L (i : Int))
  | d, i, 0, _, _, hk => by omega
  | d, i, 1, _, _, hk => by omega
  | 0, i, k + 2, hd, hi, hk => by
    have hend : GP L i (rifflelaw16_Great.j1 (k + 1) L (i : Int) false) := by
      unfold rifflelaw16_Great.j1
      rw [if_neg (by decide)]
      refine ⟨_, rfl, fun h => ?_⟩
      have : ¬ ((L.length : Int) > 40) := by simpa using h
      exact ⟨by omega, fun q hq hql => by omega⟩
    unfold rifflelaw16_Great.l0
    by_cases h : i < L.length
    · rw [if_pos (by omega), show (decide ((i : Int) < 40)) = false by simpa using (by omega : ¬ ((i : Int) < 40))]
      exact hend
    · rw [if_neg (by omega)]
      exact hend
  | d + 1, i, k + 2, hd, hi, hk => by
    unfold rifflelaw16_Great.l0
    by_cases h : i < L.length
    · rw [if_pos (by omega), show (decide ((i : Int) < 40)) = true by simpa using (by omega : ((i : Int) < 40))]
      unfold rifflelaw16_Great.j1
      rw [if_pos rfl, if_pos (by omega), if_pos (by omega), rd_at L i h]
      by_cases h20 : L[i].f2.length ≤ 20
      · rw [if_neg (by omega)]
        exact great_l1 L i h (by omega) h20 (30 * d + 6) (fun k hk => great_l0 L d (i + 1) k (by omega) (by omega) (by omega)) L[i].f2.length k 0 (by omega) (by omega) (by simp)
      · rw [if_pos (by omega)]
        exact ⟨true, rfl, fun h => by cases h⟩
    · rw [if_neg (by omega)]
      unfold rifflelaw16_Great.j1
      rw [if_neg (by decide)]
      refine ⟨_, rfl, fun h => ?_⟩
      have : ¬ ((L.length : Int) > 40) := by simpa using h
      exact ⟨by omega, fun q hq hql => by omega⟩
theorem great_any (L : List S95) : ∃ r, rifflelaw16_Great.f 2000 L = some r ∧ (r = false → L.length ≤ 40 ∧ ∀ d ∈ L, good d) := by
  obtain ⟨r, h1, h2⟩ := great_l0 L 40 0 2000 (by omega) (by omega) (by omega)
  refine ⟨r, h1, fun h => ⟨(h2 h).1, fun d hd => ?_⟩⟩
  obtain ⟨q, hq, rfl⟩ := List.mem_iff_getElem.1 hd
  exact (h2 h).2 q (by omega) hq
theorem same_l0 (L : List S142) (hb : L.length ≤ 1000000) (hr : ∀ d ∈ L, d.f2.length ≤ 1000000) : ∀ (d k i : Nat), i + d = L.length → d + 1000002 < k → riffleref16_Same.l0 k L L (i : Int) = some true
  | d, 0, i, _, hk => by omega
  | 0, k + 1, i, hi, hk => by
    unfold riffleref16_Same.l0
    rw [if_neg (by omega)]
  | d + 1, k + 1, i, hi, hk => by
    unfold riffleref16_Same.l0
    have hil : i < L.length := by omega
    have e1 : rd_T142 L (i : Int) = L[i] := by simp [rd_T142, List.getD_eq_getElem?_getD, List.getElem?_eq_getElem hil]
    have e3 : wrap64 ((i : Int) + 1) = ((i + 1 : Nat) : Int) := by unfold wrap64; omega
    have hn : riffleref03_Nums.f k L[i].f2 L[i].f2 = some true := by
      have h := hr L[i] (List.getElem_mem hil)
      unfold riffleref03_Nums.f
      rw [if_pos rfl]
      have := nums_l0 L[i].f2 L[i].f2 rfl h k 0 (by omega) (by omega) rfl
      simpa using this
    rw [if_pos (by omega), if_pos (by omega), if_pos (by omega), e1, if_pos rfl, if_pos rfl, hn, e3]
    simp only [Option.bind_some, if_true]
    exact same_l0 L hb hr d k (i + 1) (by omega) (by omega)
theorem same_pure (L : List S142) (hb : L.length ≤ 1000000) (hr : ∀ d ∈ L, d.f2.length ≤ 1000000) : riffleref16_Same.f 3000000 L L = some true := by
  unfold riffleref16_Same.f
  rw [if_pos rfl]
  have := same_l0 L hb hr L.length 3000000 0 (by omega) (by omega)
  simpa using this
/-- how many are forgotten behind Forget -/
def fgt (n F : Nat) (b : Int) : Nat := if b > F then min b.toNat n else F
/-- Set: all rows, the deltas, the code -/
def setD (F : Nat) (w : Int) (X : List (List Int)) (o : Int) (rows : List (List Int)) : List (List Int) × List S142 × Int :=
  if (F : Int) ≤ o ∧ o ≤ X.length then (if rows.all (fun r => decide ((r.length : Int) = w)) = true then (X.take o.toNat ++ rows, chg 0 o.toNat X (X.take o.toNat ++ rows), 0) else (X, [], 3)) else (X, [], 1)
def stepTD (w : Int) (s : List (List Int) × Nat) (d : S95) : List (List Int) × Nat := if d.f0 = true then (s.1, fgt s.1.length s.2 d.f1) else ((setD s.2 w s.1 d.f1 d.f2).1, s.2)
/-- what may be: so many rows, all of the width and no longer than 70, the first ones forgotten -/
def okT (n : Nat) (w : Int) (s : List (List Int) × Nat) : Prop := s.1.length ≤ n ∧ s.2 ≤ s.1.length ∧ (∀ r ∈ s.1, (r.length : Int) = w) ∧ ∀ r ∈ s.1, r.length ≤ 70
theorem okT_nil (w : Int) : okT 0 w ([], 0) := ⟨by simp, by simp, by simp, by simp⟩
theorem okT_set {n : Nat} {w : Int} {X : List (List Int)} {F : Nat} (h : okT n w (X, F)) (o : Int) (rows : List (List Int)) (hl : rows.length ≤ 20) (hr : ∀ r ∈ rows, r.length ≤ 70) : okT (n + 20) w ((setD F w X o rows).1, F) := by
  obtain ⟨h1, h2, h3, h4⟩ := h
  unfold setD
  split
  · split
    · rename_i hin hall
      simp only at *
      have ht : (X.take o.toNat).length = o.toNat := by rw [List.length_take]; omega
      refine ⟨by simp only [List.length_append, ht]; omega, by simp only [List.length_append, ht]; omega, fun r hr' => ?_, fun r hr' => ?_⟩
      · rcases List.mem_append.1 hr' with h | h
        · exact h3 r (List.mem_of_mem_take h)
        · have := List.all_eq_true.1 hall r h; simpa using this
      · rcases List.mem_append.1 hr' with h | h
        · exact h4 r (List.mem_of_mem_take h)
        · exact hr r h
    · exact ⟨by simp only at *; omega, h2, h3, h4⟩
  · exact ⟨by simp only at *; omega, h2, h3, h4⟩
theorem okT_step {n : Nat} {w : Int} {s : List (List Int) × Nat} (h : okT n w s) (d : S95) (hd : good d) : okT (n + 20) w (stepTD w s d) := by
  unfold stepTD
  split
  · obtain ⟨h1, h2, h3, h4⟩ := h
    refine ⟨by simp only; omega, ?_, h3, h4⟩
    simp only [fgt]
    split <;> omega
  · exact okT_set (X := s.1) (F := s.2) h d.f1 d.f2 hd.1 hd.2
theorem ups_rows {f : Nat → List S142} {B : Nat} (hf : ∀ i, ∀ x ∈ f i, x.f2.length ≤ B) (a : Nat) : ∀ n, ∀ x ∈ ups f a n, x.f2.length ≤ B
  | 0, x, hx => by simp [ups] at hx
  | n + 1, x, hx => by
    simp only [ups] at hx
    rcases List.mem_append.1 hx with h | h
    · exact ups_rows hf a n x h
    · exact hf _ x h
theorem downs_rows (B : Nat) (h : Int) : ∀ n, ∀ x ∈ downs h n, x.f2.length ≤ B
  | 0, x, hx => by simp [downs] at hx
  | n + 1, x, hx => by
    simp only [downs] at hx
    rcases List.mem_append.1 hx with h' | h'
    · exact downs_rows B h n x h'
    · rw [List.mem_singleton.1 h']; simp
theorem chg_le (o : Int) (a : Nat) (was is : List (List Int)) : (chg o a was is).length ≤ was.length + was.length + is.length := by
  unfold chg
  have h1 := ups_le _ (repl_le o was is) a (min was.length is.length - a)
  have h2 := downs_le (o + was.length) (was.length - is.length)
  have h3 := ups_le _ (apnd_le o is) was.length (is.length - was.length)
  rw [List.length_append, List.length_append]
  omega
theorem getD_rows {B : Nat} (is : List (List Int)) (h : ∀ r ∈ is, r.length ≤ B) (i : Nat) : (is.getD i []).length ≤ B := by
  rw [List.getD_eq_getElem?_getD]
  rcases hi : is[i]? with _ | r
  · simp
  · exact h r (List.mem_of_getElem? hi)
theorem chg_rows {B : Nat} (o : Int) (a : Nat) (was is : List (List Int)) (h : ∀ r ∈ is, r.length ≤ B) : ∀ x ∈ chg o a was is, x.f2.length ≤ B := by
  intro x hx
  unfold chg at hx
  rcases List.mem_append.1 hx with hx | hx
  · rcases List.mem_append.1 hx with hx | hx
    · refine ups_rows (fun i x hx => ?_) _ _ x hx
      unfold repl at hx
      split at hx
      · simp at hx
      · rw [List.mem_singleton.1 hx]; exact getD_rows is h i
    · exact downs_rows B _ _ x hx
  · refine ups_rows (fun i x hx => ?_) _ _ x hx
    unfold apnd at hx
    rw [List.mem_singleton.1 hx]; exact getD_rows is h i
end Go.TP
