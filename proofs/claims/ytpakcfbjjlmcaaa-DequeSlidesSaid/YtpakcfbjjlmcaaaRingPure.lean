/- The ring's pure facts: rows are the same as themselves; a list of deeds that is not great. No condition. -/
import Derived.Test.YtpakcfbjjlmcaaaPAllx1
import Derived.Test.YtpakcfbjjlmcaaaPAllx2
set_option linter.unusedVariables false
set_option linter.unusedSimpArgs false
namespace Go.Proofs.Ytpakcfbjjlmcaaa.RPure
open Go.RowKit Go.Proofs.YtpakcfbjjlmcaaaW.PrintWords Go.Proofs.Ytpakcfbjjlmcaaa.PAll
theorem nums_l0 (xs : List Int) (hb : xs.length ≤ 9223372036854775806) (d : Nat) : ∀ (k : Nat) (i : Int), 0 ≤ i → i ≤ xs.length → (xs.length : Int) - i = d → d < k → riffleref03_Nums.l0 k xs xs i = some true := by
  induction d with
  | zero =>
    intro k i h0 h1 hd hk
    obtain ⟨k, rfl⟩ : ∃ m, k = m + 1 := ⟨k - 1, by omega⟩
    simp only [riffleref03_Nums.l0]; rw [if_neg (by omega)]
  | succ d ih =>
    intro k i h0 h1 hd hk
    obtain ⟨k, rfl⟩ : ∃ m, k = m + 1 := ⟨k - 1, by omega⟩
    have hw : wrap64 (i + 1) = i + 1 := by unfold wrap64; omega
    have := ih k (i + 1) (by omega) (by omega) (by omega) (by omega)
    simp only [riffleref03_Nums.l0, if_true]; rw [if_pos (by omega), if_pos (by omega), if_pos (by omega), hw]; exact this
theorem nums_self (xs : List Int) (hb : xs.length ≤ 9223372036854775806) (k : Nat) (hk : xs.length < k) : riffleref03_Nums.f k xs xs = some true := by
  unfold riffleref03_Nums.f
  rw [if_pos rfl]
  exact nums_l0 xs (by omega) xs.length k 0 (by omega) (by omega) (by omega) (by omega)
theorem same_l0 (L : List (List Int)) (hb : L.length ≤ 9223372036854775806) (hx : ∀ x ∈ L, x.length ≤ 100) (d : Nat) : ∀ (k : Nat) (i : Int), 0 ≤ i → i ≤ L.length → (L.length : Int) - i = d → d + 101 < k → riffleref11_Same.l0 k L L i = some true := by
  induction d with
  | zero =>
    intro k i h0 h1 hd hk
    obtain ⟨k, rfl⟩ : ∃ m, k = m + 1 := ⟨k - 1, by omega⟩
    simp only [riffleref11_Same.l0]; rw [if_neg (by omega)]
  | succ d ih =>
    intro k i h0 h1 hd hk
    obtain ⟨k, rfl⟩ : ∃ m, k = m + 1 := ⟨k - 1, by omega⟩
    have hw : wrap64 (i + 1) = i + 1 := by unfold wrap64; omega
    have := ih k (i + 1) (by omega) (by omega) (by omega) (by omega)
    have hl : (rd_L1 L i).length ≤ 100 := by
      unfold rd_L1
      rw [List.getD_eq_getElem?_getD, List.getElem?_eq_getElem (by omega)]
      exact hx _ (List.getElem_mem _)
    simp only [riffleref11_Same.l0]; rw [if_pos (by omega), if_pos (by omega), if_pos (by omega), nums_self _ (by omega) k (by omega)]
    simp only [Option.bind_some, if_true]
    rw [hw]; exact this
theorem same_self (L : List (List Int)) (hb : L.length ≤ 100) (hx : ∀ x ∈ L, x.length ≤ 100) (k : Nat) (hk : 300 < k) : riffleref11_Same.f k L L = some true := by
  unfold riffleref11_Same.f
  rw [if_pos rfl]
  exact same_l0 L (by omega) hx L.length k 0 (by omega) (by omega) (by omega) (by omega)
/-- Great answers; false: few deeds, short rows -/
theorem great_ok (L : List S42) (hb : L.length ≤ 9223372036854775807) (d : Nat) : ∀ (k : Nat) (i : Int), 0 ≤ i → i ≤ L.length → i ≤ 80 → 80 - i = d → 2 * d + 2 < k → (∀ j : Nat, (j : Int) < i → (rd_T42 L (j : Int)).f2.length ≤ 100) →
    ∃ r, rifflelaw11_Great.l0 k L i = some r ∧ (r = false → L.length ≤ 80 ∧ ∀ j : Nat, j < L.length → (rd_T42 L (j : Int)).f2.length ≤ 100) := by
  induction d with
  | zero =>
    intro k i h0 h1 h2 hd hk hj
    obtain ⟨k, rfl⟩ : ∃ m, k = m + 2 := ⟨k - 2, by omega⟩
    obtain rfl : i = 80 := by omega
    refine ⟨decide ((L.length : Int) > 80), ?_, fun hr => ?_⟩
    · by_cases hlt : (80 : Int) < L.length
      · simp only [rifflelaw11_Great.l0, rifflelaw11_Great.j1]; rw [if_pos hlt]; simp
      · simp only [rifflelaw11_Great.l0, rifflelaw11_Great.j1]; rw [if_neg hlt]; simp
    · simp at hr
      exact ⟨by omega, fun j hjl => hj j (by omega)⟩
  | succ d ih =>
    intro k i h0 h1 h2 hd hk hj
    obtain ⟨k, rfl⟩ : ∃ m, k = m + 2 := ⟨k - 2, by omega⟩
    have hw : wrap64 (i + 1) = i + 1 := by unfold wrap64; omega
    by_cases hlt : i < (L.length : Int)
    · by_cases hg : (((rd_T42 L i).f2).length : Int) > 100
      · refine ⟨true, ?_, fun h => by cases h⟩
        simp only [rifflelaw11_Great.l0, rifflelaw11_Great.j1]; rw [if_pos hlt, if_pos (by simp; omega), if_pos (by omega), if_pos hlt, if_pos hg]
      · obtain ⟨r, hr, h⟩ := ih k (i + 1) (by omega) (by omega) (by omega) (by omega) (by omega) (fun j hj' => by
          by_cases e : (j : Int) = i
          · rw [e]; omega
          · exact hj j (by omega))
        refine ⟨r, ?_, h⟩
        simp only [rifflelaw11_Great.l0, rifflelaw11_Great.j1]; rw [if_pos hlt, if_pos (by simp; omega), if_pos (by omega), if_pos hlt, if_neg hg, hw]; exact hr
    · refine ⟨decide ((L.length : Int) > 80), ?_, fun hr => ⟨by omega, fun j hjl => hj j (by omega)⟩⟩
      simp only [rifflelaw11_Great.l0, rifflelaw11_Great.j1]; rw [if_neg hlt]; simp
theorem great_any (L : List S42) (hb : L.length ≤ 9223372036854775807) : ∃ r, rifflelaw11_Great.f 1000 L = some r ∧ (r = false → L.length ≤ 80 ∧ ∀ j : Nat, j < L.length → (rd_T42 L (j : Int)).f2.length ≤ 100) :=
  great_ok L hb 80 1000 0 (by omega) (by omega) (by omega) (by omega) (by omega) (fun j hj => by omega)
theorem may_eq (rows width : Int) : riffleref11_May.f rows width = some (decide (1 ≤ rows ∧ rows ≤ 64 ∧ 0 ≤ width ∧ width ≤ 64)) := by
  unfold riffleref11_May.f
  by_cases h1 : rows ≥ 1
  · by_cases h2 : rows ≤ 64
    · by_cases h3 : width ≥ 0
      · rw [if_pos h1, if_pos h2, if_pos h3]; congr 1; rw [decide_eq_decide]; omega
      · rw [if_pos h1, if_pos h2, if_neg h3, decide_eq_false (by omega)]
    · rw [if_pos h1, if_neg h2, decide_eq_false (by omega)]
  · rw [if_neg h1, decide_eq_false (by omega)]
end Go.Proofs.Ytpakcfbjjlmcaaa.RPure
