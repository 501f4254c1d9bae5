/- Pieces of a row that is read: the cut as an equation on the run, and what the piece reads as. No condition but the bounds. -/
import Derived.Test.YtpakcfbjjlmcaaaSep
import Derived.Laws.Slices
set_option linter.unusedVariables false
set_option linter.unusedSimpArgs false
namespace Go.RK
open Go.RowKit Go.Proofs.YtpakcfbjjlmcaaaW.PrintWords
variable {P : Program} {α : Type} {d : Kd α}
theorem elem_of {t e : TypeId} (ht : P.underlying t = some (.slice e)) : P.elem t = e := by simp [Program.elem, ht]
theorem cut_drop (t e : TypeId) {i : TypeInfo} (ht : P.underlying t = some (.slice e)) (hi : P.info? e = some i) (hsz : i.size = d.sz) (A : Option Addr) (c : Nat) (xs : List α) (lo : Int) (h0 : 0 ≤ lo) (h1 : lo ≤ xs.length) (hc : xs.length ≤ c) :
    ∃ A', (∀ W : World, (Instr.slice t (.slice A xs.length c) (some (.int .i64 lo)) none none).run P W = .ok (.slice A' (xs.drop lo.toNat).length (c - lo.toNat)) W) ∧ ∀ (W : World) (M : Nat → Prop), (HP.val d (.slice A xs.length c) xs).at_ W M → (HP.val d (.slice A' (xs.drop lo.toNat).length (c - lo.toNat)) (xs.drop lo.toNat)).at_ W M := by
  have hu : P.underlying t = some (.slice (P.elem t)) := by rw [elem_of ht]; exact ht
  refine ⟨if c = lo.toNat then A else A.map (·.add (lo.toNat * d.sz)), fun W => ?_, fun W M h => ?_⟩
  · rw [run_slice_l W t A xs.length c hu .i64 lo h0 (by omega), elem_of ht]
    simp [sizeOf, typeInfo, hi, hsz, sliced, Result.andThen]
  · refine ⟨_, _, rfl, by rw [List.length_drop]; omega, Kd.F_cut (Kd.V_at (e := 0) (base := 0) h).2.2 (by omega) hc⟩
theorem cut_take (t e : TypeId) {i : TypeInfo} (ht : P.underlying t = some (.slice e)) (hi : P.info? e = some i) (A : Option Addr) (c : Nat) (xs : List α) (hi' : Int) (h0 : 0 ≤ hi') (h1 : hi' ≤ xs.length) (hc : xs.length ≤ c) :
    (∀ W : World, (Instr.slice t (.slice A xs.length c) none (some (.int .i64 hi')) none).run P W = .ok (.slice A (xs.take hi'.toNat).length c) W) ∧ ∀ (W : World) (M : Nat → Prop), (HP.val d (.slice A xs.length c) xs).at_ W M → (HP.val d (.slice A (xs.take hi'.toNat).length c) (xs.take hi'.toNat)).at_ W M := by
  have hu : P.underlying t = some (.slice (P.elem t)) := by rw [elem_of ht]; exact ht
  have hl : (xs.take hi'.toNat).length = hi'.toNat := by rw [List.length_take]; omega
  refine ⟨fun W => ?_, fun W M h => ?_⟩
  · rw [run_slice_h W t A xs.length c hu .i64 hi' h0 (by omega), elem_of ht, hl]
    cases A <;> simp [sizeOf, typeInfo, hi, sliced, Result.andThen, Addr.add]
  · exact ⟨_, _, rfl, by omega, Kd.F_take (Kd.V_at (e := 0) (base := 0) h).2.2 (by omega)⟩
/-- the row of '[]T{}' -/
theorem raw_zero {W : World} {M : Nat → Prop} {base e size g : Nat} (h : (HP.blk g (.cells #[] e (0, 0))).at_ W M) (hb : base ≤ g) : (HP.raw base e size (.slice (some ⟨g, 0, none⟩) 0 0) 0 []).at_ W M := by
  refine ⟨⟨by simp, .inr ⟨g, 0, #[], rfl, hb, h.1, by simp, by simp [maxLen], by simp, by simp⟩⟩, fun k hk => ?_⟩
  have : g = k := by simpa [Value.ownBlock] using hk
  rw [← this]
  exact h.2
end Go.RK
