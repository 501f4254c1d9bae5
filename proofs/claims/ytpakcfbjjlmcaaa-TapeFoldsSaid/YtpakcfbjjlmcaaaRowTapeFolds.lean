/- TapeFolds: whatever is set from whatever places on, who does what the deltas say has all rows of the tape, and set again as it is there is none: the law answers true. No condition beyond the row's own. -/
import Derived.Test.YtpakcfbjjlmcaaaRows
import Derived.Test.YtpakcfbjjlmcaaaFacts
import Derived.Test.YtpakcfbjjlmcaaaTapeFolds
import Derived.Test.YtpakcfbjjlmcaaaOpen
import Derived.Test.YtpakcfbjjlmcaaaOpen2
import Derived.WalkKit
import Derived.ProofKit
import Derived.OpenShut
import Derived.ShutString
import Derived.ChangeOld
import Derived.Below
import Derived.SizedLaws
set_option linter.unusedVariables false
set_option linter.unusedSimpArgs false
namespace Go.Proofs.Ytpakcfbjjlmcaaa.tapeFolds
open Go.ChangeShapes Go.WideShapes Go.ChangeAt Go.RowKit Go.RK Go.Proofs.YtpakcfbjjlmcaaaW.PrintWords
open Go.ChangeMaps (open_string shut_string)
set_option maxRecDepth 100000 in
theorem lifted (os : Os) (started : os.Started) (H : Type) (enc : TypeId × Value → H) :
    ReturnsInHanded {} Try.checked os 12 .any (Rows.tapeFoldsSpec.pre6 enc Try.prog Try.f12 Rows.tapeFoldsRow.domain false) (Rows.tapeFoldsSpec.post enc Try.prog Try.f12 false true false false) := by
  refine returnsInHanded_of_change_sized (C := Try.checked) Facts.own started (by kernel_rfl) Try.func12
    (ChangeSpec.witness6 (enc := enc) (C := Try.checked) false ⟨#[], #[.slice none 0 0], []⟩ 8 (by kernel_rfl) (by kernel_rfl) (by kernel_rfl) (by kernel_rfl)) ?_
  intro W base args ds gs before hval0 hW hcnd hsz0 _
  have hval : ∀ (j : Nat) t v, Try.f12.params[j]? = some t → args[j]? = some v → Value.okWide Try.prog W .any base t v := hval0
  have hW' := hW
  obtain ⟨p, q, hA0, hV, rfl, hfz, hnd⟩ := hW
  have hA : DataW.TrodAll enc Try.prog W 0 (fun _ => true) true Try.f12.params.toList args.toList ds p := hA0
  rw [Try.params12] at hA hval
  obtain ⟨v0, vs0, d0, ds0, p0, q0, hargs, rfl, rfl, h0, r0⟩ := trodAll_cons hA
  obtain ⟨rfl, rfl, rfl⟩ := trodAll_nil r0
  obtain rfl : args = #[v0] := by cases args; simp_all
  obtain ⟨rfl, rfl⟩ := trodVars_none hV
  have k0 := h0
  have lt0 : ∀ x ∈ p0, x.block < W.heap.size := by obtain ⟨m, hm⟩ := k0; exact DataW.trod_lt m _ _ _ hm
  obtain ⟨a0, len0, cap0, rfl⟩ := okWide_slice Try.underlying89 (hval 0 89 v0 rfl rfl)
  obtain ⟨fuel0, hf0⟩ := h0
  obtain ⟨x0, hk0, hw0⟩ := (opens_slice Try.underlying89 (by kernel_rfl) (opens_iso (opens_struct3 Try.underlying95 rfl rfl rfl (by kernel_rfl) (by kernel_rfl) (by kernel_rfl) (by kernel_rfl) (opens_bool Try.underlying4) (opens_i64 Try.underlying3) (opens_slice Try.underlying38 (by kernel_rfl) (opens_slice Try.underlying22 (by kernel_rfl) (opens_i64 Try.underlying2)))) (fun x : Go.Proofs.Ytpakcfbjjlmcaaa.PAll.S95 => (x.f0, x.f1, x.f2)) (fun p => ⟨p.1, p.2.1, p.2.2⟩) (fun _ => rfl))) fuel0 _ _ hf0
  obtain ⟨rfl, hl0, hC0⟩ := slice_K hk0
  clear hA0 hval0 hsz0
  refine (Tape.folds_walk W a0 cap0 x0 hl0 hC0 hw0).mono fun e W' ⟨he, bel⟩ => ?_
  subst he
  exact ⟨_, rfl, _, _, _, [], _, [], hW', trodAll_mk1 (shut_bool Try.underlying4 _), (trodAll_cons_mk (Below.trod Facts.laidOut (by kernel_rfl) (of_decide_eq_true (by kernel_rfl)) k0 bel lt0) trodAll_mk0), rfl, bel.frame _, fun h => by cases h⟩
set_option maxRecDepth 1000000 in
set_option maxHeartbeats 4000000 in
theorem closed : joinedFacts Try.prog 12 Try.f12 Rows.tapeFoldsSpec Rows.tapeFoldsRow = true := by
  unfold joinedFacts
  rw [Facts.enters, Facts.lifts, Facts.made, Facts.laidOut, Facts.rowed, Facts.heard]
  repeat' (with_reducible refine Bool.and_eq_true_iff.mpr ⟨?_, ?_⟩)
  all_goals (as_aux_lemma => kernel_rfl)
theorem over : Rows.tapeFoldsRow.holds Try.pinned (OpenSpec.ofChange Rows.tapeFoldsSpec) :=
  OpenClaim.holds_of_wide 12 Try.f12 rfl rfl rfl rfl rfl rfl rfl ⟨rfl, rfl, rfl, rfl, rfl⟩ rfl rfl rfl rfl rfl (by as_aux_lemma => kernel_rfl) Try.func12 closed
    (of_decide_eq_true (by as_aux_lemma => kernel_rfl)) (by unfold Func.isWrapper; first | (rw [if_pos (by decide +kernel)]; kernel_rfl) | (rw [if_neg (by decide +kernel)]; exact ⟨rfl, rfl⟩))
    (fun os started H enc _ => lifted os started H enc)
theorem proved : Rows.TapeFoldsSaid := over
#print axioms proved
end Go.Proofs.Ytpakcfbjjlmcaaa.tapeFolds
namespace Go.Proofs.Ytpakcfbjjlmcaaa
/-- The row, under a short name, for the claim. -/
theorem tapeFolds_holds : Rows.TapeFoldsSaid := tapeFolds.proved
end Go.Proofs.Ytpakcfbjjlmcaaa
