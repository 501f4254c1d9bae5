/- DequeSlides: in a window that moves on over any list the best is as good as each number there and one of them, and those kept begin with it and rise or fall: the law answers true. No condition beyond the row's own. -/
import Derived.Test.YtpakcfbjjlmcaaaRows
import Derived.Test.YtpakcfbjjlmcaaaFacts
import Derived.Test.YtpakcfbjjlmcaaaDequeSlides
import Derived.Test.YtpakcfbjjlmcaaaOpen
import Derived.Test.YtpakcfbjjlmcaaaOpen2
import Derived.WalkKit
import Derived.ProofKit
import Derived.OpenShut
import Derived.ShutString
import Derived.ChangeOld
import Derived.Below
import Derived.SizedLaws
set_option linter.unusedVariables false
set_option linter.unusedSimpArgs false
namespace Go.Proofs.Ytpakcfbjjlmcaaa.dequeSlides
open Go.ChangeShapes Go.WideShapes Go.ChangeAt Go.RowKit Go.RK Go.Proofs.YtpakcfbjjlmcaaaW.PrintWords
open Go.ChangeMaps (open_string shut_string)
set_option maxRecDepth 100000 in
theorem lifted (os : Os) (started : os.Started) (H : Type) (enc : TypeId × Value → H) :
    ReturnsInHanded {} Try.checked os 10 .any (Rows.dequeSlidesSpec.pre6 enc Try.prog Try.f10 Rows.dequeSlidesRow.domain false) (Rows.dequeSlidesSpec.post enc Try.prog Try.f10 false true false false) := by
  refine returnsInHanded_of_change_sized (C := Try.checked) Facts.own started (by kernel_rfl) Try.func10
    (ChangeSpec.witness6 (enc := enc) (C := Try.checked) false ⟨#[], #[.slice none 0 0, .int .u64 0, .bool false], []⟩ 8 (by kernel_rfl) (by kernel_rfl) (by kernel_rfl) (by kernel_rfl)) ?_
  intro W base args ds gs before hval0 hW hcnd hsz0 _
  have hval : ∀ (j : Nat) t v, Try.f10.params[j]? = some t → args[j]? = some v → Value.okWide Try.prog W .any base t v := hval0
  have hW' := hW
  obtain ⟨p, q, hA0, hV, rfl, hfz, hnd⟩ := hW
  have hA : DataW.TrodAll enc Try.prog W 0 (fun _ => true) true Try.f10.params.toList args.toList ds p := hA0
  rw [Try.params10] at hA hval
  obtain ⟨v0, vs0, d0, ds0, p0, q0, hargs, rfl, rfl, h0, r0⟩ := trodAll_cons hA
  obtain ⟨v1, vs1, d1, ds1, p1, q1, rfl, rfl, rfl, h1, r1⟩ := trodAll_cons r0
  obtain ⟨v2, vs2, d2, ds2, p2, q2, rfl, rfl, rfl, h2, r2⟩ := trodAll_cons r1
  obtain ⟨rfl, rfl, rfl⟩ := trodAll_nil r2
  obtain rfl : args = #[v0, v1, v2] := by cases args; simp_all
  obtain ⟨rfl, rfl⟩ := trodVars_none hV
  have k0 := h0
  have lt0 : ∀ x ∈ p0, x.block < W.heap.size := by obtain ⟨m, hm⟩ := k0; exact DataW.trod_lt m _ _ _ hm
  obtain ⟨a0, len0, cap0, rfl⟩ := okWide_slice Try.underlying22 (hval 0 22 v0 rfl rfl)
  obtain ⟨fuel0, hf0⟩ := h0
  obtain ⟨x0, hk0, hw0⟩ := (opens_slice Try.underlying22 (by kernel_rfl) (opens_i64 Try.underlying2)) fuel0 _ _ hf0
  obtain ⟨rfl, hl0, hC0⟩ := slice_K hk0
  have k1 := h1
  have lt1 : ∀ x ∈ p1, x.block < W.heap.size := by obtain ⟨m, hm⟩ := k1; exact DataW.trod_lt m _ _ _ hm
  obtain ⟨a1, rfl⟩ := okWide_int Try.underlying23 (hval 1 23 v1 rfl rfl)
  obtain ⟨fuel1, hf1⟩ := h1
  obtain ⟨x1, hk1, hw1⟩ := (opens_int (k := .u64) Try.underlying23) fuel1 _ _ hf1
  obtain rfl := int_K hk1
  have k2 := h2
  have lt2 : ∀ x ∈ p2, x.block < W.heap.size := by obtain ⟨m, hm⟩ := k2; exact DataW.trod_lt m _ _ _ hm
  obtain ⟨a2, rfl⟩ := okWide_bool Try.underlying4 (hval 2 4 v2 rfl rfl)
  obtain ⟨fuel2, hf2⟩ := h2
  obtain ⟨x2, hk2, hw2⟩ := (opens_bool Try.underlying4) fuel2 _ _ hf2
  obtain rfl := bool_K hk2
  clear hA0 hval0 hsz0
  refine (Deque.slides_walk W a0 cap0 x0 hl0 hC0 hw0 a1 hw1 a2).mono fun e W' ⟨he, bel⟩ => ?_
  subst he
  exact ⟨_, rfl, _, _, _, [], _, [], hW', trodAll_mk1 (shut_bool Try.underlying4 _), (trodAll_cons_mk (Below.trod Facts.laidOut (by kernel_rfl) (of_decide_eq_true (by kernel_rfl)) k0 bel lt0) (trodAll_cons_mk (Below.trod Facts.laidOut (by kernel_rfl) (of_decide_eq_true (by kernel_rfl)) k1 bel lt1) (trodAll_cons_mk (Below.trod Facts.laidOut (by kernel_rfl) (of_decide_eq_true (by kernel_rfl)) k2 bel lt2) trodAll_mk0))), rfl, bel.frame _, fun h => by cases h⟩
set_option maxRecDepth 1000000 in
set_option maxHeartbeats 4000000 in
theorem closed : joinedFacts Try.prog 10 Try.f10 Rows.dequeSlidesSpec Rows.dequeSlidesRow = true := by
  unfold joinedFacts
  rw [Facts.enters, Facts.lifts, Facts.made, Facts.laidOut, Facts.rowed, Facts.heard]
  repeat' (with_reducible refine Bool.and_eq_true_iff.mpr ⟨?_, ?_⟩)
  all_goals (as_aux_lemma => kernel_rfl)
theorem over : Rows.dequeSlidesRow.holds Try.pinned (OpenSpec.ofChange Rows.dequeSlidesSpec) :=
  OpenClaim.holds_of_wide 10 Try.f10 rfl rfl rfl rfl rfl rfl rfl ⟨rfl, rfl, rfl, rfl, rfl⟩ rfl rfl rfl rfl rfl (by as_aux_lemma => kernel_rfl) Try.func10 closed
    (of_decide_eq_true (by as_aux_lemma => kernel_rfl)) (by unfold Func.isWrapper; first | (rw [if_pos (by decide +kernel)]; kernel_rfl) | (rw [if_neg (by decide +kernel)]; exact ⟨rfl, rfl⟩))
    (fun os started H enc _ => lifted os started H enc)
theorem proved : Rows.DequeSlidesSaid := over
#print axioms proved
end Go.Proofs.Ytpakcfbjjlmcaaa.dequeSlides
namespace Go.Proofs.Ytpakcfbjjlmcaaa
/-- The row, under a short name, for the claim. -/
theorem dequeSlides_holds : Rows.DequeSlidesSaid := dequeSlides.proved
end Go.Proofs.Ytpakcfbjjlmcaaa
