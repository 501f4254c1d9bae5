/- The ring's example is as the document says. No condition. -/
import Derived.Test.YtpakcfbjjlmcaaaRing2
set_option linter.unusedVariables false
set_option linter.unusedSimpArgs false
set_option maxHeartbeats 400000
set_option maxRecDepth 100000
namespace Go.Proofs.Ytpakcfbjjlmcaaa.Ring
open Go.RowKit Go.RK Go.RL Go.Proofs.YtpakcfbjjlmcaaaW.PrintWords

theorem lives_ok (w : World) : Calls Try.prog 15 #[] w fun e w' => e = .returned (.bool true) ∧ Below w.heap.size w w' := by
  go_enter Try.func15, Try.ntmps15
  go_wp2_with fail
  refine (new_ring (by omega) (by omega) (by omega) (by omega)).mono ?_
  rintro e w1 ⟨rfl, hb1, h1⟩
  have H1 := Aside0.mk h1
  have HB1 := Aside0.mk hb1
  clear h1 hb1
  go_wp2_with fail
  refine (push_ok _ 1 [1] (H1.out.fr (S := fun _ => False) ((Fr.refl _ _).alloc _) (fun h => h) (fun h => h)) (lit_reads _ _ _ _) (by simp) (by simp)).mono ?_
  rintro e w2 ⟨rfl, h2, f2⟩
  have H2 := Aside0.mk h2
  have F2 := Aside0.mk f2
  clear h2 f2
  go_wp2_with fail
  refine (push_ok _ 1 [2] (H2.out.fr (S := fun _ => False) ((Fr.refl _ _).alloc _) (fun h => h) (fun h => h)) (lit_reads _ _ _ _) (by simp) (by simp)).mono ?_
  rintro e w3 ⟨rfl, h3, f3⟩
  have H3 := Aside0.mk h3
  have F3 := Aside0.mk f3
  clear h3 f3
  go_wp2_with fail
  refine (push_full _ 1 [3] (H3.out.fr (S := fun _ => False) ((Fr.refl _ _).alloc _) (fun h => h) (fun h => h)) (by simp) (by simp)).mono ?_
  rintro e w4 ⟨rfl, n, rfl⟩
  go_wp2_with fail
  refine (pop_ok [1] [[2]] (H3.out.fr (S := fun _ => False) (((Fr.refl _ _).alloc _).drewN _) (fun h => h) (fun h => h))).mono ?_
  rintro e w5 ⟨v, rfl, hown, _, f5⟩
  obtain ⟨A, c, rfl, hc, hr, _⟩ := own_rd hown
  obtain ⟨ad, x, rfl, hx, hcell⟩ := rd_at hr 0 (by simp)
  obtain rfl : x = 1 := by simpa using hx.symm
  rw [add_zero_ ad] at hcell
  have F5 := Aside0.mk f5
  clear hown hr hx f5
  go_wp2
  go_ret
  refine ⟨rfl, ?_⟩
  have hS : ∀ k, k < w.heap.size → ¬ (k = w.heap.size + 1 ∨ k = w.heap.size) := fun k hk => by omega
  have b := below_fr (below_al HB1.out (Nat.le_refl _) _) (Nat.le_refl _) F2.out hS
  have b := below_fr (below_al b (Nat.le_refl _) _) (Nat.le_refl _) F3.out hS
  have b := pw_below_drewN (below_al b (Nat.le_refl _) (.cells #[.int .i64 3] 2)) n
  exact below_fr b (Nat.le_refl _) F5.out (fun k hk => by omega)

end Go.Proofs.Ytpakcfbjjlmcaaa.Ring
