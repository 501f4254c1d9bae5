/- slices.Clone at scalars. No condition but the bound. -/
import Derived.Test.YtpakcfbjjlmcaaaCut
import Derived.Test.YtpakcfbjjlmcaaaProg
import Derived.Test.YtpakcfbjjlmcaaaOpen
set_option linter.unusedVariables false
set_option linter.unusedSimpArgs false
set_option maxHeartbeats 400000
set_option maxRecDepth 100000
namespace Go.Proofs.Ytpakcfbjjlmcaaa.Clones
open Go.RowKit Go.RK Go.Proofs.YtpakcfbjjlmcaaaW.PrintWords
theorem infoS : (Try.prog.info? 9).map (fun i => (i.zero, i.size, i.bytes)) = some (some (.string ⟨#[]⟩), 1, 16) := by kernel_rfl
theorem infoI : (Try.prog.info? 2).map (fun i => (i.zero, i.size, i.bytes)) = some (some (.int .i64 0), 1, 8) := by kernel_rfl
variable {W : World} {M Z : Nat → Prop}
theorem strings (A : Option Addr) (c : Nat) (xs : List ByteArray) (hr : (Kd.string).C W A xs.length xs) (hb : xs.length ≤ 1000000) :
    Calls Try.prog 79 #[.slice A xs.length c] W fun e w' => ∃ v, e = .returned v ∧ Below W.heap.size W w' ∧ (HP.raw W.heap.size 9 1 v xs.length (xs.map (Value.string))).at_ w' (fun k => W.heap.size ≤ k) ∧ (A = none → v = .slice none 0 0) := by
  have heq := fun w => Lib.run_eql_slice_nil (P := Try.prog) w 57 9 A xs.length c 0 0 Try.underlying57
  rcases A with _ | ad
  · obtain rfl : xs = [] := by
      rcases xs with _ | ⟨x, xs⟩
      · rfl
      · obtain ⟨_, h, _⟩ := hr.2.2 (by simp)
        cases h
    simp only [Option.isNone_none, List.length_nil] at heq
    clear hr hb
    go_enter Try.func79, Try.ntmps79
    go_wp2
    go_ret
    exact ⟨_, rfl, Below.refl _ _, HP.raw_nil _ _ _ _ _, fun _ => rfl⟩
  · simp only [Option.isNone_some] at heq
    have H := Aside0.mk ((Cx.startz (W := W) (Φ := HP.tt) (Z := fun _ => False) trivial).alloc (.cells #[] 9 (0, 0)))
    have H1 := Aside0.mk (H.out.impi (Ψ' := HP.raw W.heap.size 9 1 (.slice (some ⟨W.heap.size, 0, none⟩) 0 0) 0 []) 0 rfl (fun M hM => raw_zero hM (Nat.le_refl _)))
    have hrd : (Kd.string).C (W.alloc (.cells #[] 9)) (some ad) xs.length xs := Kd.C_below hr (below_alloc (Below.refl _ _) _)
    obtain ⟨v1, w1, hrun, H2⟩ := H1.out.app (P := Try.prog) 0 57 57 9 (.string ⟨#[]⟩) 1 16 rfl (Nat.le_refl _) Try.underlying57 infoS rfl (by omega) (by omega) (some ad) xs.length c (xs.map (Value.string)) (by simp) (fun hp => Cx.src_of (enc := Value.string) (h1 := fun _ => rfl) hrd hp) (fun u hu => by obtain ⟨q, _, rfl⟩ := List.mem_map.1 hu; rfl) (by omega)
    simp only [Nat.zero_add, List.nil_append] at H2
    obtain ⟨A1, c1, rfl, _⟩ := HP.raw_form (H2.get 0 rfl).choose_spec
    replace hrun := Aside0.mk hrun
    have H4 := Aside0.mk ((H2.freezeRow 0 rfl (Nat.le_refl _)).done0)
    clear H H1 H2 hrd hr hb
    go_enter Try.func79, Try.ntmps79
    go_wp2_with (refine wpList_app rfl rfl rfl rfl hrun.out ?_)
    go_ret
    exact ⟨_, rfl, H4.out.1, HP.mono H4.out.2.2 (fun k hk _ => by rcases hk with hk | hk; exact hk.elim; exact hk), fun h => by cases h⟩
theorem nums (A : Option Addr) (c : Nat) (xs : List Int) (hr : (Kd.int .i64).C W A xs.length xs) (hb : xs.length ≤ 1000000) :
    Calls Try.prog 74 #[.slice A xs.length c] W fun e w' => ∃ v, e = .returned v ∧ Below W.heap.size W w' ∧ (HP.raw W.heap.size 2 1 v xs.length (xs.map (Value.int .i64))).at_ w' (fun k => W.heap.size ≤ k) ∧ (A = none → v = .slice none 0 0) := by
  have heq := fun w => Lib.run_eql_slice_nil (P := Try.prog) w 22 2 A xs.length c 0 0 Try.underlying22
  rcases A with _ | ad
  · obtain rfl : xs = [] := by
      rcases xs with _ | ⟨x, xs⟩
      · rfl
      · obtain ⟨_, h, _⟩ := hr.2.2 (by simp)
        cases h
    simp only [Option.isNone_none, List.length_nil] at heq
    clear hr hb
    go_enter Try.func74, Try.ntmps74
    go_wp2
    go_ret
    exact ⟨_, rfl, Below.refl _ _, HP.raw_nil _ _ _ _ _, fun _ => rfl⟩
  · simp only [Option.isNone_some] at heq
    have H := Aside0.mk ((Cx.startz (W := W) (Φ := HP.tt) (Z := fun _ => False) trivial).alloc (.cells #[] 2 (0, 0)))
    have H1 := Aside0.mk (H.out.impi (Ψ' := HP.raw W.heap.size 2 1 (.slice (some ⟨W.heap.size, 0, none⟩) 0 0) 0 []) 0 rfl (fun M hM => raw_zero hM (Nat.le_refl _)))
    have hrd : (Kd.int .i64).C (W.alloc (.cells #[] 2)) (some ad) xs.length xs := Kd.C_below hr (below_alloc (Below.refl _ _) _)
    obtain ⟨v1, w1, hrun, H2⟩ := H1.out.app (P := Try.prog) 0 22 22 2 (.int .i64 0) 1 8 rfl (Nat.le_refl _) Try.underlying22 infoI rfl (by omega) (by omega) (some ad) xs.length c (xs.map (Value.int .i64)) (by simp) (fun hp => Cx.src_of (enc := Value.int .i64) (h1 := fun _ => rfl) hrd hp) (fun u hu => by obtain ⟨q, _, rfl⟩ := List.mem_map.1 hu; rfl) (by omega)
    simp only [Nat.zero_add, List.nil_append] at H2
    obtain ⟨A1, c1, rfl, _⟩ := HP.raw_form (H2.get 0 rfl).choose_spec
    replace hrun := Aside0.mk hrun
    have H4 := Aside0.mk ((H2.freezeRow 0 rfl (Nat.le_refl _)).done0)
    clear H H1 H2 hrd hr hb
    go_enter Try.func74, Try.ntmps74
    go_wp2_with (refine wpList_app rfl rfl rfl rfl hrun.out ?_)
    go_ret
    exact ⟨_, rfl, H4.out.1, HP.mono H4.out.2.2 (fun k hk _ => by rcases hk with hk | hk; exact hk.elim; exact hk), fun h => by cases h⟩
end Go.Proofs.Ytpakcfbjjlmcaaa.Clones
