/- PClone: what this claim needs of a text of ours. -/
import Derived.Test.YtmfgdgmpblkadaaZCellMakes13
import Derived.Test.YtmfgdgmpblkadaaZCellMakes14
namespace Go.RK
end Go.RK
namespace Go.Proofs.YtmfgdgmpblkadaaW.PrintWords
end Go.Proofs.YtmfgdgmpblkadaaW.PrintWords

set_option linter.unusedVariables false
set_option linter.unusedSimpArgs false
set_option maxHeartbeats 400000
set_option maxRecDepth 100000
namespace Go.Proofs.Ytmfgdgmpblkadaa.PAll
open Go.RowKit Go.RK Go.Proofs.YtmfgdgmpblkadaaW.PrintWords
theorem infoI64 : (Try.prog.info? 2).map (fun i => (i.zero, i.size, i.bytes)) = some (some (.int .i64 0), 1, 8) := by kernel_rfl
theorem infoI : (Try.prog.info? 3).map (fun i => (i.zero, i.size, i.bytes)) = some (some (.int .i64 0), 1, 8) := by kernel_rfl
theorem R_ints {w : World} {base e : Nat} {v : Value} {xs : List Int} (h : w.ownsRow base e 1 v xs.length (I64 xs)) : Kd.R (Kd.int .i64) e w base (fun _ => True) v xs :=
  Kd.R_of_own (enc := Value.int .i64) (h1 := fun _ => rfl) h (fun _ _ => trivial)
theorem reads_ints {w : World} {A : Option Addr} {n : Nat} {xs : List Int} (h : Kd.C (Kd.int .i64) w A n xs) : ReadsInt w .i64 A n xs := Kd.reads_of_C (enc := Value.int .i64) (d := (0 : Int)) (h1 := fun _ => rfl) h
def slices_Clone_int_int.f (l0 : List Int) : Option (List Int) := if l0.length * 8 ≤ 140737488351232 then some l0 else none
theorem slices_Clone_int_int.calls (A0 : Option Addr) (c0 : Nat) (l0 : List Int) (r : List Int) (w : World) (hr0 : Kd.C (Kd.int .i64) w A0 l0.length l0) (hc0 : l0.length ≤ c0) (h : slices_Clone_int_int.f l0 = some r) :
    Calls Try.prog 144 #[.slice A0 l0.length c0] w fun e w' => ∃ v0_ : Value, e = .returned (v0_) ∧ Kd.R (Kd.int .i64) 3 w' w.heap.size (fun _ => True) v0_ r ∧ Below w.heap.size w w' := by
  obtain ⟨hb, rfl⟩ : l0.length * 8 ≤ 140737488351232 ∧ l0 = r := by
    unfold slices_Clone_int_int.f at h
    split at h
    · exact ⟨‹_›, Option.some.inj h⟩
    · cases h
  have hr := reads_ints hr0
  clear h hr0 hc0
  have heq := fun w => Lib.run_eql_slice_nil (P := Try.prog) w 22 3 A0 l0.length c0 0 0 Try.underlying22
  rcases A0 with _ | ad
  · obtain rfl : l0 = [] := by
      rcases l0 with _ | ⟨x, xs⟩
      · rfl
      · obtain ⟨_, h, _⟩ := hr.2.2 (by simp)
        cases h
    simp only [Option.isNone_none, List.length_nil] at heq
    clear hr hb
    go_enter Try.func144, Try.ntmps144
    go_wp2
    go_ret
    exact ⟨_, rfl, R_ints (own_nil _ _ _ _), Below.refl _ _⟩
  · simp only [Option.isNone_some] at heq
    obtain ⟨v1, w1, hrun, hown, hg, hat⟩ := run_app_of (P := Try.prog) (W := w.alloc (.cells #[] 3)) (Value.int .i64) (0 : Int) 22 22 3 (.int .i64 0) 8 Try.underlying22 infoI rfl (by omega) (fun _ => rfl) w.heap.size (.slice (some ⟨w.heap.size, 0, none⟩) 0 0) [] ⟨rfl, .inr ⟨_, 0, #[], rfl, Nat.le_refl _, hp_alloc_new _ _, by simp, by simp [maxLen], rfl, rfl⟩⟩ (some ad) c0 l0 (hr.below ((Below.refl _ _).alloc (Nat.le_refl _) _)) (by simp) (by simpa using by omega)
    have HO := Aside0.mk hown
    have HG := Aside0.mk hg
    have HR := Aside0.mk hrun
    clear hr hb hown hg hat hrun
    go_enter Try.func144, Try.ntmps144
    go_wp2_with (refine wpList_app rfl rfl rfl rfl HR.out ?_)
    go_ret
    exact ⟨_, rfl, R_ints HO.out, ((Below.refl _ _).alloc (Nat.le_refl _) _).grown HG.out (by simp) (by simp [Value.ownBlock])⟩
def slices_Clone_int64_int64.f (l0 : List Int) : Option (List Int) := if l0.length * 8 ≤ 140737488351232 then some l0 else none
theorem slices_Clone_int64_int64.calls (A0 : Option Addr) (c0 : Nat) (l0 : List Int) (r : List Int) (w : World) (hr0 : Kd.C (Kd.int .i64) w A0 l0.length l0) (hc0 : l0.length ≤ c0) (h : slices_Clone_int64_int64.f l0 = some r) :
    Calls Try.prog 145 #[.slice A0 l0.length c0] w fun e w' => ∃ v0_ : Value, e = .returned (v0_) ∧ Kd.R (Kd.int .i64) 2 w' w.heap.size (fun _ => True) v0_ r ∧ Below w.heap.size w w' := by
  obtain ⟨hb, rfl⟩ : l0.length * 8 ≤ 140737488351232 ∧ l0 = r := by
    unfold slices_Clone_int64_int64.f at h
    split at h
    · exact ⟨‹_›, Option.some.inj h⟩
    · cases h
  have hr := reads_ints hr0
  clear h hr0 hc0
  have heq := fun w => Lib.run_eql_slice_nil (P := Try.prog) w 37 2 A0 l0.length c0 0 0 Try.underlying37
  rcases A0 with _ | ad
  · obtain rfl : l0 = [] := by
      rcases l0 with _ | ⟨x, xs⟩
      · rfl
      · obtain ⟨_, h, _⟩ := hr.2.2 (by simp)
        cases h
    simp only [Option.isNone_none, List.length_nil] at heq
    clear hr hb
    go_enter Try.func145, Try.ntmps145
    go_wp2
    go_ret
    exact ⟨_, rfl, R_ints (own_nil _ _ _ _), Below.refl _ _⟩
  · simp only [Option.isNone_some] at heq
    obtain ⟨v1, w1, hrun, hown, hg, hat⟩ := run_app_of (P := Try.prog) (W := w.alloc (.cells #[] 2)) (Value.int .i64) (0 : Int) 37 37 2 (.int .i64 0) 8 Try.underlying37 infoI64 rfl (by omega) (fun _ => rfl) w.heap.size (.slice (some ⟨w.heap.size, 0, none⟩) 0 0) [] ⟨rfl, .inr ⟨_, 0, #[], rfl, Nat.le_refl _, hp_alloc_new _ _, by simp, by simp [maxLen], rfl, rfl⟩⟩ (some ad) c0 l0 (hr.below ((Below.refl _ _).alloc (Nat.le_refl _) _)) (by simp) (by simpa using by omega)
    have HO := Aside0.mk hown
    have HG := Aside0.mk hg
    have HR := Aside0.mk hrun
    clear hr hb hown hg hat hrun
    go_enter Try.func145, Try.ntmps145
    go_wp2_with (refine wpList_app rfl rfl rfl rfl HR.out ?_)
    go_ret
    exact ⟨_, rfl, R_ints HO.out, ((Below.refl _ _).alloc (Nat.le_refl _) _).grown HG.out (by simp) (by simp [Value.ownBlock])⟩
end Go.Proofs.Ytmfgdgmpblkadaa.PAll
