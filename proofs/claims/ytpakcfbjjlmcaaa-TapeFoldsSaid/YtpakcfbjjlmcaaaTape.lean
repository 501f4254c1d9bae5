/- The methods of a tape that only read, and New. No condition. -/
import Derived.Test.YtpakcfbjjlmcaaaProg
import Derived.Test.YtpakcfbjjlmcaaaFull
import Derived.Test.YtpakcfbjjlmcaaaClones
set_option linter.unusedVariables false
set_option linter.unusedSimpArgs false
set_option maxHeartbeats 1600000
set_option maxRecDepth 100000
namespace Go.Proofs.Ytpakcfbjjlmcaaa.Tape
open Go.RowKit Go.RK Go.Proofs.YtpakcfbjjlmcaaaW.PrintWords
variable {W : World} {M Z : Nat → Prop} {g : Nat} {first width : Int} {v : Value} {R : List (List Int)}
abbrev KI : Kd Int := Kd.int .i64
abbrev KR : Kd (List Int) := Kd.slice 2 KI
/-- the tape's block -/
abbrev tp (v : Value) (first width : Int) : Obj := .cells #[v, .int .i64 first, .int .i64 width] 144 (0, 0)
theorem new_made (m : Int) (h1 : 0 ≤ m) (h2 : m ≤ 64) : Calls Try.prog 58 #[.int .i64 m] W fun e w' => ∃ g, e = .returned (.tuple #[.pointer (some ⟨g, 0, none⟩), .int .i64 0]) ∧ Below W.heap.size W w' ∧ (HP.blk g (tp (.slice none 0 0) 0 m)).at_ w' (fun k => W.heap.size ≤ k) := by
  have hu := Try.underlying144
  go_enter Try.func58, Try.ntmps58
  go_wp2
  go_ret2
  exact ⟨W.heap.size, rfl, (Below.refl _ _).alloc (Nat.le_refl _) _, hp_alloc_new _ _, Nat.le_refl _⟩
theorem new_no (m : Int) (h : ¬ (0 ≤ m ∧ m ≤ 64)) : Calls Try.prog 58 #[.int .i64 m] W fun e w' => e = .returned (.tuple #[.pointer none, .int .i64 1]) ∧ w' = W := by
  have H := Lib.hid h
  clear h
  by_cases h1 : m < 0
  · go_enter Try.func58, Try.ntmps58
    go_wp2
    go_ret2
    exact ⟨rfl, rfl⟩
  · have h2 : 64 < m := by have := H.out; omega
    go_enter Try.func58, Try.ntmps58
    go_wp2
    go_ret2
    exact ⟨rfl, rfl⟩
theorem first_nil : Calls Try.prog 66 #[.pointer none] W fun e w' => e = .returned (.int .i64 0) ∧ w' = W := by
  go_enter Try.func66, Try.ntmps66
  go_wp2
  go_ret
  exact ⟨rfl, rfl⟩
theorem end_nil : Calls Try.prog 61 #[.pointer none] W fun e w' => e = .returned (.int .i64 0) ∧ w' = W := by
  go_enter Try.func61, Try.ntmps61
  go_wp2
  go_ret
  exact ⟨rfl, rfl⟩
theorem words_nil : Calls Try.prog 67 #[.pointer none] W fun e w' => e = .returned (.int .i64 0) ∧ w' = W := by
  go_enter Try.func67, Try.ntmps67
  go_wp2
  go_ret
  exact ⟨rfl, rfl⟩
theorem clone_nil : Calls Try.prog 68 #[.pointer none] W fun e w' => e = .returned (.pointer none) ∧ w' = W := by
  go_enter Try.func68, Try.ntmps68
  go_wp2
  go_ret
  exact ⟨rfl, rfl⟩
theorem first_tp (h : W.heap[g]? = some (tp v first width)) : Calls Try.prog 66 #[.pointer (some ⟨g, 0, none⟩)] W fun e w' => e = .returned (.int .i64 first) ∧ Below W.heap.size W w' := by
  have c1 : W.cell? ⟨g, 1, none⟩ = some (.int .i64 first) := cell_blk h rfl
  clear h
  go_enter Try.func66, Try.ntmps66
  go_wp2
  go_ret
  exact ⟨rfl, Below.refl _ _⟩
theorem end_tp {A : Option Addr} {n c : Nat} (h : W.heap[g]? = some (tp (.slice A n c) first width)) (h1 : 0 ≤ first) (h2 : first + n ≤ 1000000) : Calls Try.prog 61 #[.pointer (some ⟨g, 0, none⟩)] W fun e w' => e = .returned (.int .i64 (first + n)) ∧ Below W.heap.size W w' := by
  have c0 : W.cell? ⟨g, 0, none⟩ = some (.slice A n c) := cell_blk h rfl
  have c1 : W.cell? ⟨g, 1, none⟩ = some (.int .i64 first) := cell_blk h rfl
  have hw : IntKind.i64.wrap (first + n) = first + n := IntWalk.i64_in _ (by omega)
  clear h
  go_enter Try.func61, Try.ntmps61
  go_wp2
  go_quiet (fail)
  go_wp2
  go_ret
  exact ⟨rfl, pw_below_drewN (Below.refl _ _) _⟩
theorem words_tp {A : Option Addr} {n c : Nat} (h : W.heap[g]? = some (tp (.slice A n c) first width)) (q : Int) (hq : Hid (n * width = q)) (h1 : 0 ≤ q) (h2 : q ≤ 1000000) : Calls Try.prog 67 #[.pointer (some ⟨g, 0, none⟩)] W fun e w' => e = .returned (.int .i64 q) ∧ Below W.heap.size W w' := by
  have c0 : W.cell? ⟨g, 0, none⟩ = some (.slice A n c) := cell_blk h rfl
  have c2 : W.cell? ⟨g, 2, none⟩ = some (.int .i64 width) := cell_blk h rfl
  have hw : IntKind.i64.wrap (n * width) = q := by rw [hq.out]; exact IntWalk.i64_in _ (by omega)
  clear h
  go_enter Try.func67, Try.ntmps67
  go_wp2
  go_quiet (fail)
  go_wp2
  go_ret
  exact ⟨rfl, pw_below_drewN (Below.refl _ _) _⟩
end Go.Proofs.Ytpakcfbjjlmcaaa.Tape
