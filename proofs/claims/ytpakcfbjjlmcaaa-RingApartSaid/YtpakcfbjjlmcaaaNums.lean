/- riffleref03.Nums tells whether two slices of numbers hold the same numbers. No condition. -/
import Derived.Test.YtpakcfbjjlmcaaaProg
import Derived.Test.YtpakcfbjjlmcaaaKit
set_option linter.unusedVariables false
set_option linter.unusedSimpArgs false
set_option maxHeartbeats 400000
set_option maxRecDepth 100000
namespace Go.Proofs.Ytpakcfbjjlmcaaa.Nums
open Go.RowKit Go.RK Go.Proofs.YtpakcfbjjlmcaaaW.PrintWords

theorem nums_any (w : World) (A B : Option Addr) (c c' : Nat) (xs ys : List Int) (hx : ReadsInt w .i64 A xs.length xs) (hy : ReadsInt w .i64 B ys.length ys) :
    Calls Try.prog 20 #[.slice A xs.length c, .slice B ys.length c'] w fun e w' => e = .returned (.bool (decide (xs = ys))) ∧ ∃ n, w' = w.drewN n := by
  by_cases hl : xs.length = ys.length
  · have hm := hx.2.1
    have HX := Aside0.mk hx
    have HY := Aside0.mk hy
    rw [← hl] at HY
    rw [← hl]
    have HL := Lib.hid hl
    clear hl hx hy
    go_enter Try.func20, Try.ntmps20
    go_wp2
    go_loopw [5] (fun i wr => ∃ k : Nat, k ≤ xs.length ∧ i = .int .i64 k ∧ Hid (xs.take k = ys.take k) ∧ ∃ n, wr = w.drewN n) (fun i _ => xs.length - (intOf i).toNat)
    case atStart => exact ⟨0, by omega, rfl, rfl, 0, rfl⟩
    case round =>
      obtain ⟨k, hk, rfl, ht, n, rfl⟩ := hrel
      by_cases hlt : k < xs.length
      · obtain ⟨a, x, rfl, hx, hca⟩ := rd_at HX.out k hlt
        obtain ⟨b, y, rfl, hy, hcb⟩ := rd_at HY.out k hlt
        have H1 := Lib.hid hx
        have H2 := Lib.hid hy
        clear hx hy
        by_cases he : x = y
        · subst he
          go_wp2
          go_quiet (fail)
          go_wp2
          go_roundw
          case rel => exact ⟨k + 1, by omega, by go_num, by rw [Hid, List.take_add_one, List.take_add_one, H1.out, H2.out, ht.out], _, rfl⟩
          case measure => simp [intOf]; omega
        · have hb1 : (x == y) = false := by simp [he]
          have HE := Lib.hid he
          clear he
          go_wp2
          go_quiet (fail)
          go_wp2
          go_ret
          refine ⟨?_, _, World.drewN_drewN ..⟩
          have : xs ≠ ys := fun e => HE.out (by have h1 := H1.out; rw [e, H2.out] at h1; exact (Option.some.inj h1).symm)
          simp [this]
      · go_wp2
        go_ret
        refine ⟨?_, _, rfl⟩
        have h := ht.out
        have hl := HL.out
        rw [List.take_of_length_le (by omega), List.take_of_length_le (by omega)] at h
        simp [h]
  · have hne : ((xs.length : Int) == ys.length) = false := by rw [beq_eq_false_iff_ne]; omega
    have hd : decide (xs = ys) = false := decide_eq_false (fun h => hl (by rw [h]))
    have HD := Lib.hid hd
    clear hx hy hl hd
    go_enter Try.func20, Try.ntmps20
    go_wp2
    go_ret
    exact ⟨by rw [HD.out]; rfl, 0, rfl⟩

end Go.Proofs.Ytpakcfbjjlmcaaa.Nums
