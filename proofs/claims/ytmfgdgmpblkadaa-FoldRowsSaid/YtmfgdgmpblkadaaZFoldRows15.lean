/- PAllx18: what this claim needs of a text of ours. -/
import Derived.Test.YtmfgdgmpblkadaaZFoldRows11
import Derived.Test.YtmfgdgmpblkadaaZFoldRows14
namespace Go.Proofs.YtmfgdgmpblkadaaW.PrintWords
end Go.Proofs.YtmfgdgmpblkadaaW.PrintWords
namespace Go.Proofs.YtmfgdgmpblkadaaW.PrintLast
end Go.Proofs.YtmfgdgmpblkadaaW.PrintLast
namespace Go.Proofs.YtmfgdgmpblkadaaW.PrintMore
end Go.Proofs.YtmfgdgmpblkadaaW.PrintMore
namespace Go.Proofs.Ytmfgdgmpblkadaa.PAll
open Go.RowKit Go.Proofs.YtmfgdgmpblkadaaW.PrintWords Go.Proofs.YtmfgdgmpblkadaaW.PrintLast Go.Proofs.YtmfgdgmpblkadaaW.PrintMore
attribute [local go_sem] max2_int min2_int max_two min_two max_three min_three max_four min_four   -- for this text's walks alone
set_option linter.unusedVariables false
set_option linter.unusedSimpArgs false
mutual
def riffleref04_power.l0 : Nat → Int → Int → List Int → Option (Int)
  | 0, _, _, _ => none
  | k + 1, x0, x1, x5 => if x1 > 0 then (if x5.length < 17592186044416 then (riffleref04_power.l0 k x0 (wrap64 (Int.tdiv x1 2)) (x5 ++ [Int.tmod x1 2])) else (none)) else (riffleref04_power.l1 k x0 x5 1 (wrap64 ((x5.length : Int) - 1)))
def riffleref04_power.l1 : Nat → Int → List Int → Int → Int → Option (Int)
  | 0, _, _, _, _ => none
  | k + 1, x0, x5, x6, x7 => if x7 ≥ 0 then (if 0 ≤ x7 then (if x7 < (x5.length : Int) then (if (rd x5 x7) = 1 then (riffleref04_power.l1 k x0 x5 (wrap64 ((wrap64 (x6 * x6)) * x0)) (wrap64 (x7 - 1))) else (riffleref04_power.l1 k x0 x5 (wrap64 (x6 * x6)) (wrap64 (x7 - 1)))) else (none)) else (none)) else (some x6)
end
def riffleref04_power.f (k : Nat) (a0 : Int) (a1 : Int) : Option (Int) := if a1 < 0 then (if a0 = 1 then (some 1) else (if a0 = (-1) then (if (Int.tmod a1 2) = 0 then (some 1) else (some (-1))) else (some 0))) else (riffleref04_power.l0 k a0 a1 ([] : List Int))
set_option maxHeartbeats 8000000 in
set_option maxRecDepth 100000 in
theorem riffleref04_power.calls (k : Nat) (a0 : Int) (a1 : Int) (r : Int) (w : World) (h : riffleref04_power.f k a0 a1 = some r) :
    Calls Try.prog 154 #[.int .i64 a0, .int .i64 a1] w fun e w' => e = .returned (.int .i64 r) ∧ Below w.heap.size w w' := by
  have HB := Aside0.mk (Below.refl w.heap.size w)
  have H : (if a1 < 0 then (if a0 = 1 then (some 1) else (if a0 = (-1) then (if (Int.tmod a1 2) = 0 then (some 1) else (some (-1))) else (some 0))) else (riffleref04_power.l0 k a0 a1 ([] : List Int))) = some r := h
  clear h
  by_cases c3 : a1 < 0
  · rw [if_pos c3] at H
    have c3b0 : decide (a1 < 0) = true := decide_eq_true c3
    clear c3
    by_cases c4 : a0 = 1
    · rw [if_pos c4] at H
      have c4b0 : (a0 == 1) = true := beq_iff_eq.mpr c4
      have c4b1 : (a0 != 1) = false := bne_eq_false_iff_eq.mpr c4
      clear c4
      obtain rfl := Option.some.inj H
      go_enter Try.func154, Try.ntmps154
      go_wp2
      go_ret
      exact ⟨by first | rfl | (simp [errW_none, errW_some] <;> rfl) | (simp [*, errW_none, errW_some] <;> rfl), by repeat (first | (with_reducible first | exact HB.out | apply below_alloc | apply pw_below_drewN | apply below_drew1) | exact HB.out)⟩
    · rw [if_neg c4] at H
      have c4b0 : (a0 == 1) = false := beq_eq_false_iff_ne.mpr c4
      have c4b1 : (a0 != 1) = true := bne_iff_ne.mpr c4
      by_cases c5 : a0 = (-1)
      · rw [if_pos c5] at H
        have c5b0 : (a0 == (-1)) = true := beq_iff_eq.mpr c5
        have c5b1 : (a0 != (-1)) = false := bne_eq_false_iff_eq.mpr c5
        clear c5
        by_cases c6 : (Int.tmod a1 2) = 0
        · rw [if_pos c6] at H
          have c6b0 : ((Int.tmod a1 2) == 0) = true := beq_iff_eq.mpr c6
          have c6b1 : ((Int.tmod a1 2) != 0) = false := bne_eq_false_iff_eq.mpr c6
          clear c6
          obtain rfl := Option.some.inj H
          go_enter Try.func154, Try.ntmps154
          go_wp2
          go_ret
          exact ⟨by first | rfl | (simp [errW_none, errW_some] <;> rfl) | (simp [*, errW_none, errW_some] <;> rfl), by repeat (first | (with_reducible first | exact HB.out | apply below_alloc | apply pw_below_drewN | apply below_drew1) | exact HB.out)⟩
        · rw [if_neg c6] at H
          have c6b0 : ((Int.tmod a1 2) == 0) = false := beq_eq_false_iff_ne.mpr c6
          have c6b1 : ((Int.tmod a1 2) != 0) = true := bne_iff_ne.mpr c6
          obtain rfl := Option.some.inj H
          go_enter Try.func154, Try.ntmps154
          go_wp2
          go_ret
          exact ⟨by first | rfl | (simp [errW_none, errW_some] <;> rfl) | (simp [*, errW_none, errW_some] <;> rfl), by repeat (first | (with_reducible first | exact HB.out | apply below_alloc | apply pw_below_drewN | apply below_drew1) | exact HB.out)⟩
      · rw [if_neg c5] at H
        have c5b0 : (a0 == (-1)) = false := beq_eq_false_iff_ne.mpr c5
        have c5b1 : (a0 != (-1)) = true := bne_iff_ne.mpr c5
        obtain rfl := Option.some.inj H
        go_enter Try.func154, Try.ntmps154
        go_wp2
        go_ret
        exact ⟨by first | rfl | (simp [errW_none, errW_some] <;> rfl) | (simp [*, errW_none, errW_some] <;> rfl), by repeat (first | (with_reducible first | exact HB.out | apply below_alloc | apply pw_below_drewN | apply below_drew1) | exact HB.out)⟩
  · rw [if_neg c3] at H
    have c3b0 : decide (a1 < 0) = false := decide_eq_false c3
    clear c3
    have H' := Aside0.mk H
    clear H
    go_enter Try.func154, Try.ntmps154
    go_wp2
    go_loopg [1, 5] k (fun kq v1 v5 w' => ∃ (x1_1 : Int) (x5_1 : List Int), v1 = .int .i64 x1_1 ∧ Aside0 (riffleref04_power.l0 kq a0 x1_1 x5_1 = some r) ∧ Aside0 (kq ≤ k) ∧ Aside0 (Kd.R (Kd.int .i64) 2 w' w.heap.size (fun _ => True) v5 x5_1) ∧ Aside0 (Below w.heap.size w w'))
    case atStart => exact ⟨(a1), (([] : List Int)), (by first | rfl | (simp; done) | (simp [*]; done)), H', ⟨Nat.le_refl _⟩, ⟨by first | exact Kd.R_nil _ _ _ _ _ | exact Kd.N_nil _ _ _ _ _ | exact Kd.V_nil _ _ _ _ _ | exact Kd.Q_nil _ _ _ _ _ | exact Kd.S_nil _ _ _ _ _⟩, ⟨by repeat (first | (with_reducible first | exact HB.out | apply below_alloc | apply pw_below_drewN | apply below_drew1) | exact HB.out)⟩⟩
    case round =>
      clear H'
      try clear c1
      try clear p2
      try clear c3
      try clear c3b0
      try clear c4
      try clear c4b0
      try clear c4b1
      try clear c5
      try clear c5b0
      try clear c5b1
      try clear c6
      try clear c6b0
      try clear c6b1
      obtain ⟨x1_1, x5_1, rfl, HA, HK1, HO_5, HB⟩ := hrel
      cases gk with
      | zero => exact absurd HA.out (by simp [riffleref04_power.l0])
      | succ k1 =>
        have H := HA.out
        clear HA
        simp only [riffleref04_power.l0] at H
        by_cases c7 : x1_1 > 0
        · rw [if_pos c7] at H
          have c7b0 : decide (0 < x1_1) = true := decide_eq_true c7
          clear c7
          by_cases c8 : x5_1.length < 17592186044416
          · rw [if_pos c8] at H
            have LMc8 := Aside0.mk c8
            clear c8
            obtain ⟨y543, hy543⟩ : ∃ y_ : List Int, y_ = (x5_1 ++ [Int.tmod x1_1 2]) := ⟨_, rfl⟩
            replace H : (riffleref04_power.l0 k1 a0 (wrap64 (Int.tdiv x1_1 2)) y543) = some r := by first | (rw [hy543]; with_reducible exact H) | (have H2_ := (Option.bind_some _ _).symm.trans H; rw [hy543]; with_reducible exact H2_) | (have H2_ := (Option.bind_some _ _).symm.trans H; with_reducible exact H2_) | with_reducible exact H | (rw [hy543]; exact H) | exact H
            have Ny543 := Aside0.mk hy543
            clear hy543
            have H' := Aside0.mk H
            clear H
            go_wp2_with (first | ((with_reducible refine gate_builtin (b := .append) (xs := #[.tmp 19, .tmp 22]) rfl ?_); at_builtin; refine Kd.R_append (Kd.int .i64) (w0 := w) w.heap.size rfl (.tmp 19) (.tmp 22) 37 2 (.int .i64 0) 8 rfl Try.underlying37 info2 rfl (by decide) (by omega) u5 x5_1 (Int.tmod x1_1 2) [.int .i64 (Int.tmod x1_1 2)] (fun _ => True) (fun _ => False) rfl rfl ?aP (fun _ hk => hk.elim) ?aF ?aO ?aB ?aS ?aL ?_; (case aP => exact rfl); (case aB => exact (by repeat (first | (with_reducible first | exact HB.out | apply below_alloc | apply pw_below_drewN | apply below_drew1) | exact HB.out))); (case aF => exact (fun _ _ => trivial)); (case aO => exact (by (with_reducible repeat (first | apply Kd.R_alloc | apply Kd.R_drewN | apply Kd.R_drew)); exact HO_5.out)); (case aS => exact (below_size (by repeat (first | (with_reducible first | exact HB.out | apply below_alloc | apply pw_below_drewN | apply below_drew1) | exact HB.out)))); (case aL => have := LMc8.out; omega); intro v544 w9 ho hb hg hat; rw [← Ny543.out] at ho; have n0_ := Aside0.mk (hb); have n1_ := Aside0.mk (ho); clear HB; clear HO_5; have HB := n0_; have HO545 := n1_; clear n0_ n1_; clear ho hb hg hat))
            go_roundg k1
            case measure => have := HK1.out; omega
            case rel => exact ⟨(wrap64 (Int.tdiv x1_1 2)), (y543), (by first | rfl | (simp; done) | (simp [*]; done)), H', ⟨by have := HK1.out; omega⟩, ⟨by (with_reducible repeat (first | apply Kd.R_alloc | apply Kd.R_drewN | apply Kd.R_drew)); exact HO545.out⟩, ⟨by repeat (first | (with_reducible first | exact HB.out | apply below_alloc | apply pw_below_drewN | apply below_drew1) | exact HB.out)⟩⟩
          · rw [if_neg c8] at H
            exact absurd H (by simp)
        · rw [if_neg c7] at H
          have c7b0 : decide (0 < x1_1) = false := decide_eq_false c7
          clear c7
          have H' := Aside0.mk H
          clear H
          obtain ⟨Ao10, co10, eo10⟩ := Kd.R_slice HO_5.out
          subst eo10
          go_wp2
          go_loopg [6, 7] k1 (fun kq v6 v7 w' => ∃ (x6_2 : Int) (x7_2 : Int), v6 = .int .i64 x6_2 ∧ v7 = .int .i64 x7_2 ∧ Aside0 (riffleref04_power.l1 kq a0 x5_1 x6_2 x7_2 = some r) ∧ Aside0 (kq ≤ k1) ∧ Aside0 (Kd.R (Kd.int .i64) 2 w' w.heap.size (fun _ => True) (.slice Ao10 x5_1.length co10) x5_1) ∧ Aside0 (Below w.heap.size w w'))
          case atStart => exact ⟨(1), (wrap64 ((x5_1.length : Int) - 1)), (by first | rfl | (simp; done) | (simp [*]; done)), (by first | rfl | (simp; done) | (simp [*]; done)), H', ⟨Nat.le_refl _⟩, ⟨by (with_reducible repeat (first | apply Kd.R_alloc | apply Kd.R_drewN | apply Kd.R_drew)); exact HO_5.out⟩, ⟨by repeat (first | (with_reducible first | exact HB.out | apply below_alloc | apply pw_below_drewN | apply below_drew1) | exact HB.out)⟩⟩
          case round =>
            clear H'
            try clear c1
            try clear p2
            try clear c3
            try clear c3b0
            try clear c4
            try clear c4b0
            try clear c4b1
            try clear c5
            try clear c5b0
            try clear c5b1
            try clear c6
            try clear c6b0
            try clear c6b1
            try clear p6
            try clear c7
            try clear c7b0
            try clear c8
            try clear p2
            obtain ⟨x6_2, x7_2, rfl, rfl, HA, HK2, HO_5, HB⟩ := hrel
            cases gk with
            | zero => exact absurd HA.out (by simp [riffleref04_power.l1])
            | succ k2 =>
              have H := HA.out
              clear HA
              simp only [riffleref04_power.l1] at H
              by_cases c11 : x7_2 ≥ 0
              · rw [if_pos c11] at H
                have c11b0 : decide (0 ≤ x7_2) = true := decide_eq_true c11
                clear c11
                by_cases c12 : 0 ≤ x7_2
                · rw [if_pos c12] at H
                  have c12b0 : decide (0 ≤ x7_2) = true := decide_eq_true c12
                  clear c12
                  by_cases c13 : x7_2 < (x5_1.length : Int)
                  · rw [if_pos c13] at H
                    have c13b0 : decide (x7_2 < (x5_1.length : Int)) = true := decide_eq_true c13
                    clear c13
                    by_cases c14 : (rd x5_1 x7_2) = 1
                    · rw [if_pos c14] at H
                      have c14b0 : ((rd x5_1 x7_2) == 1) = true := beq_iff_eq.mpr c14
                      have c14b1 : ((rd x5_1 x7_2) != 1) = false := bne_eq_false_iff_eq.mpr c14
                      clear c14
                      have H' := Aside0.mk H
                      clear H
                      have p546 : 0 ≤ (x7_2 : Int) := of_decide_eq_true (by first | (with_reducible assumption) | assumption)
                      have q546 : x7_2 < (x5_1.length : Int) := of_decide_eq_true (by first | (with_reducible assumption) | assumption)
                      obtain ⟨ad546, e546, hx546_0⟩ := Kd.at_int (Kd.R_reads' HO_5.out).2.2 x7_2 p546 q546
                      cases e546
                      replace p546 := eq_true p546
                      replace q546 := eq_true q546
                      go_wp2
                      go_roundg k2
                      case measure => have := HK1.out; have := HK2.out; omega
                      case rel => exact ⟨(wrap64 ((wrap64 (x6_2 * x6_2)) * a0)), (wrap64 (x7_2 - 1)), (by first | rfl | (simp; done) | (simp [*]; done)), (by first | rfl | (simp; done) | (simp [*]; done)), H', ⟨by have := HK1.out; have := HK2.out; omega⟩, ⟨by (with_reducible repeat (first | apply Kd.R_alloc | apply Kd.R_drewN | apply Kd.R_drew)); exact HO_5.out⟩, ⟨by repeat (first | (with_reducible first | exact HB.out | apply below_alloc | apply pw_below_drewN | apply below_drew1) | exact HB.out)⟩⟩
                    · rw [if_neg c14] at H
                      have c14b0 : ((rd x5_1 x7_2) == 1) = false := beq_eq_false_iff_ne.mpr c14
                      have c14b1 : ((rd x5_1 x7_2) != 1) = true := bne_iff_ne.mpr c14
                      have H' := Aside0.mk H
                      clear H
                      have p546 : 0 ≤ (x7_2 : Int) := of_decide_eq_true (by first | (with_reducible assumption) | assumption)
                      have q546 : x7_2 < (x5_1.length : Int) := of_decide_eq_true (by first | (with_reducible assumption) | assumption)
                      obtain ⟨ad546, e546, hx546_0⟩ := Kd.at_int (Kd.R_reads' HO_5.out).2.2 x7_2 p546 q546
                      cases e546
                      replace p546 := eq_true p546
                      replace q546 := eq_true q546
                      go_wp2
                      go_roundg k2
                      case measure => have := HK1.out; have := HK2.out; omega
                      case rel => exact ⟨(wrap64 (x6_2 * x6_2)), (wrap64 (x7_2 - 1)), (by first | rfl | (simp; done) | (simp [*]; done)), (by first | rfl | (simp; done) | (simp [*]; done)), H', ⟨by have := HK1.out; have := HK2.out; omega⟩, ⟨by (with_reducible repeat (first | apply Kd.R_alloc | apply Kd.R_drewN | apply Kd.R_drew)); exact HO_5.out⟩, ⟨by repeat (first | (with_reducible first | exact HB.out | apply below_alloc | apply pw_below_drewN | apply below_drew1) | exact HB.out)⟩⟩
                  · rw [if_neg c13] at H
                    exact absurd H (by simp)
                · rw [if_neg c12] at H
                  exact absurd H (by simp)
              · rw [if_neg c11] at H
                have c11b0 : decide (0 ≤ x7_2) = false := decide_eq_false c11
                clear c11
                obtain rfl := Option.some.inj H
                go_wp2
                go_ret
                exact ⟨by first | rfl | (simp [errW_none, errW_some] <;> rfl) | (simp [*, errW_none, errW_some] <;> rfl), by repeat (first | (with_reducible first | exact HB.out | apply below_alloc | apply pw_below_drewN | apply below_drew1) | exact HB.out)⟩
def riffleref04_truth.f (a0 : Bool) : Option (Int) := if a0 = true then (some 1) else (some 0)
set_option maxHeartbeats 8000000 in
set_option maxRecDepth 100000 in
theorem riffleref04_truth.calls (a0 : Bool) (r : Int) (w : World) (h : riffleref04_truth.f a0 = some r) :
    Calls Try.prog 155 #[.bool a0] w fun e w' => e = .returned (.int .i64 r) ∧ Drawn0 w w' := by
  have H : (if a0 = true then (some 1) else (some 0)) = some r := h
  clear h
  by_cases c2 : a0 = true
  · subst c2
    have H1 : (some 1) = some r := by rw [if_pos rfl] at H; exact H
    clear H
    have H := H1
    clear H1
    obtain rfl := Option.some.inj H
    go_enter Try.func155, Try.ntmps155
    go_wp2
    go_ret
    exact ⟨by first | rfl | (simp; done) | (simp [*]; done), by repeat (first | exact Drawn0.refl _ | apply Drawn0.step)⟩
  · replace c2 := Bool.eq_false_iff.mpr c2
    subst c2
    have H1 : (some 0) = some r := by rw [if_neg (show ¬ (false = true) by decide)] at H; exact H
    clear H
    have H := H1
    clear H1
    obtain rfl := Option.some.inj H
    go_enter Try.func155, Try.ntmps155
    go_wp2
    go_ret
    exact ⟨by first | rfl | (simp; done) | (simp [*]; done), by repeat (first | exact Drawn0.refl _ | apply Drawn0.step)⟩
def riffleref04_Two.j0 : Nat → Int → Int → Int → List Int → Bool → Option (Int × Bool)
  | 0, _, _, _, _, _ => none
  | k + 1, x0, x1, x2, x8, x68 => if x68 = true then ((riffleref04_over.f x2 x1).bind fun t559 => (some (wrap64 (x2 - (wrap64 (x1 * t559))), true))) else (if x0 = 7 then (if x2 > x1 then (some (x2, true)) else (if x0 = 8 then (if x2 < x1 then (some (x2, true)) else (if 0 ≤ x0 then (if x0 < (x8.length : Int) then (some (rd x8 x0, true)) else (none)) else (none))) else (if 0 ≤ x0 then (if x0 < (x8.length : Int) then (some (rd x8 x0, true)) else (none)) else (none)))) else (if x0 = 8 then (if x2 < x1 then (some (x2, true)) else (if 0 ≤ x0 then (if x0 < (x8.length : Int) then (some (rd x8 x0, true)) else (none)) else (none))) else (if 0 ≤ x0 then (if x0 < (x8.length : Int) then (some (rd x8 x0, true)) else (none)) else (none))))
def riffleref04_Two.f (k : Nat) (a0 : Int) (a1 : Int) (a2 : Int) : Option (Int × Bool) := (riffleref04_Has.f a0 2).bind fun t547 => (if t547 = true then ((riffleref04_over.f a1 a2).bind fun t548 => ((riffleref04_power.f k a1 a2).bind fun t549 => ((riffleref04_truth.f (a1 == a2)).bind fun t550 => ((riffleref04_truth.f (a1 != a2)).bind fun t551 => ((riffleref04_truth.f (decide (a1 < a2))).bind fun t552 => ((riffleref04_truth.f (decide (a1 ≤ a2))).bind fun t553 => ((riffleref04_truth.f (decide (a1 > a2))).bind fun t554 => ((riffleref04_truth.f (decide (a1 ≥ a2))).bind fun t555 => ((some (([0, wrap64 (a1 + a2), wrap64 (a1 - a2), wrap64 (a1 * a2), t548, t549, a2, a1, a1, t550, t551, t552, t553, t554, t555, Go.bits .and .i64 a1 a2, Go.bits .or .i64 a1 a2, a1, a2] : List Int) : List Int)).bind fun y556 => (if a0 = 6 then (riffleref04_Two.j0 k a0 a1 a2 y556 (a1 != 0)) else (riffleref04_Two.j0 k a0 a1 a2 y556 false))))))))))) else (some (0, false)))
set_option maxHeartbeats 8000000 in
set_option maxRecDepth 100000 in
theorem riffleref04_Two.calls (k : Nat) (a0 : Int) (a1 : Int) (a2 : Int) (r1 : Int) (r2 : Bool) (w : World) (h : riffleref04_Two.f k a0 a1 a2 = some (r1, r2)) :
    Calls Try.prog 80 #[.int .i64 a0, .int .i64 a1, .int .i64 a2] w fun e w' => e = .returned (.tuple #[.int .i64 r1, .bool r2]) ∧ Below w.heap.size w w' := by
  have HB := Aside0.mk (Below.refl w.heap.size w)
  have H : ((riffleref04_Has.f a0 2).bind fun t547 => (if t547 = true then ((riffleref04_over.f a1 a2).bind fun t548 => ((riffleref04_power.f k a1 a2).bind fun t549 => ((riffleref04_truth.f (a1 == a2)).bind fun t550 => ((riffleref04_truth.f (a1 != a2)).bind fun t551 => ((riffleref04_truth.f (decide (a1 < a2))).bind fun t552 => ((riffleref04_truth.f (decide (a1 ≤ a2))).bind fun t553 => ((riffleref04_truth.f (decide (a1 > a2))).bind fun t554 => ((riffleref04_truth.f (decide (a1 ≥ a2))).bind fun t555 => ((some (([0, wrap64 (a1 + a2), wrap64 (a1 - a2), wrap64 (a1 * a2), t548, t549, a2, a1, a1, t550, t551, t552, t553, t554, t555, Go.bits .and .i64 a1 a2, Go.bits .or .i64 a1 a2, a1, a2] : List Int) : List Int)).bind fun y556 => (if a0 = 6 then (riffleref04_Two.j0 k a0 a1 a2 y556 (a1 != 0)) else (riffleref04_Two.j0 k a0 a1 a2 y556 false))))))))))) else (some (0, false)))) = some (r1, r2) := h
  clear h
  replace H := Option.bind_eq_some_iff.mp H
  obtain ⟨t547, A40, H⟩ := H
  replace H : (if t547 = true then ((riffleref04_over.f a1 a2).bind fun t548 => ((riffleref04_power.f k a1 a2).bind fun t549 => ((riffleref04_truth.f (a1 == a2)).bind fun t550 => ((riffleref04_truth.f (a1 != a2)).bind fun t551 => ((riffleref04_truth.f (decide (a1 < a2))).bind fun t552 => ((riffleref04_truth.f (decide (a1 ≤ a2))).bind fun t553 => ((riffleref04_truth.f (decide (a1 > a2))).bind fun t554 => ((riffleref04_truth.f (decide (a1 ≥ a2))).bind fun t555 => ((some (([0, wrap64 (a1 + a2), wrap64 (a1 - a2), wrap64 (a1 * a2), t548, t549, a2, a1, a1, t550, t551, t552, t553, t554, t555, Go.bits .and .i64 a1 a2, Go.bits .or .i64 a1 a2, a1, a2] : List Int) : List Int)).bind fun y556 => (if a0 = 6 then (riffleref04_Two.j0 k a0 a1 a2 y556 (a1 != 0)) else (riffleref04_Two.j0 k a0 a1 a2 y556 false))))))))))) else (some (0, false))) = some (r1, r2) := H
  have A4 := Aside0.mk A40
  clear A40
  by_cases c5 : t547 = true
  · subst c5
    have H1 : ((riffleref04_over.f a1 a2).bind fun t548 => ((riffleref04_power.f k a1 a2).bind fun t549 => ((riffleref04_truth.f (a1 == a2)).bind fun t550 => ((riffleref04_truth.f (a1 != a2)).bind fun t551 => ((riffleref04_truth.f (decide (a1 < a2))).bind fun t552 => ((riffleref04_truth.f (decide (a1 ≤ a2))).bind fun t553 => ((riffleref04_truth.f (decide (a1 > a2))).bind fun t554 => ((riffleref04_truth.f (decide (a1 ≥ a2))).bind fun t555 => ((some (([0, wrap64 (a1 + a2), wrap64 (a1 - a2), wrap64 (a1 * a2), t548, t549, a2, a1, a1, t550, t551, t552, t553, t554, t555, Go.bits .and .i64 a1 a2, Go.bits .or .i64 a1 a2, a1, a2] : List Int) : List Int)).bind fun y556 => (if a0 = 6 then (riffleref04_Two.j0 k a0 a1 a2 y556 (a1 != 0)) else (riffleref04_Two.j0 k a0 a1 a2 y556 false))))))))))) = some (r1, r2) := by rw [if_pos rfl] at H; exact H
    clear H
    have H := H1
    clear H1
    replace H := Option.bind_eq_some_iff.mp H
    obtain ⟨t548, A60, H⟩ := H
    replace H : ((riffleref04_power.f k a1 a2).bind fun t549 => ((riffleref04_truth.f (a1 == a2)).bind fun t550 => ((riffleref04_truth.f (a1 != a2)).bind fun t551 => ((riffleref04_truth.f (decide (a1 < a2))).bind fun t552 => ((riffleref04_truth.f (decide (a1 ≤ a2))).bind fun t553 => ((riffleref04_truth.f (decide (a1 > a2))).bind fun t554 => ((riffleref04_truth.f (decide (a1 ≥ a2))).bind fun t555 => ((some (([0, wrap64 (a1 + a2), wrap64 (a1 - a2), wrap64 (a1 * a2), t548, t549, a2, a1, a1, t550, t551, t552, t553, t554, t555, Go.bits .and .i64 a1 a2, Go.bits .or .i64 a1 a2, a1, a2] : List Int) : List Int)).bind fun y556 => (if a0 = 6 then (riffleref04_Two.j0 k a0 a1 a2 y556 (a1 != 0)) else (riffleref04_Two.j0 k a0 a1 a2 y556 false)))))))))) = some (r1, r2) := H
    have A6 := Aside0.mk A60
    clear A60
    replace H := Option.bind_eq_some_iff.mp H
    obtain ⟨t549, A70, H⟩ := H
    replace H : ((riffleref04_truth.f (a1 == a2)).bind fun t550 => ((riffleref04_truth.f (a1 != a2)).bind fun t551 => ((riffleref04_truth.f (decide (a1 < a2))).bind fun t552 => ((riffleref04_truth.f (decide (a1 ≤ a2))).bind fun t553 => ((riffleref04_truth.f (decide (a1 > a2))).bind fun t554 => ((riffleref04_truth.f (decide (a1 ≥ a2))).bind fun t555 => ((some (([0, wrap64 (a1 + a2), wrap64 (a1 - a2), wrap64 (a1 * a2), t548, t549, a2, a1, a1, t550, t551, t552, t553, t554, t555, Go.bits .and .i64 a1 a2, Go.bits .or .i64 a1 a2, a1, a2] : List Int) : List Int)).bind fun y556 => (if a0 = 6 then (riffleref04_Two.j0 k a0 a1 a2 y556 (a1 != 0)) else (riffleref04_Two.j0 k a0 a1 a2 y556 false))))))))) = some (r1, r2) := H
    have A7 := Aside0.mk A70
    clear A70
    replace H := Option.bind_eq_some_iff.mp H
    obtain ⟨t550, A80, H⟩ := H
    replace H : ((riffleref04_truth.f (a1 != a2)).bind fun t551 => ((riffleref04_truth.f (decide (a1 < a2))).bind fun t552 => ((riffleref04_truth.f (decide (a1 ≤ a2))).bind fun t553 => ((riffleref04_truth.f (decide (a1 > a2))).bind fun t554 => ((riffleref04_truth.f (decide (a1 ≥ a2))).bind fun t555 => ((some (([0, wrap64 (a1 + a2), wrap64 (a1 - a2), wrap64 (a1 * a2), t548, t549, a2, a1, a1, t550, t551, t552, t553, t554, t555, Go.bits .and .i64 a1 a2, Go.bits .or .i64 a1 a2, a1, a2] : List Int) : List Int)).bind fun y556 => (if a0 = 6 then (riffleref04_Two.j0 k a0 a1 a2 y556 (a1 != 0)) else (riffleref04_Two.j0 k a0 a1 a2 y556 false)))))))) = some (r1, r2) := H
    have A8 := Aside0.mk A80
    clear A80
    replace H := Option.bind_eq_some_iff.mp H
    obtain ⟨t551, A90, H⟩ := H
    replace H : ((riffleref04_truth.f (decide (a1 < a2))).bind fun t552 => ((riffleref04_truth.f (decide (a1 ≤ a2))).bind fun t553 => ((riffleref04_truth.f (decide (a1 > a2))).bind fun t554 => ((riffleref04_truth.f (decide (a1 ≥ a2))).bind fun t555 => ((some (([0, wrap64 (a1 + a2), wrap64 (a1 - a2), wrap64 (a1 * a2), t548, t549, a2, a1, a1, t550, t551, t552, t553, t554, t555, Go.bits .and .i64 a1 a2, Go.bits .or .i64 a1 a2, a1, a2] : List Int) : List Int)).bind fun y556 => (if a0 = 6 then (riffleref04_Two.j0 k a0 a1 a2 y556 (a1 != 0)) else (riffleref04_Two.j0 k a0 a1 a2 y556 false))))))) = some (r1, r2) := H
    have A9 := Aside0.mk A90
    clear A90
    replace H := Option.bind_eq_some_iff.mp H
    obtain ⟨t552, A100, H⟩ := H
    replace H : ((riffleref04_truth.f (decide (a1 ≤ a2))).bind fun t553 => ((riffleref04_truth.f (decide (a1 > a2))).bind fun t554 => ((riffleref04_truth.f (decide (a1 ≥ a2))).bind fun t555 => ((some (([0, wrap64 (a1 + a2), wrap64 (a1 - a2), wrap64 (a1 * a2), t548, t549, a2, a1, a1, t550, t551, t552, t553, t554, t555, Go.bits .and .i64 a1 a2, Go.bits .or .i64 a1 a2, a1, a2] : List Int) : List Int)).bind fun y556 => (if a0 = 6 then (riffleref04_Two.j0 k a0 a1 a2 y556 (a1 != 0)) else (riffleref04_Two.j0 k a0 a1 a2 y556 false)))))) = some (r1, r2) := H
    have A10 := Aside0.mk A100
    clear A100
    replace H := Option.bind_eq_some_iff.mp H
    obtain ⟨t553, A110, H⟩ := H
    replace H : ((riffleref04_truth.f (decide (a1 > a2))).bind fun t554 => ((riffleref04_truth.f (decide (a1 ≥ a2))).bind fun t555 => ((some (([0, wrap64 (a1 + a2), wrap64 (a1 - a2), wrap64 (a1 * a2), t548, t549, a2, a1, a1, t550, t551, t552, t553, t554, t555, Go.bits .and .i64 a1 a2, Go.bits .or .i64 a1 a2, a1, a2] : List Int) : List Int)).bind fun y556 => (if a0 = 6 then (riffleref04_Two.j0 k a0 a1 a2 y556 (a1 != 0)) else (riffleref04_Two.j0 k a0 a1 a2 y556 false))))) = some (r1, r2) := H
    have A11 := Aside0.mk A110
    clear A110
    replace H := Option.bind_eq_some_iff.mp H
    obtain ⟨t554, A120, H⟩ := H
    replace H : ((riffleref04_truth.f (decide (a1 ≥ a2))).bind fun t555 => ((some (([0, wrap64 (a1 + a2), wrap64 (a1 - a2), wrap64 (a1 * a2), t548, t549, a2, a1, a1, t550, t551, t552, t553, t554, t555, Go.bits .and .i64 a1 a2, Go.bits .or .i64 a1 a2, a1, a2] : List Int) : List Int)).bind fun y556 => (if a0 = 6 then (riffleref04_Two.j0 k a0 a1 a2 y556 (a1 != 0)) else (riffleref04_Two.j0 k a0 a1 a2 y556 false)))) = some (r1, r2) := H
    have A12 := Aside0.mk A120
    clear A120
    replace H := Option.bind_eq_some_iff.mp H
    obtain ⟨t555, A130, H⟩ := H
    replace H : ((some (([0, wrap64 (a1 + a2), wrap64 (a1 - a2), wrap64 (a1 * a2), t548, t549, a2, a1, a1, t550, t551, t552, t553, t554, t555, Go.bits .and .i64 a1 a2, Go.bits .or .i64 a1 a2, a1, a2] : List Int) : List Int)).bind fun y556 => (if a0 = 6 then (riffleref04_Two.j0 k a0 a1 a2 y556 (a1 != 0)) else (riffleref04_Two.j0 k a0 a1 a2 y556 false))) = some (r1, r2) := H
    have A13 := Aside0.mk A130
    clear A130
    obtain ⟨y556, hy556⟩ : ∃ y_ : List Int, y_ = (([0, wrap64 (a1 + a2), wrap64 (a1 - a2), wrap64 (a1 * a2), t548, t549, a2, a1, a1, t550, t551, t552, t553, t554, t555, Go.bits .and .i64 a1 a2, Go.bits .or .i64 a1 a2, a1, a2] : List Int)) := ⟨_, rfl⟩
    replace H : (if a0 = 6 then (riffleref04_Two.j0 k a0 a1 a2 y556 (a1 != 0)) else (riffleref04_Two.j0 k a0 a1 a2 y556 false)) = some (r1, r2) := by first | (rw [hy556]; with_reducible exact H) | (have H2_ := (Option.bind_some _ _).symm.trans H; rw [hy556]; with_reducible exact H2_) | (have H2_ := (Option.bind_some _ _).symm.trans H; with_reducible exact H2_) | with_reducible exact H | (rw [hy556]; exact H) | exact H
    have Ny556 := Aside0.mk hy556
    clear hy556
    have HC14 := Aside0.mk H
    clear H
    go_enter Try.func80, Try.ntmps80
    go_upto_region 4 with (first | ((with_reducible refine gate_callee (f := 93) rfl ?_); refine goesL_ (some 10) rfl rfl Try.func93 (by kernel_rfl) rfl #[.int .i64 a0, .int .i64 2] rfl (by (try simp only [List.map_toArray, List.map_cons, List.map_nil]); first | done | rfl | (simp only [List.length_drop, List.length_take]; rfl)) ?_; (with_reducible refine (riffleref04_Has.calls a0 2 true _ A4.out).mono ?_); rintro e w' ⟨rfl, ⟨nd, rfl⟩⟩; refine ⟨_, rfl, ?_⟩) | ((with_reducible refine gate_callee (f := 153) rfl ?_); refine goesL_ (some 23) rfl rfl Try.func153 (by kernel_rfl) rfl #[.int .i64 a1, .int .i64 a2] rfl (by (try simp only [List.map_toArray, List.map_cons, List.map_nil]); first | done | rfl | (simp only [List.length_drop, List.length_take]; rfl)) ?_; (with_reducible refine (riffleref04_over.calls a1 a2 t548 _ A6.out).mono ?_); rintro e w' ⟨rfl, ⟨nd, rfl⟩⟩; refine ⟨_, rfl, ?_⟩) | ((with_reducible refine gate_callee (f := 154) rfl ?_); refine goesL_ (some 26) rfl rfl Try.func154 (by kernel_rfl) rfl #[.int .i64 a1, .int .i64 a2] rfl (by (try simp only [List.map_toArray, List.map_cons, List.map_nil]); first | done | rfl | (simp only [List.length_drop, List.length_take]; rfl)) ?_; (with_reducible refine (riffleref04_power.calls k a1 a2 t549 _ A7.out).mono ?_); rintro e w15 ⟨rfl, hb⟩; refine ⟨_, rfl, ?_⟩; have n0_ := Aside0.mk (below_step (by repeat (first | (with_reducible first | exact HB.out | apply below_alloc | apply pw_below_drewN | apply below_drew1) | exact HB.out)) hb); clear HB; have HB := n0_; clear n0_; (try clear hb); (try clear hb2); (try clear hk); (try clear hi)) | ((with_reducible refine gate_callee (f := 155) rfl ?_); refine goesL_ (some 33) rfl rfl Try.func155 (by kernel_rfl) rfl #[.bool (a1 == a2)] rfl (by (try simp only [List.map_toArray, List.map_cons, List.map_nil]); first | done | rfl | (simp only [List.length_drop, List.length_take]; rfl)) ?_; (with_reducible refine (riffleref04_truth.calls (a1 == a2) t550 _ A8.out).mono ?_); rintro e w' ⟨rfl, ⟨nd, rfl⟩⟩; refine ⟨_, rfl, ?_⟩) | ((with_reducible refine gate_callee (f := 155) rfl ?_); refine goesL_ (some 37) rfl rfl Try.func155 (by kernel_rfl) rfl #[.bool (a1 != a2)] rfl (by (try simp only [List.map_toArray, List.map_cons, List.map_nil]); first | done | rfl | (simp only [List.length_drop, List.length_take]; rfl)) ?_; (with_reducible refine (riffleref04_truth.calls (a1 != a2) t551 _ A9.out).mono ?_); rintro e w' ⟨rfl, ⟨nd, rfl⟩⟩; refine ⟨_, rfl, ?_⟩) | ((with_reducible refine gate_callee (f := 155) rfl ?_); refine goesL_ (some 41) rfl rfl Try.func155 (by kernel_rfl) rfl #[.bool (decide (a1 < a2))] rfl (by (try simp only [List.map_toArray, List.map_cons, List.map_nil]); first | done | rfl | (simp only [List.length_drop, List.length_take]; rfl)) ?_; (with_reducible refine (riffleref04_truth.calls (decide (a1 < a2)) t552 _ A10.out).mono ?_); rintro e w' ⟨rfl, ⟨nd, rfl⟩⟩; refine ⟨_, rfl, ?_⟩) | ((with_reducible refine gate_callee (f := 155) rfl ?_); refine goesL_ (some 45) rfl rfl Try.func155 (by kernel_rfl) rfl #[.bool (decide (a1 ≤ a2))] rfl (by (try simp only [List.map_toArray, List.map_cons, List.map_nil]); first | done | rfl | (simp only [List.length_drop, List.length_take]; rfl)) ?_; (with_reducible refine (riffleref04_truth.calls (decide (a1 ≤ a2)) t553 _ A11.out).mono ?_); rintro e w' ⟨rfl, ⟨nd, rfl⟩⟩; refine ⟨_, rfl, ?_⟩) | ((with_reducible refine gate_callee (f := 155) rfl ?_); refine goesL_ (some 49) rfl rfl Try.func155 (by kernel_rfl) rfl #[.bool (decide (a1 > a2))] rfl (by (try simp only [List.map_toArray, List.map_cons, List.map_nil]); first | done | rfl | (simp only [List.length_drop, List.length_take]; rfl)) ?_; (with_reducible refine (riffleref04_truth.calls (decide (a1 > a2)) t554 _ A12.out).mono ?_); rintro e w' ⟨rfl, ⟨nd, rfl⟩⟩; refine ⟨_, rfl, ?_⟩) | ((with_reducible refine gate_callee (f := 155) rfl ?_); refine goesL_ (some 53) rfl rfl Try.func155 (by kernel_rfl) rfl #[.bool (decide (a1 ≥ a2))] rfl (by (try simp only [List.map_toArray, List.map_cons, List.map_nil]); first | done | rfl | (simp only [List.length_drop, List.length_take]; rfl)) ?_; (with_reducible refine (riffleref04_truth.calls (decide (a1 ≥ a2)) t555 _ A13.out).mono ?_); rintro e w' ⟨rfl, ⟨nd, rfl⟩⟩; refine ⟨_, rfl, ?_⟩) | ((with_reducible refine gate_dst (N := 62) rfl ?_); refine Kd.R_lit (Kd.int .i64) _ 2 ?hg (N := 62) ?hd (xs := ([0, wrap64 (a1 + a2), wrap64 (a1 - a2), wrap64 (a1 * a2), t548, t549, a2, a1, a1, t550, t551, t552, t553, t554, t555, Go.bits .and .i64 a1 a2, Go.bits .or .i64 a1 a2, a1, a2] : List Int)) (inner := [.int .i64 0, .int .i64 (wrap64 (a1 + a2)), .int .i64 (wrap64 (a1 - a2)), .int .i64 (wrap64 (a1 * a2)), .int .i64 t548, .int .i64 t549, .int .i64 a2, .int .i64 a1, .int .i64 a1, .int .i64 t550, .int .i64 t551, .int .i64 t552, .int .i64 t553, .int .i64 t554, .int .i64 t555, .int .i64 (Go.bits .and .i64 a1 a2), .int .i64 (Go.bits .or .i64 a1 a2), .int .i64 a1, .int .i64 a2]) (ok := fun _ => True) (okp := fun _ => True) ?hr ?hp (fun _ hk => hk) trivial (Below.refl _ _) (Nat.le_refl _) (by simp) ?_; (case hd => rfl); (case hg => rfl); (case hr => first | (go_simp; done) | (go_simp; rfl)); (case hp => exact (Reps.one (show Kd.M (Kd.int .i64) _ _ _ 0 [.int .i64 0] from rfl) (Reps.one (show Kd.M (Kd.int .i64) _ _ _ (wrap64 (a1 + a2)) [.int .i64 (wrap64 (a1 + a2))] from rfl) (Reps.one (show Kd.M (Kd.int .i64) _ _ _ (wrap64 (a1 - a2)) [.int .i64 (wrap64 (a1 - a2))] from rfl) (Reps.one (show Kd.M (Kd.int .i64) _ _ _ (wrap64 (a1 * a2)) [.int .i64 (wrap64 (a1 * a2))] from rfl) (Reps.one (show Kd.M (Kd.int .i64) _ _ _ t548 [.int .i64 t548] from rfl) (Reps.one (show Kd.M (Kd.int .i64) _ _ _ t549 [.int .i64 t549] from rfl) (Reps.one (show Kd.M (Kd.int .i64) _ _ _ a2 [.int .i64 a2] from rfl) (Reps.one (show Kd.M (Kd.int .i64) _ _ _ a1 [.int .i64 a1] from rfl) (Reps.one (show Kd.M (Kd.int .i64) _ _ _ a1 [.int .i64 a1] from rfl) (Reps.one (show Kd.M (Kd.int .i64) _ _ _ t550 [.int .i64 t550] from rfl) (Reps.one (show Kd.M (Kd.int .i64) _ _ _ t551 [.int .i64 t551] from rfl) (Reps.one (show Kd.M (Kd.int .i64) _ _ _ t552 [.int .i64 t552] from rfl) (Reps.one (show Kd.M (Kd.int .i64) _ _ _ t553 [.int .i64 t553] from rfl) (Reps.one (show Kd.M (Kd.int .i64) _ _ _ t554 [.int .i64 t554] from rfl) (Reps.one (show Kd.M (Kd.int .i64) _ _ _ t555 [.int .i64 t555] from rfl) (Reps.one (show Kd.M (Kd.int .i64) _ _ _ (Go.bits .and .i64 a1 a2) [.int .i64 (Go.bits .and .i64 a1 a2)] from rfl) (Reps.one (show Kd.M (Kd.int .i64) _ _ _ (Go.bits .or .i64 a1 a2) [.int .i64 (Go.bits .or .i64 a1 a2)] from rfl) (Reps.one (show Kd.M (Kd.int .i64) _ _ _ a1 [.int .i64 a1] from rfl) (Reps.one (show Kd.M (Kd.int .i64) _ _ _ a2 [.int .i64 a2] from rfl) (Reps.none _ _))))))))))))))))))))); intro v557 w16 ho17 hb hg_ hnew_; clear hg_ hnew_; (first | rw [← Ny556.out] at ho17 | (simp only [Int.reduceToNat] at ho17; rw [← Ny556.out] at ho17)); have n0_ := Aside0.mk (Kd.R_lower ho17 (below_size (by repeat (first | (with_reducible first | exact HB.out | apply below_alloc | apply pw_below_drewN | apply below_drew1) | exact HB.out)))); have n1_ := Aside0.mk (below_step (by repeat (first | (with_reducible first | exact HB.out | apply below_alloc | apply pw_below_drewN | apply below_drew1) | exact HB.out)) hb); clear HB; have HO558 := n0_; have HB := n1_; clear n0_ n1_; clear hb ho17))
    (try simp only [Act.put, List.setIfInBounds_toArray, List.set_cons_zero, List.set_cons_succ])
    go_cut [68] (fun v68 wc => ∃ (kq : Nat) (x68_13 : Bool), v68 = .bool x68_13 ∧ Aside0 (riffleref04_Two.j0 kq a0 a1 a2 y556 x68_13 = some (r1, r2)) ∧ Aside0 (kq ≤ k) ∧ Aside0 (Kd.R (Kd.int .i64) 2 wc w.heap.size (fun _ => True) v557 y556) ∧ Aside0 (Below w.heap.size w wc))
    case first =>
      have H := HC14.out
      clear HC14
      by_cases c18 : a0 = 6
      · rw [if_pos c18] at H
        have c18b0 : (a0 == 6) = true := beq_iff_eq.mpr c18
        have c18b1 : (a0 != 6) = false := bne_eq_false_iff_eq.mpr c18
        clear c18
        (first | rw [c18b0] | (simp only [i64_w, i32_w]; rw [c18b0]) | skip)
        have H' := Aside0.mk H
        clear H
        go_wp2
        go_meet
        case rel => exact ⟨_, ((a1 != 0)), (by first | rfl | (simp; done) | (simp [*]; done)), H', ⟨by first | omega | exact Nat.le_refl _⟩, ⟨by (with_reducible repeat (first | apply Kd.R_alloc | apply Kd.R_drewN | apply Kd.R_drew)); exact HO558.out⟩, ⟨by repeat (first | (with_reducible first | exact HB.out | apply below_alloc | apply pw_below_drewN | apply below_drew1) | exact HB.out)⟩⟩
      · rw [if_neg c18] at H
        have c18b0 : (a0 == 6) = false := beq_eq_false_iff_ne.mpr c18
        have c18b1 : (a0 != 6) = true := bne_iff_ne.mpr c18
        (first | rw [c18b0] | (simp only [i64_w, i32_w]; rw [c18b0]) | skip)
        have H' := Aside0.mk H
        clear H
        go_wp2
        go_meet
        case rel => exact ⟨_, (false), (by first | rfl | (simp; done) | (simp [*]; done)), H', ⟨by first | omega | exact Nat.le_refl _⟩, ⟨by (with_reducible repeat (first | apply Kd.R_alloc | apply Kd.R_drewN | apply Kd.R_drew)); exact HO558.out⟩, ⟨by repeat (first | (with_reducible first | exact HB.out | apply below_alloc | apply pw_below_drewN | apply below_drew1) | exact HB.out)⟩⟩
    case rest =>
      clear HC14
      try clear c1
      try clear p2
      try clear c5
      try clear p6
      try clear c8
      try clear c9
      try clear c15
      try clear c18
      try clear c18b0
      try clear c18b1
      obtain ⟨kq, x68_13, rfl, HA, HJ13, HO_8, HB⟩ := hcut
      cases kq with
      | zero => exact absurd HA.out (by simp [riffleref04_Two.j0])
      | succ kj13 =>
        have H := HA.out
        clear HA
        simp only [riffleref04_Two.j0] at H
        by_cases c19 : x68_13 = true
        · subst c19
          have H1 : ((riffleref04_over.f a2 a1).bind fun t559 => (some (wrap64 (a2 - (wrap64 (a1 * t559))), true))) = some (r1, r2) := by rw [if_pos rfl] at H; exact H
          clear H
          have H := H1
          clear H1
          replace H := Option.bind_eq_some_iff.mp H
          obtain ⟨t559, A200, H⟩ := H
          replace H : (some (wrap64 (a2 - (wrap64 (a1 * t559))), true)) = some (r1, r2) := H
          have A20 := Aside0.mk A200
          clear A200
          simp only [Option.some.injEq, Prod.mk.injEq] at H
          obtain ⟨rfl, rfl⟩ := H
          go_wp2_with (first | ((with_reducible refine gate_callee (f := 153) rfl ?_); refine goesL_ (some 73) rfl rfl Try.func153 (by kernel_rfl) rfl #[.int .i64 a2, .int .i64 a1] rfl (by (try simp only [List.map_toArray, List.map_cons, List.map_nil]); first | done | rfl | (simp only [List.length_drop, List.length_take]; rfl)) ?_; (with_reducible refine (riffleref04_over.calls a2 a1 t559 _ A20.out).mono ?_); rintro e w' ⟨rfl, ⟨nd, rfl⟩⟩; refine ⟨_, rfl, ?_⟩))
          go_ret2
          exact ⟨by first | rfl | (simp [errW_none, errW_some] <;> rfl) | (simp [*, errW_none, errW_some] <;> rfl), by repeat (first | (with_reducible first | exact HB.out | apply below_alloc | apply pw_below_drewN | apply below_drew1) | exact HB.out)⟩
        · replace c19 := Bool.eq_false_iff.mpr c19
          subst c19
          have H1 : (if a0 = 7 then (if a2 > a1 then (some (a2, true)) else (if a0 = 8 then (if a2 < a1 then (some (a2, true)) else (if 0 ≤ a0 then (if a0 < (y556.length : Int) then (some (rd y556 a0, true)) else (none)) else (none))) else (if 0 ≤ a0 then (if a0 < (y556.length : Int) then (some (rd y556 a0, true)) else (none)) else (none)))) else (if a0 = 8 then (if a2 < a1 then (some (a2, true)) else (if 0 ≤ a0 then (if a0 < (y556.length : Int) then (some (rd y556 a0, true)) else (none)) else (none))) else (if 0 ≤ a0 then (if a0 < (y556.length : Int) then (some (rd y556 a0, true)) else (none)) else (none)))) = some (r1, r2) := by rw [if_neg (show ¬ (false = true) by decide)] at H; exact H
          clear H
          have H := H1
          clear H1
          by_cases c21 : a0 = 7
          · rw [if_pos c21] at H
            have c21b0 : (a0 == 7) = true := beq_iff_eq.mpr c21
            have c21b1 : (a0 != 7) = false := bne_eq_false_iff_eq.mpr c21
            clear c21
            by_cases c22 : a2 > a1
            · rw [if_pos c22] at H
              have c22b0 : decide (a1 < a2) = true := decide_eq_true c22
              clear c22
              simp only [Option.some.injEq, Prod.mk.injEq] at H
              obtain ⟨rfl, rfl⟩ := H
              go_wp2
              go_ret2
              exact ⟨by first | rfl | (simp [errW_none, errW_some] <;> rfl) | (simp [*, errW_none, errW_some] <;> rfl), by repeat (first | (with_reducible first | exact HB.out | apply below_alloc | apply pw_below_drewN | apply below_drew1) | exact HB.out)⟩
            · rw [if_neg c22] at H
              have c22b0 : decide (a1 < a2) = false := decide_eq_false c22
              clear c22
              by_cases c23 : a0 = 8
              · rw [if_pos c23] at H
                have c23b0 : (a0 == 8) = true := beq_iff_eq.mpr c23
                have c23b1 : (a0 != 8) = false := bne_eq_false_iff_eq.mpr c23
                clear c23
                by_cases c24 : a2 < a1
                · rw [if_pos c24] at H
                  have c24b0 : decide (a2 < a1) = true := decide_eq_true c24
                  clear c24
                  simp only [Option.some.injEq, Prod.mk.injEq] at H
                  obtain ⟨rfl, rfl⟩ := H
                  go_wp2
                  go_ret2
                  exact ⟨by first | rfl | (simp [errW_none, errW_some] <;> rfl) | (simp [*, errW_none, errW_some] <;> rfl), by repeat (first | (with_reducible first | exact HB.out | apply below_alloc | apply pw_below_drewN | apply below_drew1) | exact HB.out)⟩
                · rw [if_neg c24] at H
                  have c24b0 : decide (a2 < a1) = false := decide_eq_false c24
                  clear c24
                  by_cases c25 : 0 ≤ a0
                  · rw [if_pos c25] at H
                    have c25b0 : decide (0 ≤ a0) = true := decide_eq_true c25
                    clear c25
                    by_cases c26 : a0 < (y556.length : Int)
                    · rw [if_pos c26] at H
                      have c26b0 : decide (a0 < (y556.length : Int)) = true := decide_eq_true c26
                      clear c26
                      simp only [Option.some.injEq, Prod.mk.injEq] at H
                      obtain ⟨rfl, rfl⟩ := H
                      obtain ⟨Ao27, co27, eo27⟩ := Kd.R_slice HO_8.out
                      subst eo27
                      have p560 : 0 ≤ (a0 : Int) := of_decide_eq_true (by first | (with_reducible assumption) | assumption)
                      have q560 : a0 < (y556.length : Int) := of_decide_eq_true (by first | (with_reducible assumption) | assumption)
                      obtain ⟨ad560, e560, hx560_0⟩ := Kd.at_int (Kd.R_reads' HO_8.out).2.2 a0 p560 q560
                      cases e560
                      replace p560 := eq_true p560
                      replace q560 := eq_true q560
                      go_wp2
                      go_ret2
                      exact ⟨by first | rfl | (simp [errW_none, errW_some] <;> rfl) | (simp [*, errW_none, errW_some] <;> rfl), by repeat (first | (with_reducible first | exact HB.out | apply below_alloc | apply pw_below_drewN | apply below_drew1) | exact HB.out)⟩
                    · rw [if_neg c26] at H
                      exact absurd H (by simp)
                  · rw [if_neg c25] at H
                    exact absurd H (by simp)
              · rw [if_neg c23] at H
                have c23b0 : (a0 == 8) = false := beq_eq_false_iff_ne.mpr c23
                have c23b1 : (a0 != 8) = true := bne_iff_ne.mpr c23
                by_cases c28 : 0 ≤ a0
                · rw [if_pos c28] at H
                  have c28b0 : decide (0 ≤ a0) = true := decide_eq_true c28
                  clear c28
                  by_cases c29 : a0 < (y556.length : Int)
                  · rw [if_pos c29] at H
                    have c29b0 : decide (a0 < (y556.length : Int)) = true := decide_eq_true c29
                    clear c29
                    simp only [Option.some.injEq, Prod.mk.injEq] at H
                    obtain ⟨rfl, rfl⟩ := H
                    obtain ⟨Ao30, co30, eo30⟩ := Kd.R_slice HO_8.out
                    subst eo30
                    have p561 : 0 ≤ (a0 : Int) := of_decide_eq_true (by first | (with_reducible assumption) | assumption)
                    have q561 : a0 < (y556.length : Int) := of_decide_eq_true (by first | (with_reducible assumption) | assumption)
                    obtain ⟨ad561, e561, hx561_0⟩ := Kd.at_int (Kd.R_reads' HO_8.out).2.2 a0 p561 q561
                    cases e561
                    replace p561 := eq_true p561
                    replace q561 := eq_true q561
                    go_wp2
                    go_ret2
                    exact ⟨by first | rfl | (simp [errW_none, errW_some] <;> rfl) | (simp [*, errW_none, errW_some] <;> rfl), by repeat (first | (with_reducible first | exact HB.out | apply below_alloc | apply pw_below_drewN | apply below_drew1) | exact HB.out)⟩
                  · rw [if_neg c29] at H
                    exact absurd H (by simp)
                · rw [if_neg c28] at H
                  exact absurd H (by simp)
          · rw [if_neg c21] at H
            have c21b0 : (a0 == 7) = false := beq_eq_false_iff_ne.mpr c21
            have c21b1 : (a0 != 7) = true := bne_iff_ne.mpr c21
            by_cases c31 : a0 = 8
            · rw [if_pos c31] at H
              have c31b0 : (a0 == 8) = true := beq_iff_eq.mpr c31
              have c31b1 : (a0 != 8) = false := bne_eq_false_iff_eq.mpr c31
              clear c31
              by_cases c32 : a2 < a1
              · rw [if_pos c32] at H
                have c32b0 : decide (a2 < a1) = true := decide_eq_true c32
                clear c32
                simp only [Option.some.injEq, Prod.mk.injEq] at H
                obtain ⟨rfl, rfl⟩ := H
                go_wp2
                go_ret2
                exact ⟨by first | rfl | (simp [errW_none, errW_some] <;> rfl) | (simp [*, errW_none, errW_some] <;> rfl), by repeat (first | (with_reducible first | exact HB.out | apply below_alloc | apply pw_below_drewN | apply below_drew1) | exact HB.out)⟩
              · rw [if_neg c32] at H
                have c32b0 : decide (a2 < a1) = false := decide_eq_false c32
                clear c32
                by_cases c33 : 0 ≤ a0
                · rw [if_pos c33] at H
                  have c33b0 : decide (0 ≤ a0) = true := decide_eq_true c33
                  clear c33
                  by_cases c34 : a0 < (y556.length : Int)
                  · rw [if_pos c34] at H
                    have c34b0 : decide (a0 < (y556.length : Int)) = true := decide_eq_true c34
                    clear c34
                    simp only [Option.some.injEq, Prod.mk.injEq] at H
                    obtain ⟨rfl, rfl⟩ := H
                    obtain ⟨Ao35, co35, eo35⟩ := Kd.R_slice HO_8.out
                    subst eo35
                    have p562 : 0 ≤ (a0 : Int) := of_decide_eq_true (by first | (with_reducible assumption) | assumption)
                    have q562 : a0 < (y556.length : Int) := of_decide_eq_true (by first | (with_reducible assumption) | assumption)
                    obtain ⟨ad562, e562, hx562_0⟩ := Kd.at_int (Kd.R_reads' HO_8.out).2.2 a0 p562 q562
                    cases e562
                    replace p562 := eq_true p562
                    replace q562 := eq_true q562
                    go_wp2
                    go_ret2
                    exact ⟨by first | rfl | (simp [errW_none, errW_some] <;> rfl) | (simp [*, errW_none, errW_some] <;> rfl), by repeat (first | (with_reducible first | exact HB.out | apply below_alloc | apply pw_below_drewN | apply below_drew1) | exact HB.out)⟩
                  · rw [if_neg c34] at H
                    exact absurd H (by simp)
                · rw [if_neg c33] at H
                  exact absurd H (by simp)
            · rw [if_neg c31] at H
              have c31b0 : (a0 == 8) = false := beq_eq_false_iff_ne.mpr c31
              have c31b1 : (a0 != 8) = true := bne_iff_ne.mpr c31
              by_cases c36 : 0 ≤ a0
              · rw [if_pos c36] at H
                have c36b0 : decide (0 ≤ a0) = true := decide_eq_true c36
                clear c36
                by_cases c37 : a0 < (y556.length : Int)
                · rw [if_pos c37] at H
                  have c37b0 : decide (a0 < (y556.length : Int)) = true := decide_eq_true c37
                  clear c37
                  simp only [Option.some.injEq, Prod.mk.injEq] at H
                  obtain ⟨rfl, rfl⟩ := H
                  obtain ⟨Ao38, co38, eo38⟩ := Kd.R_slice HO_8.out
                  subst eo38
                  have p563 : 0 ≤ (a0 : Int) := of_decide_eq_true (by first | (with_reducible assumption) | assumption)
                  have q563 : a0 < (y556.length : Int) := of_decide_eq_true (by first | (with_reducible assumption) | assumption)
                  obtain ⟨ad563, e563, hx563_0⟩ := Kd.at_int (Kd.R_reads' HO_8.out).2.2 a0 p563 q563
                  cases e563
                  replace p563 := eq_true p563
                  replace q563 := eq_true q563
                  go_wp2
                  go_ret2
                  exact ⟨by first | rfl | (simp [errW_none, errW_some] <;> rfl) | (simp [*, errW_none, errW_some] <;> rfl), by repeat (first | (with_reducible first | exact HB.out | apply below_alloc | apply pw_below_drewN | apply below_drew1) | exact HB.out)⟩
                · rw [if_neg c37] at H
                  exact absurd H (by simp)
              · rw [if_neg c36] at H
                exact absurd H (by simp)
  · replace c5 := Bool.eq_false_iff.mpr c5
    subst c5
    have H1 : (some (0, false)) = some (r1, r2) := by rw [if_neg (show ¬ (false = true) by decide)] at H; exact H
    clear H
    have H := H1
    clear H1
    simp only [Option.some.injEq, Prod.mk.injEq] at H
    obtain ⟨rfl, rfl⟩ := H
    go_enter Try.func80, Try.ntmps80
    go_wp2_with (first | ((with_reducible refine gate_callee (f := 93) rfl ?_); refine goesL_ (some 10) rfl rfl Try.func93 (by kernel_rfl) rfl #[.int .i64 a0, .int .i64 2] rfl (by (try simp only [List.map_toArray, List.map_cons, List.map_nil]); first | done | rfl | (simp only [List.length_drop, List.length_take]; rfl)) ?_; (with_reducible refine (riffleref04_Has.calls a0 2 false _ A4.out).mono ?_); rintro e w' ⟨rfl, ⟨nd, rfl⟩⟩; refine ⟨_, rfl, ?_⟩))
    go_ret2
    exact ⟨by first | rfl | (simp [errW_none, errW_some] <;> rfl) | (simp [*, errW_none, errW_some] <;> rfl), by repeat (first | (with_reducible first | exact HB.out | apply below_alloc | apply pw_below_drewN | apply below_drew1) | exact HB.out)⟩
def scalar_Do.f (k : Nat) (a0_0 : Int) (a0_1 : Bool) (a1 : Int) (a2 : Int) : Option (Int × Bool) := if a0_1 = true then ((scalar_Two.f k a0_0 a2 a1).bind fun bt565 => (some (bt565.1, bt565.2))) else ((scalar_Two.f k a0_0 a1 a2).bind fun bt567 => (some (bt567.1, bt567.2)))
set_option maxHeartbeats 8000000 in
set_option maxRecDepth 100000 in
theorem scalar_Do.calls (k : Nat) (a0_0 : Int) (a0_1 : Bool) (a1 : Int) (a2 : Int) (r1 : Int) (r2 : Bool) (w : World) (h : scalar_Do.f k a0_0 a0_1 a1 a2 = some (r1, r2)) :
    Calls Try.prog 81 #[.agg #[.int .i64 a0_0, .bool a0_1], .int .i64 a1, .int .i64 a2] w fun e w' => e = .returned (.tuple #[.int .i64 r1, .bool r2]) ∧ Below w.heap.size w w' := by
  have hu59 := Try.underlying59
  have HB := Aside0.mk (Below.refl w.heap.size w)
  have H : (if a0_1 = true then ((scalar_Two.f k a0_0 a2 a1).bind fun bt565 => (some (bt565.1, bt565.2))) else ((scalar_Two.f k a0_0 a1 a2).bind fun bt567 => (some (bt567.1, bt567.2)))) = some (r1, r2) := h
  clear h
  by_cases c4 : a0_1 = true
  · subst c4
    have H1 : ((scalar_Two.f k a0_0 a2 a1).bind fun bt565 => (some (bt565.1, bt565.2))) = some (r1, r2) := by rw [if_pos rfl] at H; exact H
    clear H
    have H := H1
    clear H1
    replace H := Option.bind_eq_some_iff.mp H
    obtain ⟨⟨t565, t566⟩, A50, H⟩ := H
    replace H : (some (t565, t566)) = some (r1, r2) := H
    have A5 := Aside0.mk A50
    clear A50
    simp only [Option.some.injEq, Prod.mk.injEq] at H
    obtain ⟨rfl, rfl⟩ := H
    go_enter Try.func81, Try.ntmps81
    go_wp2_with (first | ((with_reducible refine gate_dst (N := 3) rfl ?_); refine box_event ?hg (N := 3) ?hd (cs := #[.int .i64 a0_0, .bool true]) (t := 59) ?hr ?_; (case hd => rfl); (case hg => rfl); (case hr => first | (go_simp; done) | (go_simp; rfl)); intro gb564 hg w6 hbox hb; have n0_ := Aside0.mk (below_step (by repeat (first | (with_reducible first | exact HB.out | apply below_alloc | apply pw_below_drewN | apply below_drew1) | exact HB.out)) hb); have n1_ := Aside0.mk (hbox); have n2_ := Aside0.mk ((by rw [hg]; exact (below_size (by repeat (first | (with_reducible first | exact HB.out | apply below_alloc | apply pw_below_drewN | apply below_drew1) | exact HB.out))) : w.heap.size ≤ gb564)); have n3_ := Aside0.mk ((by rw [hg]; exact (below_size (by repeat (first | (with_reducible first | exact HB.out | apply below_alloc | apply pw_below_drewN | apply below_drew1) | exact HB.out))) : w.heap.size ≤ gb564)); clear HB; have HB := n0_; have BK564 := n1_; have GW564 := n2_; have GE564 := n3_; clear n0_ n1_ n2_ n3_; clear hb hbox hg; have hcz7_0 : w6.cell? ⟨gb564, 0, none⟩ = some (.int .i64 a0_0) := (blk_cell BK564.out 0).trans rfl; have hcz7_1 : w6.cell? ⟨gb564, 1, none⟩ = some (.bool true) := (blk_cell BK564.out 1).trans rfl; have hfz7_0 := blk_frozen BK564.out 0; have hfz7_1 := blk_frozen BK564.out 1) | ((with_reducible refine gate_callee (f := 79) rfl ?_); refine goesL_ (some 16) rfl rfl Try.func79 (by kernel_rfl) rfl #[.int .i64 a0_0, .int .i64 a2, .int .i64 a1] rfl (by (try simp only [List.map_toArray, List.map_cons, List.map_nil]); first | done | rfl | (simp only [List.length_drop, List.length_take]; rfl)) ?_; (with_reducible refine (scalar_Two.calls k a0_0 a2 a1 t565 t566 _ A5.out).mono ?_); rintro e w8 ⟨rfl, hb⟩; refine ⟨_, rfl, ?_⟩; have n0_ := Aside0.mk (blk_below (g := gb564) (o := .cells #[.int .i64 a0_0, .bool true] 59 (0, 0)) (by (with_reducible repeat (first | refine blk_drewN ?_ _ | refine blk_drew ?_ | refine blk_alloc ?_ _)); exact BK564.out) hb); have n1_ := Aside0.mk (below_step (by repeat (first | (with_reducible first | exact HB.out | apply below_alloc | apply pw_below_drewN | apply below_drew1 | refine below_set ?_ GE564.out) | exact HB.out)) hb); clear BK564; clear HB; have BK564 := n0_; have HB := n1_; clear n0_ n1_; (try clear hb); (try clear hb2); (try clear hk); (try clear hi)))
    go_ret2
    exact ⟨by first | rfl | (simp [errW_none, errW_some] <;> rfl) | (simp [*, errW_none, errW_some] <;> rfl), by repeat (first | (with_reducible first | exact HB.out | apply below_alloc | apply pw_below_drewN | apply below_drew1 | refine below_set ?_ GE564.out) | exact HB.out)⟩
  · replace c4 := Bool.eq_false_iff.mpr c4
    subst c4
    have H1 : ((scalar_Two.f k a0_0 a1 a2).bind fun bt567 => (some (bt567.1, bt567.2))) = some (r1, r2) := by rw [if_neg (show ¬ (false = true) by decide)] at H; exact H
    clear H
    have H := H1
    clear H1
    replace H := Option.bind_eq_some_iff.mp H
    obtain ⟨⟨t567, t568⟩, A90, H⟩ := H
    replace H : (some (t567, t568)) = some (r1, r2) := H
    have A9 := Aside0.mk A90
    clear A90
    simp only [Option.some.injEq, Prod.mk.injEq] at H
    obtain ⟨rfl, rfl⟩ := H
    go_enter Try.func81, Try.ntmps81
    go_wp2_with (first | ((with_reducible refine gate_dst (N := 3) rfl ?_); refine box_event ?hg (N := 3) ?hd (cs := #[.int .i64 a0_0, .bool false]) (t := 59) ?hr ?_; (case hd => rfl); (case hg => rfl); (case hr => first | (go_simp; done) | (go_simp; rfl)); intro gb564 hg w10 hbox hb; have n0_ := Aside0.mk (below_step (by repeat (first | (with_reducible first | exact HB.out | apply below_alloc | apply pw_below_drewN | apply below_drew1) | exact HB.out)) hb); have n1_ := Aside0.mk (hbox); have n2_ := Aside0.mk ((by rw [hg]; exact (below_size (by repeat (first | (with_reducible first | exact HB.out | apply below_alloc | apply pw_below_drewN | apply below_drew1) | exact HB.out))) : w.heap.size ≤ gb564)); have n3_ := Aside0.mk ((by rw [hg]; exact (below_size (by repeat (first | (with_reducible first | exact HB.out | apply below_alloc | apply pw_below_drewN | apply below_drew1) | exact HB.out))) : w.heap.size ≤ gb564)); clear HB; have HB := n0_; have BK564 := n1_; have GW564 := n2_; have GE564 := n3_; clear n0_ n1_ n2_ n3_; clear hb hbox hg; have hcz11_0 : w10.cell? ⟨gb564, 0, none⟩ = some (.int .i64 a0_0) := (blk_cell BK564.out 0).trans rfl; have hcz11_1 : w10.cell? ⟨gb564, 1, none⟩ = some (.bool false) := (blk_cell BK564.out 1).trans rfl; have hfz11_0 := blk_frozen BK564.out 0; have hfz11_1 := blk_frozen BK564.out 1) | ((with_reducible refine gate_callee (f := 79) rfl ?_); refine goesL_ (some 16) rfl rfl Try.func79 (by kernel_rfl) rfl #[.int .i64 a0_0, .int .i64 a1, .int .i64 a2] rfl (by (try simp only [List.map_toArray, List.map_cons, List.map_nil]); first | done | rfl | (simp only [List.length_drop, List.length_take]; rfl)) ?_; (with_reducible refine (scalar_Two.calls k a0_0 a1 a2 t567 t568 _ A9.out).mono ?_); rintro e w12 ⟨rfl, hb⟩; refine ⟨_, rfl, ?_⟩; have n0_ := Aside0.mk (blk_below (g := gb564) (o := .cells #[.int .i64 a0_0, .bool false] 59 (0, 0)) (by (with_reducible repeat (first | refine blk_drewN ?_ _ | refine blk_drew ?_ | refine blk_alloc ?_ _)); exact BK564.out) hb); have n1_ := Aside0.mk (below_step (by repeat (first | (with_reducible first | exact HB.out | apply below_alloc | apply pw_below_drewN | apply below_drew1 | refine below_set ?_ GE564.out) | exact HB.out)) hb); clear BK564; clear HB; have BK564 := n0_; have HB := n1_; clear n0_ n1_; (try clear hb); (try clear hb2); (try clear hk); (try clear hi)))
    go_ret2
    exact ⟨by first | rfl | (simp [errW_none, errW_some] <;> rfl) | (simp [*, errW_none, errW_some] <;> rfl), by repeat (first | (with_reducible first | exact HB.out | apply below_alloc | apply pw_below_drewN | apply below_drew1 | refine below_set ?_ GE564.out) | exact HB.out)⟩
end Go.Proofs.Ytmfgdgmpblkadaa.PAll
