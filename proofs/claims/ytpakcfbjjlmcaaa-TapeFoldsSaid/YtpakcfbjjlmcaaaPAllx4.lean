-- by the kit's print over this seat, several laws in one namespace (called by our plug.py)
import Derived.Test.YtpakcfbjjlmcaaaPAllx0
namespace Go.Proofs.Ytpakcfbjjlmcaaa.PAll
open Go.RowKit Go.Proofs.YtpakcfbjjlmcaaaW.PrintWords Go.Proofs.YtpakcfbjjlmcaaaW.PrintLast Go.Proofs.YtpakcfbjjlmcaaaW.PrintMore
attribute [local go_sem] max2_int min2_int max_two min_two max_three min_three max_four min_four   -- for this text's walks alone
set_option linter.unusedVariables false
set_option linter.unusedSimpArgs false

/-! ### rifflelaw16_Great: function 56 -/
mutual
def rifflelaw16_Great.l0 : Nat → List (S95) → Int → Option (Bool)
  | 0, _, _ => none
  | k + 1, x0, x3 => if x3 < (x0.length : Int) then (rifflelaw16_Great.j1 k x0 x3 (decide (x3 < 40))) else (rifflelaw16_Great.j1 k x0 x3 false)
def rifflelaw16_Great.j1 : Nat → List (S95) → Int → Bool → Option (Bool)
  | 0, _, _, _ => none
  | k + 1, x0, x3, x12 => if x12 = true then (if 0 ≤ x3 then (if x3 < (x0.length : Int) then (if (((rd_T95 x0 x3).f2).length : Int) > 20 then (some true) else (rifflelaw16_Great.l1 k x0 x3 0)) else (none)) else (none)) else (some (decide ((x0.length : Int) > 40)))
def rifflelaw16_Great.l1 : Nat → List (S95) → Int → Int → Option (Bool)
  | 0, _, _, _ => none
  | k + 1, x0, x3, x4 => if 0 ≤ x3 then (if x3 < (x0.length : Int) then (if x4 < (((rd_T95 x0 x3).f2).length : Int) then (if 0 ≤ x4 then (if ((rd_L1 ((rd_T95 x0 x3).f2) x4).length : Int) > 70 then (some true) else (rifflelaw16_Great.l1 k x0 x3 (wrap64 (x4 + 1)))) else (none)) else (rifflelaw16_Great.l0 k x0 (wrap64 (x3 + 1)))) else (none)) else (none)
end
def rifflelaw16_Great.f (k : Nat) (l0 : List (S95)) : Option (Bool) := rifflelaw16_Great.l0 k l0 0
theorem rifflelaw16_Great.mono_l : ∀ k, (∀ y0 y1, LeO (rifflelaw16_Great.l0 k y0 y1) (rifflelaw16_Great.l0 (k + 1) y0 y1)) ∧ (∀ y0 y1 y2, LeO (rifflelaw16_Great.j1 k y0 y1 y2) (rifflelaw16_Great.j1 (k + 1) y0 y1 y2)) ∧ (∀ y0 y1 y2, LeO (rifflelaw16_Great.l1 k y0 y1 y2) (rifflelaw16_Great.l1 (k + 1) y0 y1 y2))
  | 0 => ⟨fun _ _ r h => by simp [rifflelaw16_Great.l0] at h, fun _ _ _ r h => by simp [rifflelaw16_Great.j1] at h, fun _ _ _ r h => by simp [rifflelaw16_Great.l1] at h⟩
  | k + 1 => by
    obtain ⟨ih0, ih1, ih2⟩ := rifflelaw16_Great.mono_l k
    refine ⟨?_, ?_, ?_⟩
    · intro y0 y1
      unfold rifflelaw16_Great.l0
      repeat' first
      | (with_reducible exact ih0 _ _)
      | (with_reducible exact ih1 _ _ _)
      | (with_reducible exact ih2 _ _ _)
      | (with_reducible exact LeO.refl _)
      | (with_reducible exact LeO.none _)
      | (with_reducible refine LeO.ite ?_ ?_)
      | (with_reducible refine LeO.bind ?_ (fun _ => ?_))
      | exact ih0 _ _
      | exact ih1 _ _ _
      | exact ih2 _ _ _
      | exact LeO.none _
      | refine LeO.ite ?_ ?_
      | refine LeO.bind ?_ (fun _ => ?_)
    · intro y0 y1 y2
      unfold rifflelaw16_Great.j1
      repeat' first
      | (with_reducible exact ih0 _ _)
      | (with_reducible exact ih1 _ _ _)
      | (with_reducible exact ih2 _ _ _)
      | (with_reducible exact LeO.refl _)
      | (with_reducible exact LeO.none _)
      | (with_reducible refine LeO.ite ?_ ?_)
      | (with_reducible refine LeO.bind ?_ (fun _ => ?_))
      | exact ih0 _ _
      | exact ih1 _ _ _
      | exact ih2 _ _ _
      | exact LeO.none _
      | refine LeO.ite ?_ ?_
      | refine LeO.bind ?_ (fun _ => ?_)
    · intro y0 y1 y2
      unfold rifflelaw16_Great.l1
      repeat' first
      | (with_reducible exact ih0 _ _)
      | (with_reducible exact ih1 _ _ _)
      | (with_reducible exact ih2 _ _ _)
      | (with_reducible exact LeO.refl _)
      | (with_reducible exact LeO.none _)
      | (with_reducible refine LeO.ite ?_ ?_)
      | (with_reducible refine LeO.bind ?_ (fun _ => ?_))
      | exact ih0 _ _
      | exact ih1 _ _ _
      | exact ih2 _ _ _
      | exact LeO.none _
      | refine LeO.ite ?_ ?_
      | refine LeO.bind ?_ (fun _ => ?_)
theorem rifflelaw16_Great.mono : ∀ a0 k, LeO (rifflelaw16_Great.f k a0) (rifflelaw16_Great.f (k + 1) a0) := by
  intro a0 k
  obtain ⟨ih0, ih1, ih2⟩ := rifflelaw16_Great.mono_l k
  unfold rifflelaw16_Great.f
  repeat' first
      | (with_reducible exact ih0 _ _)
      | (with_reducible exact ih1 _ _ _)
      | (with_reducible exact ih2 _ _ _)
      | (with_reducible exact LeO.refl _)
      | (with_reducible exact LeO.none _)
      | (with_reducible refine LeO.ite ?_ ?_)
      | (with_reducible refine LeO.bind ?_ (fun _ => ?_))
      | exact ih0 _ _
      | exact ih1 _ _ _
      | exact ih2 _ _ _
      | exact LeO.none _
      | refine LeO.ite ?_ ?_
      | refine LeO.bind ?_ (fun _ => ?_)
set_option maxHeartbeats 8000000 in
set_option maxRecDepth 100000 in
theorem rifflelaw16_Great.calls (k : Nat) (A0 : Option Addr) (c0 : Nat) (l0 : List (S95)) (r : Bool) (w : World) (hr0 : Kd.C k95 w A0 l0.length l0) (hc0 : l0.length ≤ c0) (h : rifflelaw16_Great.f k l0 = some r) :
    Calls Try.prog 56 #[.slice A0 l0.length c0] w fun e w' => e = .returned (.bool r) ∧ Drawn0 w w' := by
  have HR0 := Aside0.mk hr0
  have HC0 := Aside0.mk hc0
  clear hr0 hc0
  have H : (rifflelaw16_Great.l0 k l0 0) = some r := h
  clear h
  have H' := Aside0.mk H
  clear H
  go_enter Try.func56, Try.ntmps56
  go_wp2
  go_loopg [3] k (fun kq v3 w' => ∃ (x3_1 : Int), v3 = .int .i64 x3_1 ∧ Aside0 (rifflelaw16_Great.l0 kq l0 x3_1 = some r) ∧ Aside0 (kq ≤ k) ∧ Drawn0 w w')
  case atStart => exact ⟨(0), (by first | rfl | (simp; done) | (simp [*]; done)), H', ⟨Nat.le_refl _⟩, by repeat (first | exact Drawn0.refl _ | apply Drawn0.step)⟩
  case round =>
    clear H'
    obtain ⟨x3_1, rfl, HA, HK1, ⟨m1, rfl⟩⟩ := hrel
    cases gk with
    | zero => exact absurd HA.out (by simp [rifflelaw16_Great.l0])
    | succ k1 =>
      have H := HA.out
      clear HA
      simp only [rifflelaw16_Great.l0] at H
      have HC2 := Aside0.mk H
      clear H
      go_upto_region 2 with (fail)
      go_cut [12] (fun v12 wc => ∃ (kq : Nat) (x12_1 : Bool), v12 = .bool x12_1 ∧ Aside0 (rifflelaw16_Great.j1 kq l0 x3_1 x12_1 = some r) ∧ Aside0 (kq ≤ k1) ∧ Drawn0 w wc)
      case first =>
        have H := HC2.out
        clear HC2
        by_cases c3 : x3_1 < (l0.length : Int)
        · rw [if_pos c3] at H
          have c3b0 : decide (x3_1 < (l0.length : Int)) = true := decide_eq_true c3
          clear c3
          (first | rw [c3b0] | (simp only [i64_w, i32_w]; rw [c3b0]) | skip)
          have H' := Aside0.mk H
          clear H
          go_wp2
          go_meet
          case rel => exact ⟨_, (decide (x3_1 < 40)), (by first | rfl | (simp; done) | (simp [*]; done)), H', ⟨by have := HK1.out; first | omega | exact Nat.le_refl _⟩, by repeat (first | exact Drawn0.refl _ | apply Drawn0.step)⟩
        · rw [if_neg c3] at H
          have c3b0 : decide (x3_1 < (l0.length : Int)) = false := decide_eq_false c3
          clear c3
          (first | rw [c3b0] | (simp only [i64_w, i32_w]; rw [c3b0]) | skip)
          have H' := Aside0.mk H
          clear H
          go_wp2
          go_meet
          case rel => exact ⟨_, (false), (by first | rfl | (simp; done) | (simp [*]; done)), H', ⟨by have := HK1.out; first | omega | exact Nat.le_refl _⟩, by repeat (first | exact Drawn0.refl _ | apply Drawn0.step)⟩
      case rest =>
        clear HC2
        try clear p2
        try clear c3
        try clear c3b0
        obtain ⟨kq, x12_1, rfl, HA, HJ1, ⟨mc1, rfl⟩⟩ := hcut
        cases kq with
        | zero => exact absurd HA.out (by simp [rifflelaw16_Great.j1])
        | succ kj1 =>
          have H := HA.out
          clear HA
          simp only [rifflelaw16_Great.j1] at H
          by_cases c4 : x12_1 = true
          · subst c4
            have H1 : (if 0 ≤ x3_1 then (if x3_1 < (l0.length : Int) then (if (((rd_T95 l0 x3_1).f2).length : Int) > 20 then (some true) else (rifflelaw16_Great.l1 kj1 l0 x3_1 0)) else (none)) else (none)) = some r := by rw [if_pos rfl] at H; exact H
            clear H
            have H := H1
            clear H1
            by_cases c5 : 0 ≤ x3_1
            · rw [if_pos c5] at H
              have c5b0 : decide (0 ≤ x3_1) = true := decide_eq_true c5
              clear c5
              by_cases c6 : x3_1 < (l0.length : Int)
              · rw [if_pos c6] at H
                have c6b0 : decide (x3_1 < (l0.length : Int)) = true := decide_eq_true c6
                clear c6
                by_cases c7 : (((rd_T95 l0 x3_1).f2).length : Int) > 20
                · rw [if_pos c7] at H
                  have c7b0 : decide (20 < (((rd_T95 l0 x3_1).f2).length : Int)) = true := decide_eq_true c7
                  have c7b1 : decide (20 < ((rd_T95 l0 x3_1).f2).length) = true := decide_eq_true (by omega)
                  clear c7
                  obtain rfl := Option.some.inj H
                  have p179 : 0 ≤ (x3_1 : Int) := of_decide_eq_true (by first | (with_reducible assumption) | assumption)
                  have q179 : x3_1 < (l0.length : Int) := of_decide_eq_true (by first | (with_reducible assumption) | assumption)
                  obtain ⟨ad179, A179_2, c179_2, e179, hx179_0, hx179_1, hx179_2, hl179_2, hi179_2⟩ := at_T95 HR0.out x3_1 p179 q179
                  cases e179
                  have HR179_2 := Aside0.mk hi179_2
                  have HC179_2 := Aside0.mk hl179_2
                  clear hi179_2 hl179_2
                  replace p179 := eq_true p179
                  replace q179 := eq_true q179
                  go_wp2
                  go_ret
                  exact ⟨by first | rfl | (simp; done) | (simp [*]; done), by repeat (first | exact Drawn0.refl _ | apply Drawn0.step)⟩
                · rw [if_neg c7] at H
                  have c7b0 : decide (20 < (((rd_T95 l0 x3_1).f2).length : Int)) = false := decide_eq_false c7
                  have c7b1 : decide (20 < ((rd_T95 l0 x3_1).f2).length) = false := decide_eq_false (by omega)
                  clear c7
                  have H' := Aside0.mk H
                  clear H
                  have p179 : 0 ≤ (x3_1 : Int) := of_decide_eq_true (by first | (with_reducible assumption) | assumption)
                  have q179 : x3_1 < (l0.length : Int) := of_decide_eq_true (by first | (with_reducible assumption) | assumption)
                  obtain ⟨ad179, A179_2, c179_2, e179, hx179_0, hx179_1, hx179_2, hl179_2, hi179_2⟩ := at_T95 HR0.out x3_1 p179 q179
                  cases e179
                  have HR179_2 := Aside0.mk hi179_2
                  have HC179_2 := Aside0.mk hl179_2
                  clear hi179_2 hl179_2
                  replace p179 := eq_true p179
                  replace q179 := eq_true q179
                  go_wp2
                  go_loopg [4] kj1 (fun kq v4 w' => ∃ (x4_3 : Int), v4 = .int .i64 x4_3 ∧ Aside0 (rifflelaw16_Great.l1 kq l0 x3_1 x4_3 = some r) ∧ Aside0 (kq ≤ kj1) ∧ Drawn0 w w')
                  case atStart => exact ⟨(0), (by first | rfl | (simp; done) | (simp [*]; done)), H', ⟨Nat.le_refl _⟩, by repeat (first | exact Drawn0.refl _ | apply Drawn0.step)⟩
                  case round =>
                    clear H'
                    try clear c1
                    try clear p1
                    try clear q1
                    try clear hx1
                    try clear p2
                    try clear c3
                    try clear c3b0
                    try clear c4
                    try clear c5
                    try clear c5b0
                    try clear c6
                    try clear c6b0
                    try clear c7
                    try clear c7b0
                    try clear c7b1
                    try clear hx179_0
                    try clear hx179_1
                    try clear hx179_2
                    try clear p179
                    try clear p2
                    try clear q179
                    obtain ⟨x4_3, rfl, HA, HK3, ⟨m3, rfl⟩⟩ := hrel
                    cases gk with
                    | zero => exact absurd HA.out (by simp [rifflelaw16_Great.l1])
                    | succ k3 =>
                      have H := HA.out
                      clear HA
                      simp only [rifflelaw16_Great.l1] at H
                      by_cases c8 : 0 ≤ x3_1
                      · rw [if_pos c8] at H
                        have c8b0 : decide (0 ≤ x3_1) = true := decide_eq_true c8
                        clear c8
                        by_cases c9 : x3_1 < (l0.length : Int)
                        · rw [if_pos c9] at H
                          have c9b0 : decide (x3_1 < (l0.length : Int)) = true := decide_eq_true c9
                          clear c9
                          by_cases c10 : x4_3 < (((rd_T95 l0 x3_1).f2).length : Int)
                          · rw [if_pos c10] at H
                            have c10b0 : decide (x4_3 < (((rd_T95 l0 x3_1).f2).length : Int)) = true := decide_eq_true c10
                            clear c10
                            by_cases c11 : 0 ≤ x4_3
                            · rw [if_pos c11] at H
                              have c11b0 : decide (0 ≤ x4_3) = true := decide_eq_true c11
                              clear c11
                              by_cases c12 : ((rd_L1 ((rd_T95 l0 x3_1).f2) x4_3).length : Int) > 70
                              · rw [if_pos c12] at H
                                have c12b0 : decide (70 < ((rd_L1 ((rd_T95 l0 x3_1).f2) x4_3).length : Int)) = true := decide_eq_true c12
                                have c12b1 : decide (70 < (rd_L1 ((rd_T95 l0 x3_1).f2) x4_3).length) = true := decide_eq_true (by omega)
                                clear c12
                                obtain rfl := Option.some.inj H
                                have p180 : 0 ≤ (x3_1 : Int) := of_decide_eq_true (by first | (with_reducible assumption) | assumption)
                                have q180 : x3_1 < (l0.length : Int) := of_decide_eq_true (by first | (with_reducible assumption) | assumption)
                                obtain ⟨ad180, A180_2, c180_2, e180, hx180_0, hx180_1, hx180_2, hl180_2, hi180_2⟩ := at_T95 HR0.out x3_1 p180 q180
                                obtain rfl : ad179 = ad180 := (by injection e180)
                                have HR180_2 := Aside0.mk hi180_2
                                have HC180_2 := Aside0.mk hl180_2
                                clear hi180_2 hl180_2
                                replace p180 := eq_true p180
                                replace q180 := eq_true q180
                                have p181 : 0 ≤ (x3_1 : Int) := of_decide_eq_true (by first | (with_reducible assumption) | assumption)
                                have q181 : x3_1 < (l0.length : Int) := of_decide_eq_true (by first | (with_reducible assumption) | assumption)
                                obtain ⟨ad181, A181_2, c181_2, e181, hx181_0, hx181_1, hx181_2, hl181_2, hi181_2⟩ := at_T95 HR0.out x3_1 p181 q181
                                obtain rfl : ad179 = ad181 := (by injection e181)
                                have HR181_2 := Aside0.mk hi181_2
                                have HC181_2 := Aside0.mk hl181_2
                                clear hi181_2 hl181_2
                                replace p181 := eq_true p181
                                replace q181 := eq_true q181
                                have ea_ := Option.some.inj (hx180_2.symm.trans hx181_2)
                                injection ea_ with ea_ en_ ec_
                                subst ea_
                                subst ec_
                                clear en_
                                have p182 : 0 ≤ (x4_3 : Int) := of_decide_eq_true (by first | (with_reducible assumption) | assumption)
                                have q182 : x4_3 < (((rd_T95 l0 x3_1).f2).length : Int) := of_decide_eq_true (by first | (with_reducible assumption) | assumption)
                                obtain ⟨ad182, A182_0, c182_0, e182, hx182_0, hl182_0, hi182_0⟩ := at_L1 HR181_2.out x4_3 p182 q182
                                cases e182
                                have HR182_0 := Aside0.mk hi182_0
                                have HC182_0 := Aside0.mk hl182_0
                                clear hi182_0 hl182_0
                                replace p182 := eq_true p182
                                replace q182 := eq_true q182
                                go_wp2
                                go_ret
                                exact ⟨by first | rfl | (simp; done) | (simp [*]; done), by repeat (first | exact Drawn0.refl _ | apply Drawn0.step)⟩
                              · rw [if_neg c12] at H
                                have c12b0 : decide (70 < ((rd_L1 ((rd_T95 l0 x3_1).f2) x4_3).length : Int)) = false := decide_eq_false c12
                                have c12b1 : decide (70 < (rd_L1 ((rd_T95 l0 x3_1).f2) x4_3).length) = false := decide_eq_false (by omega)
                                clear c12
                                have H' := Aside0.mk H
                                clear H
                                have p180 : 0 ≤ (x3_1 : Int) := of_decide_eq_true (by first | (with_reducible assumption) | assumption)
                                have q180 : x3_1 < (l0.length : Int) := of_decide_eq_true (by first | (with_reducible assumption) | assumption)
                                obtain ⟨ad180, A180_2, c180_2, e180, hx180_0, hx180_1, hx180_2, hl180_2, hi180_2⟩ := at_T95 HR0.out x3_1 p180 q180
                                obtain rfl : ad179 = ad180 := (by injection e180)
                                have HR180_2 := Aside0.mk hi180_2
                                have HC180_2 := Aside0.mk hl180_2
                                clear hi180_2 hl180_2
                                replace p180 := eq_true p180
                                replace q180 := eq_true q180
                                have p181 : 0 ≤ (x3_1 : Int) := of_decide_eq_true (by first | (with_reducible assumption) | assumption)
                                have q181 : x3_1 < (l0.length : Int) := of_decide_eq_true (by first | (with_reducible assumption) | assumption)
                                obtain ⟨ad181, A181_2, c181_2, e181, hx181_0, hx181_1, hx181_2, hl181_2, hi181_2⟩ := at_T95 HR0.out x3_1 p181 q181
                                obtain rfl : ad179 = ad181 := (by injection e181)
                                have HR181_2 := Aside0.mk hi181_2
                                have HC181_2 := Aside0.mk hl181_2
                                clear hi181_2 hl181_2
                                replace p181 := eq_true p181
                                replace q181 := eq_true q181
                                have ea_ := Option.some.inj (hx180_2.symm.trans hx181_2)
                                injection ea_ with ea_ en_ ec_
                                subst ea_
                                subst ec_
                                clear en_
                                have p182 : 0 ≤ (x4_3 : Int) := of_decide_eq_true (by first | (with_reducible assumption) | assumption)
                                have q182 : x4_3 < (((rd_T95 l0 x3_1).f2).length : Int) := of_decide_eq_true (by first | (with_reducible assumption) | assumption)
                                obtain ⟨ad182, A182_0, c182_0, e182, hx182_0, hl182_0, hi182_0⟩ := at_L1 HR181_2.out x4_3 p182 q182
                                cases e182
                                have HR182_0 := Aside0.mk hi182_0
                                have HC182_0 := Aside0.mk hl182_0
                                clear hi182_0 hl182_0
                                replace p182 := eq_true p182
                                replace q182 := eq_true q182
                                go_wp2
                                go_roundg k3
                                case measure => have := HK1.out; have := HJ1.out; have := HK3.out; omega
                                case rel => exact ⟨(wrap64 (x4_3 + 1)), (by first | rfl | (simp; done) | (simp [*]; done)), H', ⟨by have := HK1.out; have := HJ1.out; have := HK3.out; omega⟩, by repeat (first | exact Drawn0.refl _ | apply Drawn0.step)⟩
                            · rw [if_neg c11] at H
                              exact absurd H (by simp)
                          · rw [if_neg c10] at H
                            have c10b0 : decide (x4_3 < (((rd_T95 l0 x3_1).f2).length : Int)) = false := decide_eq_false c10
                            clear c10
                            have H' := Aside0.mk H
                            clear H
                            have p180 : 0 ≤ (x3_1 : Int) := of_decide_eq_true (by first | (with_reducible assumption) | assumption)
                            have q180 : x3_1 < (l0.length : Int) := of_decide_eq_true (by first | (with_reducible assumption) | assumption)
                            obtain ⟨ad180, A180_2, c180_2, e180, hx180_0, hx180_1, hx180_2, hl180_2, hi180_2⟩ := at_T95 HR0.out x3_1 p180 q180
                            obtain rfl : ad179 = ad180 := (by injection e180)
                            have HR180_2 := Aside0.mk hi180_2
                            have HC180_2 := Aside0.mk hl180_2
                            clear hi180_2 hl180_2
                            replace p180 := eq_true p180
                            replace q180 := eq_true q180
                            go_wp2
                            go_roundg k3
                            case measure => have := HK1.out; have := HJ1.out; have := HK3.out; omega
                            case rel => exact ⟨(wrap64 (x3_1 + 1)), (by first | rfl | (simp; done) | (simp [*]; done)), H', ⟨by have := HK1.out; have := HJ1.out; have := HK3.out; omega⟩, by repeat (first | exact Drawn0.refl _ | apply Drawn0.step)⟩
                        · rw [if_neg c9] at H
                          exact absurd H (by simp)
                      · rw [if_neg c8] at H
                        exact absurd H (by simp)
              · rw [if_neg c6] at H
                exact absurd H (by simp)
            · rw [if_neg c5] at H
              exact absurd H (by simp)
          · replace c4 := Bool.eq_false_iff.mpr c4
            subst c4
            have H1 : (some (decide ((l0.length : Int) > 40))) = some r := by rw [if_neg (show ¬ (false = true) by decide)] at H; exact H
            clear H
            have H := H1
            clear H1
            obtain rfl := Option.some.inj H
            go_wp2
            go_ret
            exact ⟨by first | rfl | (simp; done) | (simp [*]; done), by repeat (first | exact Drawn0.refl _ | apply Drawn0.step)⟩

-- NOT PRINTED: function 58 (tape_New)

-- NOT PRINTED: function 61 (tape_Tape_End)

/-- A state of type 144 at block g of W; what its slices lead to came in by w0. -/
def IsS144 (w0 W : World) (g : Nat) (f0 : List (List Int)) (f1 : Int) (f2 : Int) : Prop := ∃ A0 c0, W.heap[g]? = some (.cells #[.slice A0 f0.length c0, .int .i64 f1, .int .i64 f2] 144 (0, 0)) ∧ w0.heap.size ≤ g ∧ Kd.C (Kd.slice 2 (Kd.int .i64)) w0 A0 f0.length f0
theorem IsS144.grown {w0 W : World} {g : Nat} {f0 : List (List Int)} {f1 : Int} {f2 : Int} {W1 : World} {row : Option Nat} (h : IsS144 w0 W g f0 f1 f2) (hw : W.grownBy W1 row) (hne : some g ≠ row) : IsS144 w0 W1 g f0 f1 f2 := by
  obtain ⟨A0, c0, hb, hg, hr0⟩ := h
  exact ⟨A0, c0, blk_grown hb hw hne, hg, hr0⟩
theorem IsS144.own_neN {w0 W : World} {g : Nat} {f0 : List (List Int)} {f1 : Int} {f2 : Int} {α : Type} {d : Kd α} {e : Nat} {base : Nat} {ok : Nat → Prop} {v : Value} {xs : List α} (h : IsS144 w0 W g f0 f1 f2) (ho : Kd.N d e W base ok v xs) (ht : e ≠ 144) : some g ≠ v.ownBlock := by
  obtain ⟨A0, c0, hb, hg, hr0⟩ := h
  exact Kd.N_ne ho hb ht
theorem IsS144.fresh {w0 W : World} {g : Nat} {f0 : List (List Int)} {f1 : Int} {f2 : Int} (h : IsS144 w0 W g f0 f1 f2) : ∀ k, W.heap.size ≤ k → k ≠ g := by
  obtain ⟨A0, c0, hb, hg, hr0⟩ := h
  exact Kd.freshB hb
theorem IsS144.kept {w0 W : World} {g : Nat} {f0 : List (List Int)} {f1 : Int} {f2 : Int} {W1 : World} {S : Nat → Prop} (h : IsS144 w0 W g f0 f1 f2) (hk : Kept W W1 S) (hne : ¬ S g) : IsS144 w0 W1 g f0 f1 f2 := by
  obtain ⟨A0, c0, hb, hg, hr0⟩ := h
  exact ⟨A0, c0, blk_kept hb hk hne, hg, hr0⟩
theorem IsS144.below {w0 W : World} {g : Nat} {f0 : List (List Int)} {f1 : Int} {f2 : Int} {W1 : World} (h : IsS144 w0 W g f0 f1 f2) (hw : Below W.heap.size W W1) : IsS144 w0 W1 g f0 f1 f2 := h.grown (grown_of_below hw none) (by simp)
theorem IsS144.alloc {w0 W : World} {g : Nat} {f0 : List (List Int)} {f1 : Int} {f2 : Int} (h : IsS144 w0 W g f0 f1 f2) (o : Obj) : IsS144 w0 (W.alloc o) g f0 f1 f2 := h.below (below_alloc (Below.refl _ _) o)
theorem IsS144.drewN {w0 W : World} {g : Nat} {f0 : List (List Int)} {f1 : Int} {f2 : Int} (h : IsS144 w0 W g f0 f1 f2) (m : Nat) : IsS144 w0 (W.drewN m) g f0 f1 f2 := h
theorem IsS144.drew {w0 W : World} {g : Nat} {f0 : List (List Int)} {f1 : Int} {f2 : Int} (h : IsS144 w0 W g f0 f1 f2) : IsS144 w0 W.drew g f0 f1 f2 := h
theorem IsS144.at_ {w0 W : World} {g : Nat} {f0 : List (List Int)} {f1 : Int} {f2 : Int} {w' : World} {m : Nat} (hq : W.drewN m = w') (h : IsS144 w0 W g f0 f1 f2) : IsS144 w0 w' g f0 f1 f2 := by subst hq; exact IsS144.drewN h m
theorem IsS144.apart {w0 W : World} {g : Nat} {f0 : List (List Int)} {f1 : Int} {f2 : Int} {α : Type} {d : Kd α} {e : Nat} {base : Nat} {ok : Nat → Prop} {v : Value} {xs : List α} (h : IsS144 w0 W g f0 f1 f2) (ho : d.R e W base ok v xs) (ht : ∀ q, q ∈ e :: d.E → q ≠ 144) : d.R e W base (fun k => ok k ∧ k ≠ g) v xs := by
  obtain ⟨A0, c0, hb, hg, hr0⟩ := h
  exact Kd.R_types ho hb ht
theorem IsS144.own_ne {w0 W : World} {g : Nat} {f0 : List (List Int)} {f1 : Int} {f2 : Int} {α : Type} {d : Kd α} {e : Nat} {base : Nat} {ok : Nat → Prop} {v : Value} {xs : List α} (h : IsS144 w0 W g f0 f1 f2) (ho : d.R e W base ok v xs) (ht : e ≠ 144) : some g ≠ v.ownBlock := by
  obtain ⟨A0, c0, hb, hg, hr0⟩ := h
  exact Kd.R_ne ho hb ht
theorem IsS144.apartQ {w0 W : World} {g : Nat} {f0 : List (List Int)} {f1 : Int} {f2 : Int} {α : Type} {d : Kd α} {e : Nat} {base : Nat} {ok : Nat → Prop} {v : Value} {xs : List α} (h : IsS144 w0 W g f0 f1 f2) (ho : d.Q e W base ok v xs) (ht : ∀ q, q ∈ e :: d.E → q ≠ 144) : d.Q e W base (fun k => ok k ∧ k ≠ g) v xs := by
  obtain ⟨A0, c0, hb, hg, hr0⟩ := h
  exact Kd.Q_types ho hb ht
theorem IsS144.own_neQ {w0 W : World} {g : Nat} {f0 : List (List Int)} {f1 : Int} {f2 : Int} {α : Type} {d : Kd α} {e : Nat} {base : Nat} {ok : Nat → Prop} {v : Value} {xs : List α} (h : IsS144 w0 W g f0 f1 f2) (ho : d.Q e W base ok v xs) (ht : e ≠ 144) : some g ≠ v.ownBlock := by
  obtain ⟨A0, c0, hb, hg, hr0⟩ := h
  exact Kd.Q_ne ho hb ht
theorem IsS144.apartS {w0 W : World} {g : Nat} {f0 : List (List Int)} {f1 : Int} {f2 : Int} {α : Type} {d : Kd α} {e : Nat} {base : Nat} {ok : Nat → Prop} {v : Value} {xs : List α} (h : IsS144 w0 W g f0 f1 f2) (ho : d.S e W base ok v xs) (ht : ∀ q, q ∈ e :: d.E → q ≠ 144) : d.S e W base (fun k => ok k ∧ k ≠ g) v xs := by
  obtain ⟨A0, c0, hb, hg, hr0⟩ := h
  exact Kd.S_types ho hb ht
theorem IsS144.own_neS {w0 W : World} {g : Nat} {f0 : List (List Int)} {f1 : Int} {f2 : Int} {α : Type} {d : Kd α} {e : Nat} {base : Nat} {ok : Nat → Prop} {v : Value} {xs : List α} (h : IsS144 w0 W g f0 f1 f2) (ho : d.S e W base ok v xs) (ht : e ≠ 144) : some g ≠ v.ownBlock := by
  obtain ⟨A0, c0, hb, hg, hr0⟩ := h
  exact Kd.S_ne ho hb ht
theorem IsS144.lt {w0 W : World} {g : Nat} {f0 : List (List Int)} {f1 : Int} {f2 : Int} (h : IsS144 w0 W g f0 f1 f2) : g < W.heap.size := by
  obtain ⟨A0, c0, hb, hg, hr0⟩ := h
  exact blk_lt hb
theorem IsS144.ge {w0 W : World} {g : Nat} {f0 : List (List Int)} {f1 : Int} {f2 : Int} (h : IsS144 w0 W g f0 f1 f2) : w0.heap.size ≤ g := by
  obtain ⟨A0, c0, hb, hg, hr0⟩ := h
  exact hg
theorem IsS144.ne_blk {w0 W : World} {g : Nat} {f0 : List (List Int)} {f1 : Int} {f2 : Int} {a : Nat} {cs : Array Value} {t : TypeId} {fr : Nat × Nat} (h : IsS144 w0 W g f0 f1 f2) (hb2 : W.heap[a]? = some (.cells cs t fr)) (ht : t ≠ 144) : g ≠ a := by
  obtain ⟨A0, c0, hb, hg, hr0⟩ := h
  rintro rfl
  rw [hb] at hb2
  injection hb2 with hb2
  injection hb2 with _ ht2
  exact ht ht2.symm
theorem IsS144.far {w0 W : World} {g : Nat} {f0 : List (List Int)} {f1 : Int} {f2 : Int} {p : Addr} (h : IsS144 w0 W g f0 f1 f2) (hne : g ≠ p.block) (u : Value) : IsS144 w0 (W.setCell p u) g f0 f1 f2 := by
  obtain ⟨A0, c0, hb, hg, hr0⟩ := h
  exact ⟨A0, c0, blk_far hb hne u, hg, hr0⟩
theorem cellS144_0 {W : World} {g : Nat} {A0 : Option Addr} {c0 : Nat} {f0 : List (List Int)} {f1 : Int} {f2 : Int} (h : W.heap[g]? = some (.cells #[.slice A0 f0.length c0, .int .i64 f1, .int .i64 f2] 144 (0, 0))) : W.cell? ⟨g, 0, none⟩ = some (.slice A0 f0.length c0) := (blk_cell h 0).trans rfl
theorem cellS144_1 {W : World} {g : Nat} {A0 : Option Addr} {c0 : Nat} {f0 : List (List Int)} {f1 : Int} {f2 : Int} (h : W.heap[g]? = some (.cells #[.slice A0 f0.length c0, .int .i64 f1, .int .i64 f2] 144 (0, 0))) : W.cell? ⟨g, 1, none⟩ = some (.int .i64 f1) := (blk_cell h 1).trans rfl
theorem IsS144.set_1 {w0 W : World} {g : Nat} {f0 : List (List Int)} {f1 : Int} {f2 : Int} (h : IsS144 w0 W g f0 f1 f2) (x : Int) : IsS144 w0 (W.setCell ⟨g, 1, none⟩ (.int .i64 x)) g f0 x f2 := by
  obtain ⟨A0, c0, hb, hg, hr0⟩ := h
  exact ⟨A0, c0, by simpa using blk_set hb 1 (.int .i64 x), hg, hr0⟩
theorem cellS144_2 {W : World} {g : Nat} {A0 : Option Addr} {c0 : Nat} {f0 : List (List Int)} {f1 : Int} {f2 : Int} (h : W.heap[g]? = some (.cells #[.slice A0 f0.length c0, .int .i64 f1, .int .i64 f2] 144 (0, 0))) : W.cell? ⟨g, 2, none⟩ = some (.int .i64 f2) := (blk_cell h 2).trans rfl
theorem IsS144.set_2 {w0 W : World} {g : Nat} {f0 : List (List Int)} {f1 : Int} {f2 : Int} (h : IsS144 w0 W g f0 f1 f2) (x : Int) : IsS144 w0 (W.setCell ⟨g, 2, none⟩ (.int .i64 x)) g f0 f1 x := by
  obtain ⟨A0, c0, hb, hg, hr0⟩ := h
  exact ⟨A0, c0, by simpa using blk_set hb 2 (.int .i64 x), hg, hr0⟩
theorem IsS144.new (w0 W : World) (A0 : Option Addr) (c0 : Nat) (f0 : List (List Int)) (f1 : Int) (f2 : Int) (hB : Below w0.heap.size w0 W) (hr0 : Kd.C (Kd.slice 2 (Kd.int .i64)) w0 A0 f0.length f0) : IsS144 w0 (W.alloc (.cells #[.slice A0 f0.length c0, .int .i64 f1, .int .i64 f2] 144)) W.heap.size f0 f1 f2 := ⟨A0, c0, by simpa using heap_alloc_new W _, hB.size, hr0⟩

/-! ### tape_Tape_fits: function 87 -/
def tape_Tape_fits.l0 : Nat → List (List Int) → Int → Int → List (List Int) → Int → Int → Option (Bool × Int × Int)
  | 0, _, _, _, _, _, _ => none
  | k + 1, x7, x8, x9, x1000, x1001, x1002 => if x9 < x8 then (if 0 ≤ x9 then (if x9 < (x7.length : Int) then (if ((rd_L1 x7 x9).length : Int) = x1002 then (tape_Tape_fits.l0 k x7 x8 (wrap64 (x9 + 1)) x1000 x1001 x1002) else (some (false, x1001, x1002))) else (none)) else (none)) else (some (true, x1001, x1002))
def tape_Tape_fits.f (k : Nat) (s0_0 : List (List Int)) (s0_1 : Int) (s0_2 : Int) (l1 : List (List Int)) : Option (Bool × Int × Int) := tape_Tape_fits.l0 k l1 (l1.length : Int) 0 s0_0 s0_1 s0_2
theorem tape_Tape_fits.mono_l : ∀ k, (∀ y0 y1 y2 y3 y4 y5, LeO (tape_Tape_fits.l0 k y0 y1 y2 y3 y4 y5) (tape_Tape_fits.l0 (k + 1) y0 y1 y2 y3 y4 y5))
  | 0 => fun _ _ _ _ _ _ r h => by simp [tape_Tape_fits.l0] at h
  | k + 1 => by
    have ih0 := tape_Tape_fits.mono_l k
    · intro y0 y1 y2 y3 y4 y5
      unfold tape_Tape_fits.l0
      repeat' first
      | (with_reducible exact ih0 _ _ _ _ _ _)
      | (with_reducible exact LeO.refl _)
      | (with_reducible exact LeO.none _)
      | (with_reducible refine LeO.ite ?_ ?_)
      | (with_reducible refine LeO.bind ?_ (fun _ => ?_))
      | exact ih0 _ _ _ _ _ _
      | exact LeO.none _
      | refine LeO.ite ?_ ?_
      | refine LeO.bind ?_ (fun _ => ?_)
theorem tape_Tape_fits.mono : ∀ a0 a1 a2 a3 k, LeO (tape_Tape_fits.f k a0 a1 a2 a3) (tape_Tape_fits.f (k + 1) a0 a1 a2 a3) := by
  intro a0 a1 a2 a3 k
  have ih0 := tape_Tape_fits.mono_l k
  unfold tape_Tape_fits.f
  repeat' first
      | (with_reducible exact ih0 _ _ _ _ _ _)
      | (with_reducible exact LeO.refl _)
      | (with_reducible exact LeO.none _)
      | (with_reducible refine LeO.ite ?_ ?_)
      | (with_reducible refine LeO.bind ?_ (fun _ => ?_))
      | exact ih0 _ _ _ _ _ _
      | exact LeO.none _
      | refine LeO.ite ?_ ?_
      | refine LeO.bind ?_ (fun _ => ?_)
set_option maxHeartbeats 8000000 in
set_option maxRecDepth 100000 in
theorem tape_Tape_fits.calls (k : Nat) (g : Nat) (s0_0 : List (List Int)) (s0_1 : Int) (s0_2 : Int) (A1 : Option Addr) (c1 : Nat) (l1 : List (List Int)) (r1 : Bool) (r2 : Int) (r3 : Int) (w0 w : World) (hI : IsS144 w0 w g s0_0 s0_1 s0_2) (hB : Below w0.heap.size w0 w) (hr1 : ∀ W_, KeepBut w W_ g none → Kd.C (Kd.slice 2 (Kd.int .i64)) W_ A1 l1.length l1) (hc1 : l1.length ≤ c1) (h : tape_Tape_fits.f k s0_0 s0_1 s0_2 l1 = some (r1, r2, r3)) :
    Calls Try.prog 87 #[.pointer (some ⟨g, 0, none⟩), .slice A1 l1.length c1] w fun e w' => e = .returned (.bool r1) ∧ IsS144 w0 w' g s0_0 r2 r3 ∧ Below w0.heap.size w0 w' ∧ KeepBut w w' g none := by
  have HR1 := Aside0.mk hr1
  have HC1 := Aside0.mk hc1
  clear hr1 hc1
  have HI0 := Aside0.mk hI
  have HK := Aside0.mk (KeepBut.refl w g none)
  have HL := Aside0.mk hB.size
  clear hI
  have HW0 := Aside0.mk hB.size
  have HB := Aside0.mk hB
  clear hB
  have H : (tape_Tape_fits.l0 k l1 (l1.length : Int) 0 s0_0 s0_1 s0_2) = some (r1, r2, r3) := h
  clear h
  have H' := Aside0.mk H
  clear H
  go_enter Try.func87, Try.ntmps87
  go_wp2
  go_loopg [9] k (fun kq v9 w' => ∃ (x9_1 : Int), v9 = .int .i64 x9_1 ∧ Aside0 (tape_Tape_fits.l0 kq l1 (l1.length : Int) x9_1 s0_0 s0_1 s0_2 = some (r1, r2, r3)) ∧ Aside0 (kq ≤ k) ∧ Aside0 (IsS144 w0 w' g s0_0 s0_1 s0_2) ∧ Aside0 (KeepBut w w' g none) ∧ Aside0 (Below w0.heap.size w0 w'))
  case atStart => exact ⟨(0), (by first | rfl | (simp; done) | (simp [*]; done)), H', ⟨Nat.le_refl _⟩, ⟨by repeat (first | (with_reducible first | exact HI0.out | apply IsS144.alloc | apply IsS144.drewN | apply IsS144.drew | apply IsS144.set_1 | apply IsS144.set_2) | exact HI0.out)⟩, ⟨by repeat (first | (with_reducible first | exact HK.out | apply KeepBut.set_ | apply keep_drewN | apply keep_drew | apply keep_alloc) | exact HK.out)⟩, ⟨by repeat (first | (with_reducible first | exact HB.out | apply below_alloc | apply pw_below_drewN | apply below_drew1 | refine below_set ?_ (IsS144.ge HI0.out)) | exact HB.out)⟩⟩
  case round =>
    clear H'
    try clear c1
    try clear p2
    obtain ⟨x9_1, rfl, HA, HK1, HI0, HK, HB⟩ := hrel
    cases gk with
    | zero => exact absurd HA.out (by simp [tape_Tape_fits.l0])
    | succ k1 =>
      have H := HA.out
      clear HA
      simp only [tape_Tape_fits.l0] at H
      by_cases c3 : x9_1 < (l1.length : Int)
      · rw [if_pos c3] at H
        have c3b0 : decide (x9_1 < (l1.length : Int)) = true := decide_eq_true c3
        clear c3
        by_cases c4 : 0 ≤ x9_1
        · rw [if_pos c4] at H
          have c4b0 : decide (0 ≤ x9_1) = true := decide_eq_true c4
          clear c4
          by_cases c5 : x9_1 < (l1.length : Int)
          · rw [if_pos c5] at H
            have c5b0 : decide (x9_1 < (l1.length : Int)) = true := decide_eq_true c5
            clear c5
            by_cases c6 : ((rd_L1 l1 x9_1).length : Int) = s0_2
            · rw [if_pos c6] at H
              have c6b0 : (((rd_L1 l1 x9_1).length : Int) == s0_2) = true := beq_iff_eq.mpr c6
              have c6b1 : (((rd_L1 l1 x9_1).length : Int) != s0_2) = false := bne_eq_false_iff_eq.mpr c6
              clear c6
              have H' := Aside0.mk H
              clear H
              have p183 : 0 ≤ (x9_1 : Int) := of_decide_eq_true (by first | (with_reducible assumption) | assumption)
              have q183 : x9_1 < (l1.length : Int) := of_decide_eq_true (by first | (with_reducible assumption) | assumption)
              obtain ⟨ad183, A183_0, c183_0, e183, hx183_0, hl183_0, hi183_0⟩ := at_L1 (Kd.C_foot_now HR1.out HK.out) x9_1 p183 q183
              cases e183
              have HR183_0 := Aside0.mk hi183_0
              have HC183_0 := Aside0.mk hl183_0
              clear hi183_0 hl183_0
              replace p183 := eq_true p183
              replace q183 := eq_true q183
              obtain ⟨ASz7_0, cSz7_0, HGz7, hgz7, HSz7_0⟩ := HI0.out
              have hcz7_0 := cellS144_0 HGz7
              have hcz7_1 := cellS144_1 HGz7
              have hcz7_2 := cellS144_2 HGz7
              have hfz7_1 := blk_frozen HGz7 1
              have hfz7_2 := blk_frozen HGz7 2
              clear HGz7 hgz7
              go_wp2
              go_roundg k1
              case measure => have := HK1.out; omega
              case rel => exact ⟨(wrap64 (x9_1 + 1)), (by first | rfl | (simp; done) | (simp [*]; done)), H', ⟨by have := HK1.out; omega⟩, ⟨by repeat (first | (with_reducible first | exact HI0.out | apply IsS144.alloc | apply IsS144.drewN | apply IsS144.drew | apply IsS144.set_1 | apply IsS144.set_2) | exact HI0.out)⟩, ⟨by repeat (first | (with_reducible first | exact HK.out | apply KeepBut.set_ | apply keep_drewN | apply keep_drew | apply keep_alloc) | exact HK.out)⟩, ⟨by repeat (first | (with_reducible first | exact HB.out | apply below_alloc | apply pw_below_drewN | apply below_drew1 | refine below_set ?_ (IsS144.ge HI0.out)) | exact HB.out)⟩⟩
            · rw [if_neg c6] at H
              have c6b0 : (((rd_L1 l1 x9_1).length : Int) == s0_2) = false := beq_eq_false_iff_ne.mpr c6
              have c6b1 : (((rd_L1 l1 x9_1).length : Int) != s0_2) = true := bne_iff_ne.mpr c6
              simp only [Option.some.injEq, Prod.mk.injEq] at H
              obtain ⟨rfl, rfl, rfl⟩ := H
              have p183 : 0 ≤ (x9_1 : Int) := of_decide_eq_true (by first | (with_reducible assumption) | assumption)
              have q183 : x9_1 < (l1.length : Int) := of_decide_eq_true (by first | (with_reducible assumption) | assumption)
              obtain ⟨ad183, A183_0, c183_0, e183, hx183_0, hl183_0, hi183_0⟩ := at_L1 (Kd.C_foot_now HR1.out HK.out) x9_1 p183 q183
              cases e183
              have HR183_0 := Aside0.mk hi183_0
              have HC183_0 := Aside0.mk hl183_0
              clear hi183_0 hl183_0
              replace p183 := eq_true p183
              replace q183 := eq_true q183
              obtain ⟨ASz8_0, cSz8_0, HGz8, hgz8, HSz8_0⟩ := HI0.out
              have hcz8_0 := cellS144_0 HGz8
              have hcz8_1 := cellS144_1 HGz8
              have hcz8_2 := cellS144_2 HGz8
              have hfz8_1 := blk_frozen HGz8 1
              have hfz8_2 := blk_frozen HGz8 2
              clear HGz8 hgz8
              go_wp2
              go_ret
              exact ⟨by first | rfl | (simp [errW_none, errW_some] <;> rfl) | (simp [*, errW_none, errW_some] <;> rfl), by repeat (first | (with_reducible first | exact HI0.out | apply IsS144.alloc | apply IsS144.drewN | apply IsS144.drew | apply IsS144.set_1 | apply IsS144.set_2) | exact HI0.out), by repeat (first | (with_reducible first | exact HB.out | apply below_alloc | apply pw_below_drewN | apply below_drew1 | refine below_set ?_ (IsS144.ge HI0.out)) | exact HB.out), by repeat (first | (with_reducible first | exact HK.out | apply KeepBut.set_ | apply keep_drewN | apply keep_drew | apply keep_alloc) | exact HK.out)⟩
          · rw [if_neg c5] at H
            exact absurd H (by simp)
        · rw [if_neg c4] at H
          exact absurd H (by simp)
      · rw [if_neg c3] at H
        have c3b0 : decide (x9_1 < (l1.length : Int)) = false := decide_eq_false c3
        clear c3
        simp only [Option.some.injEq, Prod.mk.injEq] at H
        obtain ⟨rfl, rfl, rfl⟩ := H
        go_wp2
        go_ret
        exact ⟨by first | rfl | (simp [errW_none, errW_some] <;> rfl) | (simp [*, errW_none, errW_some] <;> rfl), by repeat (first | (with_reducible first | exact HI0.out | apply IsS144.alloc | apply IsS144.drewN | apply IsS144.drew | apply IsS144.set_1 | apply IsS144.set_2) | exact HI0.out), by repeat (first | (with_reducible first | exact HB.out | apply below_alloc | apply pw_below_drewN | apply below_drew1 | refine below_set ?_ (IsS144.ge HI0.out)) | exact HB.out), by repeat (first | (with_reducible first | exact HK.out | apply KeepBut.set_ | apply keep_drewN | apply keep_drew | apply keep_alloc) | exact HK.out)⟩

end Go.Proofs.Ytpakcfbjjlmcaaa.PAll
