-- by the kit's print over this seat, several laws in one namespace (called by our plug.py)
import Derived.Test.YtmfgdgmpblkadaaPAllx0
import Derived.Test.YtmfgdgmpblkadaaPAllx16
import Derived.Test.YtmfgdgmpblkadaaPAllx17
import Derived.Test.YtmfgdgmpblkadaaPAllx19
namespace Go.Proofs.Ytmfgdgmpblkadaa.PAll
open Go.RowKit Go.Proofs.YtmfgdgmpblkadaaW.PrintWords Go.Proofs.YtmfgdgmpblkadaaW.PrintLast Go.Proofs.YtmfgdgmpblkadaaW.PrintMore
attribute [local go_sem] max2_int min2_int max_two min_two max_three min_three max_four min_four   -- for this text's walks alone
set_option linter.unusedVariables false
set_option linter.unusedSimpArgs false

/-! ### rifflelaw04_ScalarParts: function 12 -/
mutual
def rifflelaw04_ScalarParts.j0 : Nat → Bool → Int → Bool → Option (Bool)
  | 0, _, _, _ => none
  | k + 1, x55, x602000, x602001 => if x55 = true then (some false) else ((scalar_Has.f x602000 2).bind fun t606 => (if t606 = true then ((scalar_Joins.f x602000).bind fun t607 => (rifflelaw04_ScalarParts.j1 k t607 x602000 x602001)) else (rifflelaw04_ScalarParts.j1 k true x602000 x602001)))
def rifflelaw04_ScalarParts.j1 : Nat → Bool → Int → Bool → Option (Bool)
  | 0, _, _, _ => none
  | k + 1, x64, x602000, x602001 => if x64 = true then ((rifflelaw04_lives.f k).bind fun t608 => (some t608)) else (rifflelaw04_ScalarParts.l0 k 0 x602000 x602001)
def rifflelaw04_ScalarParts.l0 : Nat → Int → Int → Bool → Option (Bool)
  | 0, _, _, _ => none
  | k + 1, x11, x602000, x602001 => if x11 < 216 then ((rifflelaw04_three.f k x602000 x602001 (wrap64 ((Int.tmod x11 6) - 2)) (wrap64 ((Int.tmod (wrap64 (Int.tdiv x11 6)) 6) - 2)) (wrap64 ((wrap64 (Int.tdiv x11 36)) - 2))).bind fun bt609 => (if bt609.1 = bt609.2 then (rifflelaw04_ScalarParts.l0 k (wrap64 (x11 + 1)) x602000 x602001) else ((rifflelaw04_lives.f k).bind fun t611 => (some t611)))) else (some false)
end
def rifflelaw04_ScalarParts.f (k : Nat) (a0_0 : Int) (a0_1 : Bool) (a1 : Int) (a2 : Int) : Option (Bool) := (scalar_Two.f k 4 a1 a2).bind fun bt602 => ((scalar_Two.f k 6 a2 a1).bind fun bt604 => (if bt602.2 = true then (if bt604.2 = true then (if a2 = 0 then (rifflelaw04_ScalarParts.j0 k false a0_0 a0_1) else (if (wrap64 ((wrap64 (a2 * bt602.1)) + bt604.1)) = a1 then (if bt604.1 = 0 then (rifflelaw04_ScalarParts.j0 k false a0_0 a0_1) else (rifflelaw04_ScalarParts.j0 k ((decide (bt604.1 < 0)) != (decide (a2 < 0))) a0_0 a0_1)) else (rifflelaw04_ScalarParts.j0 k true a0_0 a0_1))) else (rifflelaw04_ScalarParts.j0 k true a0_0 a0_1)) else (rifflelaw04_ScalarParts.j0 k true a0_0 a0_1)))
theorem rifflelaw04_ScalarParts.mono_l : ∀ k, (∀ y0 y1 y2, LeO (rifflelaw04_ScalarParts.j0 k y0 y1 y2) (rifflelaw04_ScalarParts.j0 (k + 1) y0 y1 y2)) ∧ (∀ y0 y1 y2, LeO (rifflelaw04_ScalarParts.j1 k y0 y1 y2) (rifflelaw04_ScalarParts.j1 (k + 1) y0 y1 y2)) ∧ (∀ y0 y1 y2, LeO (rifflelaw04_ScalarParts.l0 k y0 y1 y2) (rifflelaw04_ScalarParts.l0 (k + 1) y0 y1 y2))
  | 0 => ⟨fun _ _ _ r h => by simp [rifflelaw04_ScalarParts.j0] at h, fun _ _ _ r h => by simp [rifflelaw04_ScalarParts.j1] at h, fun _ _ _ r h => by simp [rifflelaw04_ScalarParts.l0] at h⟩
  | k + 1 => by
    obtain ⟨ih0, ih1, ih2⟩ := rifflelaw04_ScalarParts.mono_l k
    refine ⟨?_, ?_, ?_⟩
    · intro y0 y1 y2
      unfold rifflelaw04_ScalarParts.j0
      repeat' first
      | (with_reducible exact ih0 _ _ _)
      | (with_reducible exact ih1 _ _ _)
      | (with_reducible exact ih2 _ _ _)
      | (with_reducible exact rifflelaw04_lives.mono _)
      | (with_reducible exact rifflelaw04_three.mono _ _ _ _ _ _)
      | (with_reducible exact scalar_Two.mono _ _ _ _)
      | (with_reducible exact LeO.refl _)
      | (with_reducible exact LeO.none _)
      | (with_reducible refine LeO.ite ?_ ?_)
      | (with_reducible refine LeO.bind ?_ (fun _ => ?_))
      | exact ih0 _ _ _
      | exact ih1 _ _ _
      | exact ih2 _ _ _
      | exact rifflelaw04_lives.mono _
      | exact rifflelaw04_three.mono _ _ _ _ _ _
      | exact scalar_Two.mono _ _ _ _
      | exact LeO.none _
      | refine LeO.ite ?_ ?_
      | refine LeO.bind ?_ (fun _ => ?_)
    · intro y0 y1 y2
      unfold rifflelaw04_ScalarParts.j1
      repeat' first
      | (with_reducible exact ih0 _ _ _)
      | (with_reducible exact ih1 _ _ _)
      | (with_reducible exact ih2 _ _ _)
      | (with_reducible exact rifflelaw04_lives.mono _)
      | (with_reducible exact rifflelaw04_three.mono _ _ _ _ _ _)
      | (with_reducible exact scalar_Two.mono _ _ _ _)
      | (with_reducible exact LeO.refl _)
      | (with_reducible exact LeO.none _)
      | (with_reducible refine LeO.ite ?_ ?_)
      | (with_reducible refine LeO.bind ?_ (fun _ => ?_))
      | exact ih0 _ _ _
      | exact ih1 _ _ _
      | exact ih2 _ _ _
      | exact rifflelaw04_lives.mono _
      | exact rifflelaw04_three.mono _ _ _ _ _ _
      | exact scalar_Two.mono _ _ _ _
      | exact LeO.none _
      | refine LeO.ite ?_ ?_
      | refine LeO.bind ?_ (fun _ => ?_)
    · intro y0 y1 y2
      unfold rifflelaw04_ScalarParts.l0
      repeat' first
      | (with_reducible exact ih0 _ _ _)
      | (with_reducible exact ih1 _ _ _)
      | (with_reducible exact ih2 _ _ _)
      | (with_reducible exact rifflelaw04_lives.mono _)
      | (with_reducible exact rifflelaw04_three.mono _ _ _ _ _ _)
      | (with_reducible exact scalar_Two.mono _ _ _ _)
      | (with_reducible exact LeO.refl _)
      | (with_reducible exact LeO.none _)
      | (with_reducible refine LeO.ite ?_ ?_)
      | (with_reducible refine LeO.bind ?_ (fun _ => ?_))
      | exact ih0 _ _ _
      | exact ih1 _ _ _
      | exact ih2 _ _ _
      | exact rifflelaw04_lives.mono _
      | exact rifflelaw04_three.mono _ _ _ _ _ _
      | exact scalar_Two.mono _ _ _ _
      | exact LeO.none _
      | refine LeO.ite ?_ ?_
      | refine LeO.bind ?_ (fun _ => ?_)
theorem rifflelaw04_ScalarParts.mono : ∀ a0 a1 a2 a3 k, LeO (rifflelaw04_ScalarParts.f k a0 a1 a2 a3) (rifflelaw04_ScalarParts.f (k + 1) a0 a1 a2 a3) := by
  intro a0 a1 a2 a3 k
  obtain ⟨ih0, ih1, ih2⟩ := rifflelaw04_ScalarParts.mono_l k
  unfold rifflelaw04_ScalarParts.f
  repeat' first
      | (with_reducible exact ih0 _ _ _)
      | (with_reducible exact ih1 _ _ _)
      | (with_reducible exact ih2 _ _ _)
      | (with_reducible exact rifflelaw04_lives.mono _)
      | (with_reducible exact rifflelaw04_three.mono _ _ _ _ _ _)
      | (with_reducible exact scalar_Two.mono _ _ _ _)
      | (with_reducible exact LeO.refl _)
      | (with_reducible exact LeO.none _)
      | (with_reducible refine LeO.ite ?_ ?_)
      | (with_reducible refine LeO.bind ?_ (fun _ => ?_))
      | exact ih0 _ _ _
      | exact ih1 _ _ _
      | exact ih2 _ _ _
      | exact rifflelaw04_lives.mono _
      | exact rifflelaw04_three.mono _ _ _ _ _ _
      | exact scalar_Two.mono _ _ _ _
      | exact LeO.none _
      | refine LeO.ite ?_ ?_
      | refine LeO.bind ?_ (fun _ => ?_)
set_option maxHeartbeats 8000000 in
set_option maxRecDepth 100000 in
theorem rifflelaw04_ScalarParts.calls (k : Nat) (a0_0 : Int) (a0_1 : Bool) (a1 : Int) (a2 : Int) (r : Bool) (w : World) (h : rifflelaw04_ScalarParts.f k a0_0 a0_1 a1 a2 = some r) :
    Calls Try.prog 12 #[.agg #[.int .i64 a0_0, .bool a0_1], .int .i64 a1, .int .i64 a2] w fun e w' => e = .returned (.bool r) ∧ Below w.heap.size w w' := by
  have hu59 := Try.underlying59
  have HB := Aside0.mk (Below.refl w.heap.size w)
  have H : ((scalar_Two.f k 4 a1 a2).bind fun bt602 => ((scalar_Two.f k 6 a2 a1).bind fun bt604 => (if bt602.2 = true then (if bt604.2 = true then (if a2 = 0 then (rifflelaw04_ScalarParts.j0 k false a0_0 a0_1) else (if (wrap64 ((wrap64 (a2 * bt602.1)) + bt604.1)) = a1 then (if bt604.1 = 0 then (rifflelaw04_ScalarParts.j0 k false a0_0 a0_1) else (rifflelaw04_ScalarParts.j0 k ((decide (bt604.1 < 0)) != (decide (a2 < 0))) a0_0 a0_1)) else (rifflelaw04_ScalarParts.j0 k true a0_0 a0_1))) else (rifflelaw04_ScalarParts.j0 k true a0_0 a0_1)) else (rifflelaw04_ScalarParts.j0 k true a0_0 a0_1)))) = some r := h
  clear h
  replace H := Option.bind_eq_some_iff.mp H
  obtain ⟨⟨t602, t603⟩, A40, H⟩ := H
  replace H : ((scalar_Two.f k 6 a2 a1).bind fun bt604 => (if t603 = true then (if bt604.2 = true then (if a2 = 0 then (rifflelaw04_ScalarParts.j0 k false a0_0 a0_1) else (if (wrap64 ((wrap64 (a2 * t602)) + bt604.1)) = a1 then (if bt604.1 = 0 then (rifflelaw04_ScalarParts.j0 k false a0_0 a0_1) else (rifflelaw04_ScalarParts.j0 k ((decide (bt604.1 < 0)) != (decide (a2 < 0))) a0_0 a0_1)) else (rifflelaw04_ScalarParts.j0 k true a0_0 a0_1))) else (rifflelaw04_ScalarParts.j0 k true a0_0 a0_1)) else (rifflelaw04_ScalarParts.j0 k true a0_0 a0_1))) = some r := H
  have A4 := Aside0.mk A40
  clear A40
  replace H := Option.bind_eq_some_iff.mp H
  obtain ⟨⟨t604, t605⟩, A50, H⟩ := H
  replace H : (if t603 = true then (if t605 = true then (if a2 = 0 then (rifflelaw04_ScalarParts.j0 k false a0_0 a0_1) else (if (wrap64 ((wrap64 (a2 * t602)) + t604)) = a1 then (if t604 = 0 then (rifflelaw04_ScalarParts.j0 k false a0_0 a0_1) else (rifflelaw04_ScalarParts.j0 k ((decide (t604 < 0)) != (decide (a2 < 0))) a0_0 a0_1)) else (rifflelaw04_ScalarParts.j0 k true a0_0 a0_1))) else (rifflelaw04_ScalarParts.j0 k true a0_0 a0_1)) else (rifflelaw04_ScalarParts.j0 k true a0_0 a0_1)) = some r := H
  have A5 := Aside0.mk A50
  clear A50
  have HC6 := Aside0.mk H
  clear H
  go_enter Try.func12, Try.ntmps12
  go_upto_region 3 with (first | ((with_reducible refine gate_dst (N := 3) rfl ?_); refine box_event ?hg (N := 3) ?hd (cs := #[.int .i64 a0_0, .bool a0_1]) (t := 59) ?hr ?_; (case hd => rfl); (case hg => rfl); (case hr => first | (go_simp; done) | (go_simp; rfl)); intro gb601 hg w7 hbox hb; have n0_ := Aside0.mk (below_step (by repeat (first | (with_reducible first | exact HB.out | apply below_alloc | apply pw_below_drewN | apply below_drew1) | exact HB.out)) hb); have n1_ := Aside0.mk (hbox); have n2_ := Aside0.mk ((by rw [hg]; exact (below_size (by repeat (first | (with_reducible first | exact HB.out | apply below_alloc | apply pw_below_drewN | apply below_drew1) | exact HB.out))) : w.heap.size ≤ gb601)); have n3_ := Aside0.mk ((by rw [hg]; exact (below_size (by repeat (first | (with_reducible first | exact HB.out | apply below_alloc | apply pw_below_drewN | apply below_drew1) | exact HB.out))) : w.heap.size ≤ gb601)); clear HB; have HB := n0_; have BK601 := n1_; have GW601 := n2_; have GE601 := n3_; clear n0_ n1_ n2_ n3_; clear hb hbox hg) | ((with_reducible refine gate_callee (f := 79) rfl ?_); refine goesL_ (some 17) rfl rfl Try.func79 (by kernel_rfl) rfl #[.int .i64 4, .int .i64 a1, .int .i64 a2] rfl (by (try simp only [List.map_toArray, List.map_cons, List.map_nil]); first | done | rfl | (simp only [List.length_drop, List.length_take]; rfl)) ?_; (with_reducible refine (scalar_Two.calls k 4 a1 a2 t602 t603 _ A4.out).mono ?_); rintro e w8 ⟨rfl, hb⟩; refine ⟨_, rfl, ?_⟩; have n0_ := Aside0.mk (blk_below (g := gb601) (o := .cells #[.int .i64 a0_0, .bool a0_1] 59 (0, 0)) (by (with_reducible repeat (first | refine blk_drewN ?_ _ | refine blk_drew ?_ | refine blk_alloc ?_ _)); exact BK601.out) hb); have n1_ := Aside0.mk (below_step (by repeat (first | (with_reducible first | exact HB.out | apply below_alloc | apply pw_below_drewN | apply below_drew1 | refine below_set ?_ GE601.out) | exact HB.out)) hb); clear BK601; clear HB; have BK601 := n0_; have HB := n1_; clear n0_ n1_; (try clear hb); (try clear hb2); (try clear hk); (try clear hi)) | ((with_reducible refine gate_callee (f := 79) rfl ?_); refine goesL_ (some 23) rfl rfl Try.func79 (by kernel_rfl) rfl #[.int .i64 6, .int .i64 a2, .int .i64 a1] rfl (by (try simp only [List.map_toArray, List.map_cons, List.map_nil]); first | done | rfl | (simp only [List.length_drop, List.length_take]; rfl)) ?_; (with_reducible refine (scalar_Two.calls k 6 a2 a1 t604 t605 _ A5.out).mono ?_); rintro e w9 ⟨rfl, hb⟩; refine ⟨_, rfl, ?_⟩; have n0_ := Aside0.mk (blk_below (g := gb601) (o := .cells #[.int .i64 a0_0, .bool a0_1] 59 (0, 0)) (by (with_reducible repeat (first | refine blk_drewN ?_ _ | refine blk_drew ?_ | refine blk_alloc ?_ _)); exact BK601.out) hb); have n1_ := Aside0.mk (below_step (by repeat (first | (with_reducible first | exact HB.out | apply below_alloc | apply pw_below_drewN | apply below_drew1 | refine below_set ?_ GE601.out) | exact HB.out)) hb); clear BK601; clear HB; have BK601 := n0_; have HB := n1_; clear n0_ n1_; (try clear hb); (try clear hb2); (try clear hk); (try clear hi)))
  (try simp only [Act.put, List.setIfInBounds_toArray, List.set_cons_zero, List.set_cons_succ])
  go_cut [55] (fun v55 wc => ∃ (kq : Nat) (x55_5 : Bool), v55 = .bool x55_5 ∧ Aside0 (rifflelaw04_ScalarParts.j0 kq x55_5 a0_0 a0_1 = some r) ∧ Aside0 (kq ≤ k) ∧ Aside0 (wc.heap[gb601]? = some (.cells #[.int .i64 a0_0, .bool a0_1] 59 (0, 0))) ∧ Aside0 (Below w.heap.size w wc))
  case first =>
    have H := HC6.out
    clear HC6
    by_cases c10 : t603 = true
    · subst c10
      have H1 : (if t605 = true then (if a2 = 0 then (rifflelaw04_ScalarParts.j0 k false a0_0 a0_1) else (if (wrap64 ((wrap64 (a2 * t602)) + t604)) = a1 then (if t604 = 0 then (rifflelaw04_ScalarParts.j0 k false a0_0 a0_1) else (rifflelaw04_ScalarParts.j0 k ((decide (t604 < 0)) != (decide (a2 < 0))) a0_0 a0_1)) else (rifflelaw04_ScalarParts.j0 k true a0_0 a0_1))) else (rifflelaw04_ScalarParts.j0 k true a0_0 a0_1)) = some r := by rw [if_pos rfl] at H; exact H
      clear H
      have H := H1
      clear H1
      by_cases c11 : t605 = true
      · subst c11
        have H1 : (if a2 = 0 then (rifflelaw04_ScalarParts.j0 k false a0_0 a0_1) else (if (wrap64 ((wrap64 (a2 * t602)) + t604)) = a1 then (if t604 = 0 then (rifflelaw04_ScalarParts.j0 k false a0_0 a0_1) else (rifflelaw04_ScalarParts.j0 k ((decide (t604 < 0)) != (decide (a2 < 0))) a0_0 a0_1)) else (rifflelaw04_ScalarParts.j0 k true a0_0 a0_1))) = some r := by rw [if_pos rfl] at H; exact H
        clear H
        have H := H1
        clear H1
        by_cases c12 : a2 = 0
        · rw [if_pos c12] at H
          have c12b0 : (a2 == 0) = true := beq_iff_eq.mpr c12
          have c12b1 : (a2 != 0) = false := bne_eq_false_iff_eq.mpr c12
          clear c12
          (first | rw [c12b0] | (simp only [i64_w, i32_w]; rw [c12b0]) | skip)
          have H' := Aside0.mk H
          clear H
          go_wp2
          go_meet
          case rel => exact ⟨_, (false), (by first | rfl | (simp; done) | (simp [*]; done)), H', ⟨by first | omega | exact Nat.le_refl _⟩, ⟨by (with_reducible repeat (first | refine blk_drewN ?_ _ | refine blk_drew ?_ | refine blk_alloc ?_ _)); exact BK601.out⟩, ⟨by repeat (first | (with_reducible first | exact HB.out | apply below_alloc | apply pw_below_drewN | apply below_drew1 | refine below_set ?_ GE601.out) | exact HB.out)⟩⟩
        · rw [if_neg c12] at H
          have c12b0 : (a2 == 0) = false := beq_eq_false_iff_ne.mpr c12
          have c12b1 : (a2 != 0) = true := bne_iff_ne.mpr c12
          (first | rw [c12b0] | (simp only [i64_w, i32_w]; rw [c12b0]) | skip)
          by_cases c13 : (wrap64 ((wrap64 (a2 * t602)) + t604)) = a1
          · rw [if_pos c13] at H
            have c13b0 : ((wrap64 ((wrap64 (a2 * t602)) + t604)) == a1) = true := beq_iff_eq.mpr c13
            have c13b1 : ((wrap64 ((wrap64 (a2 * t602)) + t604)) != a1) = false := bne_eq_false_iff_eq.mpr c13
            clear c13
            by_cases c14 : t604 = 0
            · rw [if_pos c14] at H
              have c14b0 : (t604 == 0) = true := beq_iff_eq.mpr c14
              have c14b1 : (t604 != 0) = false := bne_eq_false_iff_eq.mpr c14
              clear c14
              have H' := Aside0.mk H
              clear H
              go_wp2
              go_meet
              case rel => exact ⟨_, (false), (by first | rfl | (simp; done) | (simp [*]; done)), H', ⟨by first | omega | exact Nat.le_refl _⟩, ⟨by (with_reducible repeat (first | refine blk_drewN ?_ _ | refine blk_drew ?_ | refine blk_alloc ?_ _)); exact BK601.out⟩, ⟨by repeat (first | (with_reducible first | exact HB.out | apply below_alloc | apply pw_below_drewN | apply below_drew1 | refine below_set ?_ GE601.out) | exact HB.out)⟩⟩
            · rw [if_neg c14] at H
              have c14b0 : (t604 == 0) = false := beq_eq_false_iff_ne.mpr c14
              have c14b1 : (t604 != 0) = true := bne_iff_ne.mpr c14
              have H' := Aside0.mk H
              clear H
              go_wp2
              go_meet
              case rel => exact ⟨_, (((decide (t604 < 0)) != (decide (a2 < 0)))), (by first | rfl | (simp; done) | (simp [*]; done)), H', ⟨by first | omega | exact Nat.le_refl _⟩, ⟨by (with_reducible repeat (first | refine blk_drewN ?_ _ | refine blk_drew ?_ | refine blk_alloc ?_ _)); exact BK601.out⟩, ⟨by repeat (first | (with_reducible first | exact HB.out | apply below_alloc | apply pw_below_drewN | apply below_drew1 | refine below_set ?_ GE601.out) | exact HB.out)⟩⟩
          · rw [if_neg c13] at H
            have c13b0 : ((wrap64 ((wrap64 (a2 * t602)) + t604)) == a1) = false := beq_eq_false_iff_ne.mpr c13
            have c13b1 : ((wrap64 ((wrap64 (a2 * t602)) + t604)) != a1) = true := bne_iff_ne.mpr c13
            have H' := Aside0.mk H
            clear H
            go_wp2
            go_meet
            case rel => exact ⟨_, (true), (by first | rfl | (simp; done) | (simp [*]; done)), H', ⟨by first | omega | exact Nat.le_refl _⟩, ⟨by (with_reducible repeat (first | refine blk_drewN ?_ _ | refine blk_drew ?_ | refine blk_alloc ?_ _)); exact BK601.out⟩, ⟨by repeat (first | (with_reducible first | exact HB.out | apply below_alloc | apply pw_below_drewN | apply below_drew1 | refine below_set ?_ GE601.out) | exact HB.out)⟩⟩
      · replace c11 := Bool.eq_false_iff.mpr c11
        subst c11
        have H1 : (rifflelaw04_ScalarParts.j0 k true a0_0 a0_1) = some r := by rw [if_neg (show ¬ (false = true) by decide)] at H; exact H
        clear H
        have H := H1
        clear H1
        have H' := Aside0.mk H
        clear H
        go_wp2
        go_meet
        case rel => exact ⟨_, (true), (by first | rfl | (simp; done) | (simp [*]; done)), H', ⟨by first | omega | exact Nat.le_refl _⟩, ⟨by (with_reducible repeat (first | refine blk_drewN ?_ _ | refine blk_drew ?_ | refine blk_alloc ?_ _)); exact BK601.out⟩, ⟨by repeat (first | (with_reducible first | exact HB.out | apply below_alloc | apply pw_below_drewN | apply below_drew1 | refine below_set ?_ GE601.out) | exact HB.out)⟩⟩
    · replace c10 := Bool.eq_false_iff.mpr c10
      subst c10
      have H1 : (rifflelaw04_ScalarParts.j0 k true a0_0 a0_1) = some r := by rw [if_neg (show ¬ (false = true) by decide)] at H; exact H
      clear H
      have H := H1
      clear H1
      have H' := Aside0.mk H
      clear H
      go_wp2
      go_meet
      case rel => exact ⟨_, (true), (by first | rfl | (simp; done) | (simp [*]; done)), H', ⟨by first | omega | exact Nat.le_refl _⟩, ⟨by (with_reducible repeat (first | refine blk_drewN ?_ _ | refine blk_drew ?_ | refine blk_alloc ?_ _)); exact BK601.out⟩, ⟨by repeat (first | (with_reducible first | exact HB.out | apply below_alloc | apply pw_below_drewN | apply below_drew1 | refine below_set ?_ GE601.out) | exact HB.out)⟩⟩
  case rest =>
    clear HC6
    try clear c1
    try clear p2
    try clear p6
    try clear c7
    try clear c10
    try clear c11
    try clear c12
    try clear c12b0
    try clear c12b1
    try clear c13
    try clear c13b0
    try clear c13b1
    try clear c14
    try clear c14b0
    try clear c14b1
    obtain ⟨kq, x55_5, rfl, HA, HJ5, BK601, HB⟩ := hcut
    cases kq with
    | zero => exact absurd HA.out (by simp [rifflelaw04_ScalarParts.j0])
    | succ kj5 =>
      have H := HA.out
      clear HA
      simp only [rifflelaw04_ScalarParts.j0] at H
      by_cases c15 : x55_5 = true
      · subst c15
        have H1 : (some false) = some r := by rw [if_pos rfl] at H; exact H
        clear H
        have H := H1
        clear H1
        obtain rfl := Option.some.inj H
        go_wp2
        go_ret
        exact ⟨by first | rfl | (simp [errW_none, errW_some] <;> rfl) | (simp [*, errW_none, errW_some] <;> rfl), by repeat (first | (with_reducible first | exact HB.out | apply below_alloc | apply pw_below_drewN | apply below_drew1 | refine below_set ?_ GE601.out) | exact HB.out)⟩
      · replace c15 := Bool.eq_false_iff.mpr c15
        subst c15
        have H1 : ((scalar_Has.f a0_0 2).bind fun t606 => (if t606 = true then ((scalar_Joins.f a0_0).bind fun t607 => (rifflelaw04_ScalarParts.j1 kj5 t607 a0_0 a0_1)) else (rifflelaw04_ScalarParts.j1 kj5 true a0_0 a0_1))) = some r := by rw [if_neg (show ¬ (false = true) by decide)] at H; exact H
        clear H
        have H := H1
        clear H1
        have HC16 := Aside0.mk H
        clear H
        go_upto_region 5 with (fail)
        go_cut [64] (fun v64 wc => ∃ (kq : Nat) (x64_15 : Bool), v64 = .bool x64_15 ∧ Aside0 (rifflelaw04_ScalarParts.j1 kq x64_15 a0_0 a0_1 = some r) ∧ Aside0 (kq ≤ kj5) ∧ Aside0 (wc.heap[gb601]? = some (.cells #[.int .i64 a0_0, .bool a0_1] 59 (0, 0))) ∧ Aside0 (Below w.heap.size w wc))
        case first =>
          have H := HC16.out
          clear HC16
          replace H := Option.bind_eq_some_iff.mp H
          obtain ⟨t606, A170, H⟩ := H
          replace H : (if t606 = true then ((scalar_Joins.f a0_0).bind fun t607 => (rifflelaw04_ScalarParts.j1 kj5 t607 a0_0 a0_1)) else (rifflelaw04_ScalarParts.j1 kj5 true a0_0 a0_1)) = some r := H
          have A17 := Aside0.mk A170
          clear A170
          by_cases c18 : t606 = true
          · subst c18
            have H1 : ((scalar_Joins.f a0_0).bind fun t607 => (rifflelaw04_ScalarParts.j1 kj5 t607 a0_0 a0_1)) = some r := by rw [if_pos rfl] at H; exact H
            clear H
            have H := H1
            clear H1
            replace H := Option.bind_eq_some_iff.mp H
            obtain ⟨t607, A190, H⟩ := H
            replace H : (rifflelaw04_ScalarParts.j1 kj5 t607 a0_0 a0_1) = some r := H
            have A19 := Aside0.mk A190
            clear A190
            have H' := Aside0.mk H
            clear H
            have hcz20_0 : wc.cell? ⟨gb601, 0, none⟩ = some (.int .i64 a0_0) := (blk_cell BK601.out 0).trans rfl
            have hcz20_1 : wc.cell? ⟨gb601, 1, none⟩ = some (.bool a0_1) := (blk_cell BK601.out 1).trans rfl
            have hfz20_0 := blk_frozen BK601.out 0
            have hfz20_1 := blk_frozen BK601.out 1
            go_wp2_with (first | ((with_reducible refine gate_callee (f := 84) rfl ?_); refine goesL_ (some 58) rfl rfl Try.func84 (by kernel_rfl) rfl #[.int .i64 a0_0, .int .i64 2] rfl (by (try simp only [List.map_toArray, List.map_cons, List.map_nil]); first | done | rfl | (simp only [List.length_drop, List.length_take]; rfl)) ?_; (with_reducible refine (scalar_Has.calls a0_0 2 true _ A17.out).mono ?_); rintro e w' ⟨rfl, ⟨nd, rfl⟩⟩; refine ⟨_, rfl, ?_⟩) | (go_at_call 85; (with_reducible refine (scalar_Joins.calls a0_0 t607 _ A19.out).mono ?_); rintro e w' ⟨rfl, ⟨nd, rfl⟩⟩))
            go_meet
            case rel => exact ⟨_, (t607), (by first | rfl | (simp; done) | (simp [*]; done)), H', ⟨by have := HJ5.out; first | omega | exact Nat.le_refl _⟩, ⟨by (with_reducible repeat (first | refine blk_drewN ?_ _ | refine blk_drew ?_ | refine blk_alloc ?_ _)); exact BK601.out⟩, ⟨by repeat (first | (with_reducible first | exact HB.out | apply below_alloc | apply pw_below_drewN | apply below_drew1 | refine below_set ?_ GE601.out) | exact HB.out)⟩⟩
          · replace c18 := Bool.eq_false_iff.mpr c18
            subst c18
            have H1 : (rifflelaw04_ScalarParts.j1 kj5 true a0_0 a0_1) = some r := by rw [if_neg (show ¬ (false = true) by decide)] at H; exact H
            clear H
            have H := H1
            clear H1
            have H' := Aside0.mk H
            clear H
            have hcz21_0 : wc.cell? ⟨gb601, 0, none⟩ = some (.int .i64 a0_0) := (blk_cell BK601.out 0).trans rfl
            have hcz21_1 : wc.cell? ⟨gb601, 1, none⟩ = some (.bool a0_1) := (blk_cell BK601.out 1).trans rfl
            have hfz21_0 := blk_frozen BK601.out 0
            have hfz21_1 := blk_frozen BK601.out 1
            go_wp2_with (first | ((with_reducible refine gate_callee (f := 84) rfl ?_); refine goesL_ (some 58) rfl rfl Try.func84 (by kernel_rfl) rfl #[.int .i64 a0_0, .int .i64 2] rfl (by (try simp only [List.map_toArray, List.map_cons, List.map_nil]); first | done | rfl | (simp only [List.length_drop, List.length_take]; rfl)) ?_; (with_reducible refine (scalar_Has.calls a0_0 2 false _ A17.out).mono ?_); rintro e w' ⟨rfl, ⟨nd, rfl⟩⟩; refine ⟨_, rfl, ?_⟩))
            go_meet
            case rel => exact ⟨_, (true), (by first | rfl | (simp; done) | (simp [*]; done)), H', ⟨by have := HJ5.out; first | omega | exact Nat.le_refl _⟩, ⟨by (with_reducible repeat (first | refine blk_drewN ?_ _ | refine blk_drew ?_ | refine blk_alloc ?_ _)); exact BK601.out⟩, ⟨by repeat (first | (with_reducible first | exact HB.out | apply below_alloc | apply pw_below_drewN | apply below_drew1 | refine below_set ?_ GE601.out) | exact HB.out)⟩⟩
        case rest =>
          clear HC16
          try clear c1
          try clear p2
          try clear p6
          try clear c7
          try clear c8
          try clear c10
          try clear c11
          try clear c12
          try clear c12b0
          try clear c12b1
          try clear c13
          try clear c13b0
          try clear c13b1
          try clear c14
          try clear c14b0
          try clear c14b1
          try clear c15
          try clear c18
          try clear hcz20_0
          try clear hcz20_1
          try clear hcz21_0
          try clear hcz21_1
          try clear hfz20_0
          try clear hfz20_1
          try clear hfz21_0
          try clear hfz21_1
          try clear p2
          try clear p6
          obtain ⟨kq, x64_15, rfl, HA, HJ15, BK601, HB⟩ := hcut
          cases kq with
          | zero => exact absurd HA.out (by simp [rifflelaw04_ScalarParts.j1])
          | succ kj15 =>
            have H := HA.out
            clear HA
            simp only [rifflelaw04_ScalarParts.j1] at H
            by_cases c22 : x64_15 = true
            · subst c22
              have H1 : ((rifflelaw04_lives.f kj15).bind fun t608 => (some t608)) = some r := by rw [if_pos rfl] at H; exact H
              clear H
              have H := H1
              clear H1
              replace H := Option.bind_eq_some_iff.mp H
              obtain ⟨t608, A230, H⟩ := H
              replace H : (some t608) = some r := H
              have A23 := Aside0.mk A230
              clear A230
              obtain rfl := Option.some.inj H
              go_wp2_with (first | ((with_reducible refine gate_callee (f := 83) rfl ?_); refine goesL_ (some 65) rfl rfl Try.func83 (by kernel_rfl) rfl #[] rfl (by (try simp only [List.map_toArray, List.map_cons, List.map_nil]); first | done | rfl | (simp only [List.length_drop, List.length_take]; rfl)) ?_; (with_reducible refine (rifflelaw04_lives.calls kj15  t608 _ A23.out).mono ?_); rintro e w24 ⟨rfl, hb⟩; refine ⟨_, rfl, ?_⟩; have n0_ := Aside0.mk (blk_below (g := gb601) (o := .cells #[.int .i64 a0_0, .bool a0_1] 59 (0, 0)) (by (with_reducible repeat (first | refine blk_drewN ?_ _ | refine blk_drew ?_ | refine blk_alloc ?_ _)); exact BK601.out) hb); have n1_ := Aside0.mk (below_step (by repeat (first | (with_reducible first | exact HB.out | apply below_alloc | apply pw_below_drewN | apply below_drew1 | refine below_set ?_ GE601.out) | exact HB.out)) hb); clear BK601; clear HB; have BK601 := n0_; have HB := n1_; clear n0_ n1_; (try clear hb); (try clear hb2); (try clear hk); (try clear hi)))
              go_ret
              exact ⟨by first | rfl | (simp [errW_none, errW_some] <;> rfl) | (simp [*, errW_none, errW_some] <;> rfl), by repeat (first | (with_reducible first | exact HB.out | apply below_alloc | apply pw_below_drewN | apply below_drew1 | refine below_set ?_ GE601.out) | exact HB.out)⟩
            · replace c22 := Bool.eq_false_iff.mpr c22
              subst c22
              have H1 : (rifflelaw04_ScalarParts.l0 kj15 0 a0_0 a0_1) = some r := by rw [if_neg (show ¬ (false = true) by decide)] at H; exact H
              clear H
              have H := H1
              clear H1
              have H' := Aside0.mk H
              clear H
              go_wp2
              go_loopg [11] kj15 (fun kq v11 w' => ∃ (x11_3 : Int), v11 = .int .i64 x11_3 ∧ Aside0 (rifflelaw04_ScalarParts.l0 kq x11_3 a0_0 a0_1 = some r) ∧ Aside0 (kq ≤ kj15) ∧ Aside0 (w'.heap[gb601]? = some (.cells #[.int .i64 a0_0, .bool a0_1] 59 (0, 0))) ∧ Aside0 (Below w.heap.size w w'))
              case atStart => exact ⟨(0), (by first | rfl | (simp; done) | (simp [*]; done)), H', ⟨Nat.le_refl _⟩, ⟨by (with_reducible repeat (first | refine blk_drewN ?_ _ | refine blk_drew ?_ | refine blk_alloc ?_ _)); exact BK601.out⟩, ⟨by repeat (first | (with_reducible first | exact HB.out | apply below_alloc | apply pw_below_drewN | apply below_drew1 | refine below_set ?_ GE601.out) | exact HB.out)⟩⟩
              case round =>
                clear H'
                try clear c1
                try clear c2
                try clear p2
                try clear p6
                try clear c7
                try clear c8
                try clear c10
                try clear c11
                try clear c12
                try clear c12b0
                try clear c12b1
                try clear c13
                try clear c13b0
                try clear c13b1
                try clear c14
                try clear c14b0
                try clear c14b1
                try clear c15
                try clear c18
                try clear c22
                try clear hcz20_0
                try clear hcz20_1
                try clear hcz21_0
                try clear hcz21_1
                try clear hfz20_0
                try clear hfz20_1
                try clear hfz21_0
                try clear hfz21_1
                try clear p2
                try clear p6
                obtain ⟨x11_3, rfl, HA, HK3, BK601, HB⟩ := hrel
                cases gk with
                | zero => exact absurd HA.out (by simp [rifflelaw04_ScalarParts.l0])
                | succ k3 =>
                  have H := HA.out
                  clear HA
                  simp only [rifflelaw04_ScalarParts.l0] at H
                  by_cases c25 : x11_3 < 216
                  · rw [if_pos c25] at H
                    have c25b0 : decide (x11_3 < 216) = true := decide_eq_true c25
                    clear c25
                    replace H := Option.bind_eq_some_iff.mp H
                    obtain ⟨⟨t609, t610⟩, A260, H⟩ := H
                    replace H : (if t609 = t610 then (rifflelaw04_ScalarParts.l0 k3 (wrap64 (x11_3 + 1)) a0_0 a0_1) else ((rifflelaw04_lives.f k3).bind fun t611 => (some t611))) = some r := H
                    have A26 := Aside0.mk A260
                    clear A260
                    by_cases c27 : t609 = t610
                    · rw [if_pos c27] at H
                      have c27b0 : (t609 == t610) = true := beq_iff_eq.mpr c27
                      have c27b1 : (t609 != t610) = false := bne_eq_false_iff_eq.mpr c27
                      clear c27
                      have H' := Aside0.mk H
                      clear H
                      have hcz28_0 : wr.cell? ⟨gb601, 0, none⟩ = some (.int .i64 a0_0) := (blk_cell BK601.out 0).trans rfl
                      have hcz28_1 : wr.cell? ⟨gb601, 1, none⟩ = some (.bool a0_1) := (blk_cell BK601.out 1).trans rfl
                      have hfz28_0 := blk_frozen BK601.out 0
                      have hfz28_1 := blk_frozen BK601.out 1
                      go_wp2_with (first | ((with_reducible refine gate_callee (f := 86) rfl ?_); refine goesL_ (some 82) rfl rfl Try.func86 (by kernel_rfl) rfl #[.agg #[.int .i64 a0_0, .bool a0_1], .int .i64 (wrap64 ((Int.tmod x11_3 6) - 2)), .int .i64 (wrap64 ((Int.tmod (wrap64 (Int.tdiv x11_3 6)) 6) - 2)), .int .i64 (wrap64 ((wrap64 (Int.tdiv x11_3 36)) - 2))] rfl (by (try simp only [List.map_toArray, List.map_cons, List.map_nil]); first | done | rfl | (simp only [List.length_drop, List.length_take]; rfl)) ?_; (with_reducible refine (rifflelaw04_three.calls k3 a0_0 a0_1 (wrap64 ((Int.tmod x11_3 6) - 2)) (wrap64 ((Int.tmod (wrap64 (Int.tdiv x11_3 6)) 6) - 2)) (wrap64 ((wrap64 (Int.tdiv x11_3 36)) - 2)) t609 t610 _ A26.out).mono ?_); rintro e w29 ⟨rfl, hb⟩; refine ⟨_, rfl, ?_⟩; have n0_ := Aside0.mk (blk_below (g := gb601) (o := .cells #[.int .i64 a0_0, .bool a0_1] 59 (0, 0)) (by (with_reducible repeat (first | refine blk_drewN ?_ _ | refine blk_drew ?_ | refine blk_alloc ?_ _)); exact BK601.out) hb); have n1_ := Aside0.mk (below_step (by repeat (first | (with_reducible first | exact HB.out | apply below_alloc | apply pw_below_drewN | apply below_drew1 | refine below_set ?_ GE601.out) | exact HB.out)) hb); clear BK601; clear HB; have BK601 := n0_; have HB := n1_; clear n0_ n1_; (try clear hb); (try clear hb2); (try clear hk); (try clear hi)))
                      go_roundg k3
                      case measure => have := HJ5.out; have := HJ15.out; have := HK3.out; omega
                      case rel => exact ⟨(wrap64 (x11_3 + 1)), (by first | rfl | (simp; done) | (simp [*]; done)), H', ⟨by have := HJ5.out; have := HJ15.out; have := HK3.out; omega⟩, ⟨by (with_reducible repeat (first | refine blk_drewN ?_ _ | refine blk_drew ?_ | refine blk_alloc ?_ _)); exact BK601.out⟩, ⟨by repeat (first | (with_reducible first | exact HB.out | apply below_alloc | apply pw_below_drewN | apply below_drew1 | refine below_set ?_ GE601.out) | exact HB.out)⟩⟩
                    · rw [if_neg c27] at H
                      have c27b0 : (t609 == t610) = false := beq_eq_false_iff_ne.mpr c27
                      have c27b1 : (t609 != t610) = true := bne_iff_ne.mpr c27
                      replace H := Option.bind_eq_some_iff.mp H
                      obtain ⟨t611, A300, H⟩ := H
                      replace H : (some t611) = some r := H
                      have A30 := Aside0.mk A300
                      clear A300
                      obtain rfl := Option.some.inj H
                      have hcz31_0 : wr.cell? ⟨gb601, 0, none⟩ = some (.int .i64 a0_0) := (blk_cell BK601.out 0).trans rfl
                      have hcz31_1 : wr.cell? ⟨gb601, 1, none⟩ = some (.bool a0_1) := (blk_cell BK601.out 1).trans rfl
                      have hfz31_0 := blk_frozen BK601.out 0
                      have hfz31_1 := blk_frozen BK601.out 1
                      go_wp2_with (first | ((with_reducible refine gate_callee (f := 86) rfl ?_); refine goesL_ (some 82) rfl rfl Try.func86 (by kernel_rfl) rfl #[.agg #[.int .i64 a0_0, .bool a0_1], .int .i64 (wrap64 ((Int.tmod x11_3 6) - 2)), .int .i64 (wrap64 ((Int.tmod (wrap64 (Int.tdiv x11_3 6)) 6) - 2)), .int .i64 (wrap64 ((wrap64 (Int.tdiv x11_3 36)) - 2))] rfl (by (try simp only [List.map_toArray, List.map_cons, List.map_nil]); first | done | rfl | (simp only [List.length_drop, List.length_take]; rfl)) ?_; (with_reducible refine (rifflelaw04_three.calls k3 a0_0 a0_1 (wrap64 ((Int.tmod x11_3 6) - 2)) (wrap64 ((Int.tmod (wrap64 (Int.tdiv x11_3 6)) 6) - 2)) (wrap64 ((wrap64 (Int.tdiv x11_3 36)) - 2)) t609 t610 _ A26.out).mono ?_); rintro e w32 ⟨rfl, hb⟩; refine ⟨_, rfl, ?_⟩; have n0_ := Aside0.mk (blk_below (g := gb601) (o := .cells #[.int .i64 a0_0, .bool a0_1] 59 (0, 0)) (by (with_reducible repeat (first | refine blk_drewN ?_ _ | refine blk_drew ?_ | refine blk_alloc ?_ _)); exact BK601.out) hb); have n1_ := Aside0.mk (below_step (by repeat (first | (with_reducible first | exact HB.out | apply below_alloc | apply pw_below_drewN | apply below_drew1 | refine below_set ?_ GE601.out) | exact HB.out)) hb); clear BK601; clear HB; have BK601 := n0_; have HB := n1_; clear n0_ n1_; (try clear hb); (try clear hb2); (try clear hk); (try clear hi)) | ((with_reducible refine gate_callee (f := 83) rfl ?_); refine goesL_ (some 88) rfl rfl Try.func83 (by kernel_rfl) rfl #[] rfl (by (try simp only [List.map_toArray, List.map_cons, List.map_nil]); first | done | rfl | (simp only [List.length_drop, List.length_take]; rfl)) ?_; (with_reducible refine (rifflelaw04_lives.calls k3  t611 _ A30.out).mono ?_); rintro e w33 ⟨rfl, hb⟩; refine ⟨_, rfl, ?_⟩; have n0_ := Aside0.mk (blk_below (g := gb601) (o := .cells #[.int .i64 a0_0, .bool a0_1] 59 (0, 0)) (by (with_reducible repeat (first | refine blk_drewN ?_ _ | refine blk_drew ?_ | refine blk_alloc ?_ _)); exact BK601.out) hb); have n1_ := Aside0.mk (below_step (by repeat (first | (with_reducible first | exact HB.out | apply below_alloc | apply pw_below_drewN | apply below_drew1 | refine below_set ?_ GE601.out) | exact HB.out)) hb); clear BK601; clear HB; have BK601 := n0_; have HB := n1_; clear n0_ n1_; (try clear hb); (try clear hb2); (try clear hk); (try clear hi)))
                      go_ret
                      exact ⟨by first | rfl | (simp [errW_none, errW_some] <;> rfl) | (simp [*, errW_none, errW_some] <;> rfl), by repeat (first | (with_reducible first | exact HB.out | apply below_alloc | apply pw_below_drewN | apply below_drew1 | refine below_set ?_ GE601.out) | exact HB.out)⟩
                  · rw [if_neg c25] at H
                    have c25b0 : decide (x11_3 < 216) = false := decide_eq_false c25
                    clear c25
                    obtain rfl := Option.some.inj H
                    go_wp2
                    go_ret
                    exact ⟨by first | rfl | (simp [errW_none, errW_some] <;> rfl) | (simp [*, errW_none, errW_some] <;> rfl), by repeat (first | (with_reducible first | exact HB.out | apply below_alloc | apply pw_below_drewN | apply below_drew1 | refine below_set ?_ GE601.out) | exact HB.out)⟩

/-! ### riffleref04_Unit: function 88 -/
def riffleref04_Unit.f (a0 : Int) : Option (Int × Bool) := if a0 < 1 then (some (0, false)) else (if a0 > 16 then (some (0, false)) else ((some (([0, 0, 0, 1, 1, 1, 0, (-9223372036854775808), 9223372036854775807, 1, 0, 0, 1, 0, 1, (-1), 0] : List Int) : List Int)).bind fun y612 => (if 0 ≤ a0 then (if a0 < (y612.length : Int) then (some (rd y612 a0, true)) else (none)) else (none))))
set_option maxHeartbeats 8000000 in
set_option maxRecDepth 100000 in
theorem riffleref04_Unit.calls (a0 : Int) (r1 : Int) (r2 : Bool) (w : World) (h : riffleref04_Unit.f a0 = some (r1, r2)) :
    Calls Try.prog 88 #[.int .i64 a0] w fun e w' => e = .returned (.tuple #[.int .i64 r1, .bool r2]) ∧ Below w.heap.size w w' := by
  have HB := Aside0.mk (Below.refl w.heap.size w)
  have H : (if a0 < 1 then (some (0, false)) else (if a0 > 16 then (some (0, false)) else ((some (([0, 0, 0, 1, 1, 1, 0, (-9223372036854775808), 9223372036854775807, 1, 0, 0, 1, 0, 1, (-1), 0] : List Int) : List Int)).bind fun y612 => (if 0 ≤ a0 then (if a0 < (y612.length : Int) then (some (rd y612 a0, true)) else (none)) else (none))))) = some (r1, r2) := h
  clear h
  by_cases c2 : a0 < 1
  · rw [if_pos c2] at H
    have c2b0 : decide (a0 < 1) = true := decide_eq_true c2
    clear c2
    simp only [Option.some.injEq, Prod.mk.injEq] at H
    obtain ⟨rfl, rfl⟩ := H
    go_enter Try.func88, Try.ntmps88
    go_wp2
    go_ret2
    exact ⟨by first | rfl | (simp [errW_none, errW_some] <;> rfl) | (simp [*, errW_none, errW_some] <;> rfl), by repeat (first | (with_reducible first | exact HB.out | apply below_alloc | apply pw_below_drewN | apply below_drew1) | exact HB.out)⟩
  · rw [if_neg c2] at H
    have c2b0 : decide (a0 < 1) = false := decide_eq_false c2
    clear c2
    by_cases c3 : a0 > 16
    · rw [if_pos c3] at H
      have c3b0 : decide (16 < a0) = true := decide_eq_true c3
      clear c3
      simp only [Option.some.injEq, Prod.mk.injEq] at H
      obtain ⟨rfl, rfl⟩ := H
      go_enter Try.func88, Try.ntmps88
      go_wp2
      go_ret2
      exact ⟨by first | rfl | (simp [errW_none, errW_some] <;> rfl) | (simp [*, errW_none, errW_some] <;> rfl), by repeat (first | (with_reducible first | exact HB.out | apply below_alloc | apply pw_below_drewN | apply below_drew1) | exact HB.out)⟩
    · rw [if_neg c3] at H
      have c3b0 : decide (16 < a0) = false := decide_eq_false c3
      clear c3
      obtain ⟨y612, hy612⟩ : ∃ y_ : List Int, y_ = (([0, 0, 0, 1, 1, 1, 0, (-9223372036854775808), 9223372036854775807, 1, 0, 0, 1, 0, 1, (-1), 0] : List Int)) := ⟨_, rfl⟩
      replace H : (if 0 ≤ a0 then (if a0 < (y612.length : Int) then (some (rd y612 a0, true)) else (none)) else (none)) = some (r1, r2) := by first | (rw [hy612]; with_reducible exact H) | (have H2_ := (Option.bind_some _ _).symm.trans H; rw [hy612]; with_reducible exact H2_) | (have H2_ := (Option.bind_some _ _).symm.trans H; with_reducible exact H2_) | with_reducible exact H | (rw [hy612]; exact H) | exact H
      have Ny612 := Aside0.mk hy612
      clear hy612
      by_cases c4 : 0 ≤ a0
      · rw [if_pos c4] at H
        have c4b0 : decide (0 ≤ a0) = true := decide_eq_true c4
        clear c4
        by_cases c5 : a0 < (y612.length : Int)
        · rw [if_pos c5] at H
          have c5b0 : decide (a0 < (y612.length : Int)) = true := decide_eq_true c5
          clear c5
          simp only [Option.some.injEq, Prod.mk.injEq] at H
          obtain ⟨rfl, rfl⟩ := H
          go_enter Try.func88, Try.ntmps88
          go_wp2_with (first | ((with_reducible refine gate_dst (N := 10) rfl ?_); refine Kd.R_lit (Kd.int .i64) _ 2 ?hg (N := 10) ?hd (xs := ([0, 0, 0, 1, 1, 1, 0, (-9223372036854775808), 9223372036854775807, 1, 0, 0, 1, 0, 1, (-1), 0] : List Int)) (inner := [.int .i64 0, .int .i64 0, .int .i64 0, .int .i64 1, .int .i64 1, .int .i64 1, .int .i64 0, .int .i64 (-9223372036854775808), .int .i64 9223372036854775807, .int .i64 1, .int .i64 0, .int .i64 0, .int .i64 1, .int .i64 0, .int .i64 1, .int .i64 (-1), .int .i64 0]) (ok := fun _ => True) (okp := fun _ => True) ?hr ?hp (fun _ hk => hk) trivial (Below.refl _ _) (Nat.le_refl _) (by simp) ?_; (case hd => rfl); (case hg => rfl); (case hr => first | (go_simp; done) | (go_simp; rfl)); (case hp => exact (Reps.one (show Kd.M (Kd.int .i64) _ _ _ 0 [.int .i64 0] from rfl) (Reps.one (show Kd.M (Kd.int .i64) _ _ _ 0 [.int .i64 0] from rfl) (Reps.one (show Kd.M (Kd.int .i64) _ _ _ 0 [.int .i64 0] from rfl) (Reps.one (show Kd.M (Kd.int .i64) _ _ _ 1 [.int .i64 1] from rfl) (Reps.one (show Kd.M (Kd.int .i64) _ _ _ 1 [.int .i64 1] from rfl) (Reps.one (show Kd.M (Kd.int .i64) _ _ _ 1 [.int .i64 1] from rfl) (Reps.one (show Kd.M (Kd.int .i64) _ _ _ 0 [.int .i64 0] from rfl) (Reps.one (show Kd.M (Kd.int .i64) _ _ _ (-9223372036854775808) [.int .i64 (-9223372036854775808)] from rfl) (Reps.one (show Kd.M (Kd.int .i64) _ _ _ 9223372036854775807 [.int .i64 9223372036854775807] from rfl) (Reps.one (show Kd.M (Kd.int .i64) _ _ _ 1 [.int .i64 1] from rfl) (Reps.one (show Kd.M (Kd.int .i64) _ _ _ 0 [.int .i64 0] from rfl) (Reps.one (show Kd.M (Kd.int .i64) _ _ _ 0 [.int .i64 0] from rfl) (Reps.one (show Kd.M (Kd.int .i64) _ _ _ 1 [.int .i64 1] from rfl) (Reps.one (show Kd.M (Kd.int .i64) _ _ _ 0 [.int .i64 0] from rfl) (Reps.one (show Kd.M (Kd.int .i64) _ _ _ 1 [.int .i64 1] from rfl) (Reps.one (show Kd.M (Kd.int .i64) _ _ _ (-1) [.int .i64 (-1)] from rfl) (Reps.one (show Kd.M (Kd.int .i64) _ _ _ 0 [.int .i64 0] from rfl) (Reps.none _ _))))))))))))))))))); intro v613 w6 ho7 hb hg_ hnew_; clear hg_ hnew_; (first | rw [← Ny612.out] at ho7 | (simp only [Int.reduceToNat] at ho7; rw [← Ny612.out] at ho7)); have n0_ := Aside0.mk (Kd.R_lower ho7 (below_size (by repeat (first | (with_reducible first | exact HB.out | apply below_alloc | apply pw_below_drewN | apply below_drew1) | exact HB.out)))); have n1_ := Aside0.mk (below_step (by repeat (first | (with_reducible first | exact HB.out | apply below_alloc | apply pw_below_drewN | apply below_drew1) | exact HB.out)) hb); clear HB; have HO614 := n0_; have HB := n1_; clear n0_ n1_; clear hb ho7; obtain ⟨Ao8, co8, eo8⟩ := Kd.R_slice HO614.out; subst eo8; have p615 : 0 ≤ (a0 : Int) := of_decide_eq_true (by first | (with_reducible assumption) | assumption); have q615 : a0 < (y612.length : Int) := of_decide_eq_true (by first | (with_reducible assumption) | assumption); obtain ⟨ad615, e615, hx615_0⟩ := Kd.at_int (Kd.R_reads' HO614.out).2.2 a0 p615 q615; cases e615; replace p615 := eq_true p615; replace q615 := eq_true q615))
          go_ret2
          exact ⟨by first | rfl | (simp [errW_none, errW_some] <;> rfl) | (simp [*, errW_none, errW_some] <;> rfl), by repeat (first | (with_reducible first | exact HB.out | apply below_alloc | apply pw_below_drewN | apply below_drew1) | exact HB.out)⟩
        · rw [if_neg c5] at H
          exact absurd H (by simp)
      · rw [if_neg c4] at H
        exact absurd H (by simp)

/-! ### riffleref04_Joins: function 89 -/
def riffleref04_Joins.f (a0 : Int) : Option (Bool) := if a0 = 1 then (some true) else (if a0 = 3 then (some true) else (if a0 = 7 then (some true) else (if a0 = 8 then (some true) else (if a0 ≥ 15 then (some (decide (a0 ≤ 18))) else (some false)))))
set_option maxHeartbeats 8000000 in
set_option maxRecDepth 100000 in
theorem riffleref04_Joins.calls (a0 : Int) (r : Bool) (w : World) (h : riffleref04_Joins.f a0 = some r) :
    Calls Try.prog 89 #[.int .i64 a0] w fun e w' => e = .returned (.bool r) ∧ Drawn0 w w' := by
  have H : (if a0 = 1 then (some true) else (if a0 = 3 then (some true) else (if a0 = 7 then (some true) else (if a0 = 8 then (some true) else (if a0 ≥ 15 then (some (decide (a0 ≤ 18))) else (some false)))))) = some r := h
  clear h
  by_cases c2 : a0 = 1
  · rw [if_pos c2] at H
    have c2b0 : (a0 == 1) = true := beq_iff_eq.mpr c2
    have c2b1 : (a0 != 1) = false := bne_eq_false_iff_eq.mpr c2
    clear c2
    obtain rfl := Option.some.inj H
    go_enter Try.func89, Try.ntmps89
    go_wp2
    go_ret
    exact ⟨by first | rfl | (simp; done) | (simp [*]; done), by repeat (first | exact Drawn0.refl _ | apply Drawn0.step)⟩
  · rw [if_neg c2] at H
    have c2b0 : (a0 == 1) = false := beq_eq_false_iff_ne.mpr c2
    have c2b1 : (a0 != 1) = true := bne_iff_ne.mpr c2
    by_cases c3 : a0 = 3
    · rw [if_pos c3] at H
      have c3b0 : (a0 == 3) = true := beq_iff_eq.mpr c3
      have c3b1 : (a0 != 3) = false := bne_eq_false_iff_eq.mpr c3
      clear c3
      obtain rfl := Option.some.inj H
      go_enter Try.func89, Try.ntmps89
      go_wp2
      go_ret
      exact ⟨by first | rfl | (simp; done) | (simp [*]; done), by repeat (first | exact Drawn0.refl _ | apply Drawn0.step)⟩
    · rw [if_neg c3] at H
      have c3b0 : (a0 == 3) = false := beq_eq_false_iff_ne.mpr c3
      have c3b1 : (a0 != 3) = true := bne_iff_ne.mpr c3
      by_cases c4 : a0 = 7
      · rw [if_pos c4] at H
        have c4b0 : (a0 == 7) = true := beq_iff_eq.mpr c4
        have c4b1 : (a0 != 7) = false := bne_eq_false_iff_eq.mpr c4
        clear c4
        obtain rfl := Option.some.inj H
        go_enter Try.func89, Try.ntmps89
        go_wp2
        go_ret
        exact ⟨by first | rfl | (simp; done) | (simp [*]; done), by repeat (first | exact Drawn0.refl _ | apply Drawn0.step)⟩
      · rw [if_neg c4] at H
        have c4b0 : (a0 == 7) = false := beq_eq_false_iff_ne.mpr c4
        have c4b1 : (a0 != 7) = true := bne_iff_ne.mpr c4
        by_cases c5 : a0 = 8
        · rw [if_pos c5] at H
          have c5b0 : (a0 == 8) = true := beq_iff_eq.mpr c5
          have c5b1 : (a0 != 8) = false := bne_eq_false_iff_eq.mpr c5
          clear c5
          obtain rfl := Option.some.inj H
          go_enter Try.func89, Try.ntmps89
          go_wp2
          go_ret
          exact ⟨by first | rfl | (simp; done) | (simp [*]; done), by repeat (first | exact Drawn0.refl _ | apply Drawn0.step)⟩
        · rw [if_neg c5] at H
          have c5b0 : (a0 == 8) = false := beq_eq_false_iff_ne.mpr c5
          have c5b1 : (a0 != 8) = true := bne_iff_ne.mpr c5
          by_cases c6 : a0 ≥ 15
          · rw [if_pos c6] at H
            have c6b0 : decide (15 ≤ a0) = true := decide_eq_true c6
            clear c6
            obtain rfl := Option.some.inj H
            go_enter Try.func89, Try.ntmps89
            go_wp2
            go_ret
            exact ⟨by first | rfl | (simp; done) | (simp [*]; done), by repeat (first | exact Drawn0.refl _ | apply Drawn0.step)⟩
          · rw [if_neg c6] at H
            have c6b0 : decide (15 ≤ a0) = false := decide_eq_false c6
            clear c6
            obtain rfl := Option.some.inj H
            go_enter Try.func89, Try.ntmps89
            go_wp2
            go_ret
            exact ⟨by first | rfl | (simp; done) | (simp [*]; done), by repeat (first | exact Drawn0.refl _ | apply Drawn0.step)⟩

end Go.Proofs.Ytmfgdgmpblkadaa.PAll
