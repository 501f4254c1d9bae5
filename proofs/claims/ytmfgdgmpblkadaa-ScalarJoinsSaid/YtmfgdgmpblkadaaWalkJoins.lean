/- ScalarJoins, walked by hand (an array parameter). No condition but that the arguments read. -/
import Derived.Test.YtmfgdgmpblkadaaPureJoins
import Derived.Test.YtmfgdgmpblkadaaWalkScalar
import Derived.Test.YtmfgdgmpblkadaaPUnit
set_option linter.unusedVariables false
set_option linter.unusedSimpArgs false
set_option maxHeartbeats 1600000
set_option maxRecDepth 100000
namespace Go.Proofs.Ytmfgdgmpblkadaa.Laws
open Go.RowKit Go.RK Go.Proofs.Ytmfgdgmpblkadaa.PAll Go.Proofs.YtmfgdgmpblkadaaW.PrintWords

/-- what stays: both arguments in their boxes, all that was there -/
structure JH (w W : World) (c : Int) (s : Bool) (a b d : Int) : Prop where
  below : Below w.heap.size w W
  b0 : W.heap[w.heap.size]? = some (.cells #[.int .i64 c, .bool s] 59 (0, 0))
  b1 : W.heap[w.heap.size + 1]? = some (.cells #[.int .i64 a, .int .i64 b, .int .i64 d] 71 (0, 0))
theorem JH.step {w W W2 : World} {c : Int} {s : Bool} {a b d : Int} (h : JH w W c s a b d) (k : Below W.heap.size W W2) : JH w W2 c s a b d :=
  ⟨below_step h.below k, blk_below h.b0 k, blk_below h.b1 k⟩
theorem JH.start (w : World) (c : Int) (s : Bool) (a b d : Int) : JH w ((w.alloc (.cells #[.int .i64 c, .bool s] 59)).alloc (.cells #[.int .i64 a, .int .i64 b, .int .i64 d] 71)) c s a b d :=
  ⟨below_alloc (below_alloc (Below.refl _ _) _) _, blk_alloc (blk_new _ _) _, by
    have := blk_new (w.alloc (.cells #[.int .i64 c, .bool s] 59)) (.cells #[.int .i64 a, .int .i64 b, .int .i64 d] 71)
    simpa using this⟩


theorem joins_walk (w : World) (c : Int) (s : Bool) (a b d : Int) (ha : Pure.In64 a) (hb : Pure.In64 b) (hd : Pure.In64 d) :
    Calls Try.prog 15 #[.agg #[.int .i64 c, .bool s], .agg #[.int .i64 a, .int .i64 b, .int .i64 d]] w fun e w' => e = .returned (.bool true) ∧ Below w.heap.size w w' := by
  have h2 := Pure.lives04_at (k := 1000) (by omega)
  have HJ := Aside0.mk (JH.start w c s a b d)
  by_cases hj : c = 1 ∨ c = 3 ∨ c = 15 ∨ c = 16 ∨ c = 17 ∨ c = 18 ∨ c = 7 ∨ c = 8
  · have h1 : scalar_Joins.f c = some true := by rw [Pure.joins_eq, decide_eq_true hj]
    have hh := Pure.join_has c hj
    have h3 := Pure.three_eq c s a b d ha hb hd hj
    have hhas : scalar_Has.f c 2 = some true := by rw [Pure.has_eq, hh]
    generalize Pure.doF c s a (Pure.doF c s b d) = z at h3
    by_cases hu : 1 ≤ c ∧ c ≤ 16
    · obtain ⟨u1, u2⟩ := Pure.unit_doF c s a ha hj hu
      have hU : scalar_Unit.f c = some (unitsL.getD c.toNat 0, true) := by unfold scalar_Unit.f; rw [if_pos hu]
      have hui : Pure.In64 (unitsL.getD c.toNat 0) := by
        have hk : (c = 1 ∨ c = 2 ∨ c = 3 ∨ c = 4 ∨ c = 5 ∨ c = 6 ∨ c = 7 ∨ c = 8) ∨ (c = 9 ∨ c = 10 ∨ c = 11 ∨ c = 12 ∨ c = 13 ∨ c = 14 ∨ c = 15 ∨ c = 16) := by omega
        rcases hk with (rfl | rfl | rfl | rfl | rfl | rfl | rfl | rfl) | (rfl | rfl | rfl | rfl | rfl | rfl | rfl | rfl) <;> simp [Pure.In64, unitsL]
      generalize unitsL.getD c.toNat 0 = u at *
      have d1 := Pure.do_eq' c s u a hui ha hh 1000 (by omega)
      have d2 := Pure.do_eq' c s a u ha hui hh 1000 (by omega)
      rw [u1] at d1
      rw [u2] at d2
      clear u1 u2 hui hh hj hu
      go_enter Try.func15, Try.ntmps15
      go_wp2_with fail
      refine (scalar_Joins.calls _ _ _ h1).mono ?_
      rintro e w1 ⟨rfl, HB0⟩
      have HB := HB0.below
      have HJ' := Aside0.mk (HJ.out.step HB)
      clear HJ HB
      try clear hc0 hc1 hd0 hd1 hd2
      have HJ := HJ'
      clear HJ'
      have hc0 : w1.cell? ⟨w.heap.size, 0, none⟩ = some (.int .i64 c) := (blk_cell HJ.out.b0 0).trans rfl
      have hc1 : w1.cell? ⟨w.heap.size, 1, none⟩ = some (.bool s) := (blk_cell HJ.out.b0 1).trans rfl
      have hd0 : w1.cell? ⟨w.heap.size + 1, 0, none⟩ = some (.int .i64 a) := (blk_cell HJ.out.b1 0).trans rfl
      have hd1 : w1.cell? ⟨w.heap.size + 1, 1, none⟩ = some (.int .i64 b) := (blk_cell HJ.out.b1 1).trans rfl
      have hd2 : w1.cell? ⟨w.heap.size + 1, 2, none⟩ = some (.int .i64 d) := (blk_cell HJ.out.b1 2).trans rfl
      go_wp2_with fail
      refine (rifflelaw04_three.calls _ _ _ _ _ _ _ _ _ h3).mono ?_
      rintro e w2 ⟨rfl, HB⟩
      have HJ' := Aside0.mk (HJ.out.step HB)
      clear HJ HB
      try clear hc0 hc1 hd0 hd1 hd2
      have HJ := HJ'
      clear HJ'
      have hc0 : w2.cell? ⟨w.heap.size, 0, none⟩ = some (.int .i64 c) := (blk_cell HJ.out.b0 0).trans rfl
      have hc1 : w2.cell? ⟨w.heap.size, 1, none⟩ = some (.bool s) := (blk_cell HJ.out.b0 1).trans rfl
      have hd0 : w2.cell? ⟨w.heap.size + 1, 0, none⟩ = some (.int .i64 a) := (blk_cell HJ.out.b1 0).trans rfl
      have hd1 : w2.cell? ⟨w.heap.size + 1, 1, none⟩ = some (.int .i64 b) := (blk_cell HJ.out.b1 1).trans rfl
      have hd2 : w2.cell? ⟨w.heap.size + 1, 2, none⟩ = some (.int .i64 d) := (blk_cell HJ.out.b1 2).trans rfl
      go_wp2_with fail
      refine (scalar_Unit.calls _ _ _ _ hU).mono ?_
      rintro e w3 ⟨rfl, HB⟩
      have HJ' := Aside0.mk (HJ.out.step HB)
      clear HJ HB
      try clear hc0 hc1 hd0 hd1 hd2
      have HJ := HJ'
      clear HJ'
      have hc0 : w3.cell? ⟨w.heap.size, 0, none⟩ = some (.int .i64 c) := (blk_cell HJ.out.b0 0).trans rfl
      have hc1 : w3.cell? ⟨w.heap.size, 1, none⟩ = some (.bool s) := (blk_cell HJ.out.b0 1).trans rfl
      have hd0 : w3.cell? ⟨w.heap.size + 1, 0, none⟩ = some (.int .i64 a) := (blk_cell HJ.out.b1 0).trans rfl
      have hd1 : w3.cell? ⟨w.heap.size + 1, 1, none⟩ = some (.int .i64 b) := (blk_cell HJ.out.b1 1).trans rfl
      have hd2 : w3.cell? ⟨w.heap.size + 1, 2, none⟩ = some (.int .i64 d) := (blk_cell HJ.out.b1 2).trans rfl
      go_wp2_with fail
      refine (scalar_Do.calls _ _ _ _ _ _ _ _ d1).mono ?_
      rintro e w4 ⟨rfl, HB⟩
      have HJ' := Aside0.mk (HJ.out.step HB)
      clear HJ HB
      try clear hc0 hc1 hd0 hd1 hd2
      have HJ := HJ'
      clear HJ'
      have hc0 : w4.cell? ⟨w.heap.size, 0, none⟩ = some (.int .i64 c) := (blk_cell HJ.out.b0 0).trans rfl
      have hc1 : w4.cell? ⟨w.heap.size, 1, none⟩ = some (.bool s) := (blk_cell HJ.out.b0 1).trans rfl
      have hd0 : w4.cell? ⟨w.heap.size + 1, 0, none⟩ = some (.int .i64 a) := (blk_cell HJ.out.b1 0).trans rfl
      have hd1 : w4.cell? ⟨w.heap.size + 1, 1, none⟩ = some (.int .i64 b) := (blk_cell HJ.out.b1 1).trans rfl
      have hd2 : w4.cell? ⟨w.heap.size + 1, 2, none⟩ = some (.int .i64 d) := (blk_cell HJ.out.b1 2).trans rfl
      go_wp2_with fail
      refine (scalar_Do.calls _ _ _ _ _ _ _ _ d2).mono ?_
      rintro e w5 ⟨rfl, HB⟩
      have HJ' := Aside0.mk (HJ.out.step HB)
      clear HJ HB
      try clear hc0 hc1 hd0 hd1 hd2
      have HJ := HJ'
      clear HJ'
      have hc0 : w5.cell? ⟨w.heap.size, 0, none⟩ = some (.int .i64 c) := (blk_cell HJ.out.b0 0).trans rfl
      have hc1 : w5.cell? ⟨w.heap.size, 1, none⟩ = some (.bool s) := (blk_cell HJ.out.b0 1).trans rfl
      have hd0 : w5.cell? ⟨w.heap.size + 1, 0, none⟩ = some (.int .i64 a) := (blk_cell HJ.out.b1 0).trans rfl
      have hd1 : w5.cell? ⟨w.heap.size + 1, 1, none⟩ = some (.int .i64 b) := (blk_cell HJ.out.b1 1).trans rfl
      have hd2 : w5.cell? ⟨w.heap.size + 1, 2, none⟩ = some (.int .i64 d) := (blk_cell HJ.out.b1 2).trans rfl
      go_wp2_with fail
      clear HB0
      refine (scalar_Has.calls _ _ _ _ hhas).mono ?_
      rintro e w6 ⟨rfl, HB0⟩
      have HB := HB0.below
      have HJ' := Aside0.mk (HJ.out.step HB)
      clear HJ HB
      try clear hc0 hc1 hd0 hd1 hd2
      have HJ := HJ'
      clear HJ'
      have hc0 : w6.cell? ⟨w.heap.size, 0, none⟩ = some (.int .i64 c) := (blk_cell HJ.out.b0 0).trans rfl
      have hc1 : w6.cell? ⟨w.heap.size, 1, none⟩ = some (.bool s) := (blk_cell HJ.out.b0 1).trans rfl
      have hd0 : w6.cell? ⟨w.heap.size + 1, 0, none⟩ = some (.int .i64 a) := (blk_cell HJ.out.b1 0).trans rfl
      have hd1 : w6.cell? ⟨w.heap.size + 1, 1, none⟩ = some (.int .i64 b) := (blk_cell HJ.out.b1 1).trans rfl
      have hd2 : w6.cell? ⟨w.heap.size + 1, 2, none⟩ = some (.int .i64 d) := (blk_cell HJ.out.b1 2).trans rfl
      clear h1 h3 hU d1 d2 hhas HB0
      go_wp2_with fail
      refine (rifflelaw04_lives.calls _ _ _ h2).mono ?_
      rintro e w7 ⟨rfl, HB⟩
      have HJ' := Aside0.mk (HJ.out.step HB)
      clear HJ HB
      try clear hc0 hc1 hd0 hd1 hd2
      have HJ := HJ'
      clear HJ'
      go_wp2
      go_ret
      exact ⟨rfl, HJ.out.below⟩
    · have hU : scalar_Unit.f c = some (0, false) := by unfold scalar_Unit.f; rw [if_neg hu]
      clear hh hj hu
      go_enter Try.func15, Try.ntmps15
      go_wp2_with fail
      refine (scalar_Joins.calls _ _ _ h1).mono ?_
      rintro e w1 ⟨rfl, HB0⟩
      have HB := HB0.below
      have HJ' := Aside0.mk (HJ.out.step HB)
      clear HJ HB
      try clear hc0 hc1 hd0 hd1 hd2
      have HJ := HJ'
      clear HJ'
      have hc0 : w1.cell? ⟨w.heap.size, 0, none⟩ = some (.int .i64 c) := (blk_cell HJ.out.b0 0).trans rfl
      have hc1 : w1.cell? ⟨w.heap.size, 1, none⟩ = some (.bool s) := (blk_cell HJ.out.b0 1).trans rfl
      have hd0 : w1.cell? ⟨w.heap.size + 1, 0, none⟩ = some (.int .i64 a) := (blk_cell HJ.out.b1 0).trans rfl
      have hd1 : w1.cell? ⟨w.heap.size + 1, 1, none⟩ = some (.int .i64 b) := (blk_cell HJ.out.b1 1).trans rfl
      have hd2 : w1.cell? ⟨w.heap.size + 1, 2, none⟩ = some (.int .i64 d) := (blk_cell HJ.out.b1 2).trans rfl
      go_wp2_with fail
      refine (rifflelaw04_three.calls _ _ _ _ _ _ _ _ _ h3).mono ?_
      rintro e w2 ⟨rfl, HB⟩
      have HJ' := Aside0.mk (HJ.out.step HB)
      clear HJ HB
      try clear hc0 hc1 hd0 hd1 hd2
      have HJ := HJ'
      clear HJ'
      have hc0 : w2.cell? ⟨w.heap.size, 0, none⟩ = some (.int .i64 c) := (blk_cell HJ.out.b0 0).trans rfl
      have hc1 : w2.cell? ⟨w.heap.size, 1, none⟩ = some (.bool s) := (blk_cell HJ.out.b0 1).trans rfl
      have hd0 : w2.cell? ⟨w.heap.size + 1, 0, none⟩ = some (.int .i64 a) := (blk_cell HJ.out.b1 0).trans rfl
      have hd1 : w2.cell? ⟨w.heap.size + 1, 1, none⟩ = some (.int .i64 b) := (blk_cell HJ.out.b1 1).trans rfl
      have hd2 : w2.cell? ⟨w.heap.size + 1, 2, none⟩ = some (.int .i64 d) := (blk_cell HJ.out.b1 2).trans rfl
      go_wp2_with fail
      refine (scalar_Unit.calls _ _ _ _ hU).mono ?_
      rintro e w3 ⟨rfl, HB⟩
      have HJ' := Aside0.mk (HJ.out.step HB)
      clear HJ HB
      try clear hc0 hc1 hd0 hd1 hd2
      have HJ := HJ'
      clear HJ'
      have hc0 : w3.cell? ⟨w.heap.size, 0, none⟩ = some (.int .i64 c) := (blk_cell HJ.out.b0 0).trans rfl
      have hc1 : w3.cell? ⟨w.heap.size, 1, none⟩ = some (.bool s) := (blk_cell HJ.out.b0 1).trans rfl
      have hd0 : w3.cell? ⟨w.heap.size + 1, 0, none⟩ = some (.int .i64 a) := (blk_cell HJ.out.b1 0).trans rfl
      have hd1 : w3.cell? ⟨w.heap.size + 1, 1, none⟩ = some (.int .i64 b) := (blk_cell HJ.out.b1 1).trans rfl
      have hd2 : w3.cell? ⟨w.heap.size + 1, 2, none⟩ = some (.int .i64 d) := (blk_cell HJ.out.b1 2).trans rfl
      clear HB0
      go_wp2_with fail
      refine (scalar_Has.calls _ _ _ _ hhas).mono ?_
      rintro e w6 ⟨rfl, HB0⟩
      have HB := HB0.below
      have HJ' := Aside0.mk (HJ.out.step HB)
      clear HJ HB
      try clear hc0 hc1 hd0 hd1 hd2
      have HJ := HJ'
      clear HJ'
      have hc0 : w6.cell? ⟨w.heap.size, 0, none⟩ = some (.int .i64 c) := (blk_cell HJ.out.b0 0).trans rfl
      have hc1 : w6.cell? ⟨w.heap.size, 1, none⟩ = some (.bool s) := (blk_cell HJ.out.b0 1).trans rfl
      have hd0 : w6.cell? ⟨w.heap.size + 1, 0, none⟩ = some (.int .i64 a) := (blk_cell HJ.out.b1 0).trans rfl
      have hd1 : w6.cell? ⟨w.heap.size + 1, 1, none⟩ = some (.int .i64 b) := (blk_cell HJ.out.b1 1).trans rfl
      have hd2 : w6.cell? ⟨w.heap.size + 1, 2, none⟩ = some (.int .i64 d) := (blk_cell HJ.out.b1 2).trans rfl
      clear h1 h3 hU hhas HB0
      go_wp2_with fail
      refine (rifflelaw04_lives.calls _ _ _ h2).mono ?_
      rintro e w7 ⟨rfl, HB⟩
      have HJ' := Aside0.mk (HJ.out.step HB)
      clear HJ HB
      try clear hc0 hc1 hd0 hd1 hd2
      have HJ := HJ'
      clear HJ'
      go_wp2
      go_ret
      exact ⟨rfl, HJ.out.below⟩
  · have h1 : scalar_Joins.f c = some false := by rw [Pure.joins_eq, decide_eq_false hj]
    clear hj
    go_enter Try.func15, Try.ntmps15
    go_wp2_with fail
    refine (scalar_Joins.calls _ _ _ h1).mono ?_
    rintro e w1 ⟨rfl, HB0⟩
    have HB := HB0.below
    have HJ' := Aside0.mk (HJ.out.step HB)
    clear HJ HB
    go_wp2_with fail
    refine (rifflelaw04_lives.calls _ _ _ h2).mono ?_
    rintro e w2 ⟨rfl, HB⟩
    have HB2 := Aside0.mk (HJ'.out.step HB).below
    clear HB HJ' h1 h2 HB0
    go_wp2
    go_ret
    exact ⟨rfl, HB2.out⟩

theorem scalarJoins (w : World) (cs : Array Value) (x : Int × Bool) (hk : (Kd.pair (Kd.int .i64) Kd.bool).K w x (Value.agg cs).cells.toList) (_ : I64wf x.1 ∧ True) (ds : Array Value) (y : Int × Int × Int) (hy : (Kd.pair (Kd.int .i64) (Kd.pair (Kd.int .i64) (Kd.int .i64))).K w y (Value.agg ds).cells.toList) (wy : I64wf y.1 ∧ I64wf y.2.1 ∧ I64wf y.2.2) :
    Calls Try.prog 15 #[.agg cs, .agg ds] w fun e w' => e = .returned (.bool true) ∧ Below w.heap.size w w' := by
  obtain rfl := fn_K hk
  obtain rfl : ds = #[.int .i64 y.1, .int .i64 y.2.1, .int .i64 y.2.2] := by
    obtain ⟨a, b, e, ha, b1, b2, rfl, hb, hc⟩ := hy
    have ha : a = [Value.int .i64 y.1] := ha
    have hb : b1 = [Value.int .i64 y.2.1] := hb
    have hc : b2 = [Value.int .i64 y.2.2] := hc
    subst ha hb hc
    cases ds; simp_all [Value.cells]
  exact joins_walk w x.1 x.2 y.1 y.2.1 y.2.2 wy.1 wy.2.1 wy.2.2

end Go.Proofs.Ytmfgdgmpblkadaa.Laws
