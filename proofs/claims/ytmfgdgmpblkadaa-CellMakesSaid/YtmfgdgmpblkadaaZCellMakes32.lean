/- WalkCellMakes: what this claim needs of a text of ours. -/
import Derived.Test.YtmfgdgmpblkadaaZCellMakes29
import Derived.Test.YtmfgdgmpblkadaaZCellMakes30
import Derived.Test.YtmfgdgmpblkadaaZCellMakes31
import Derived.WideShapes
namespace Go.RK
end Go.RK
namespace Go.RS
end Go.RS
namespace Go.Proofs.Ytmfgdgmpblkadaa.PAll
end Go.Proofs.Ytmfgdgmpblkadaa.PAll
namespace Go.Proofs.YtmfgdgmpblkadaaW.PrintWords
end Go.Proofs.YtmfgdgmpblkadaaW.PrintWords

set_option linter.unusedVariables false
set_option linter.unusedSimpArgs false
set_option maxHeartbeats 3200000
set_option maxRecDepth 100000
namespace Go.Proofs.Ytmfgdgmpblkadaa.Laws
open Go.RowKit Go.RK Go.RS Go.Proofs.Ytmfgdgmpblkadaa.PAll Go.Proofs.YtmfgdgmpblkadaaW.PrintWords
theorem makes_n (w : World) (A : Option Addr) (c : Nat) (d : List Int) (B : Option Addr) (c' : Nat) (v : List Int) (HC : Aside0 (LI w A c d)) (HV : Aside0 (LI w B c' v)) (z : Int) (o1 o2 q1 q2 z1 z2 y1 y2 : List Int)
    (g1 : ¬ (10 < (d.length : Int))) (g2 : ¬ (200 < (v.length : Int))) (g3 : ¬ (64 < (v.length : Int)))
    (HP : Aside0 (riffleref01_Right.f 1000 d = some false ∧ riffleref01_Size.f 1000 d = some z ∧ cell_Of.f d v = some (o1, o2, 1) ∧ cell_List.f v = some (q1, q2, 0) ∧ riffleref03_Same.f 1000 o1 o2 [] [] = some true ∧ riffleref03_Same.f 1000 q1 q2 [(v.length : Int)] v = some true ∧ cell_Zero.f d = some (z1, z2) ∧ riffleref03_Zero.f 1000 d = some (z1, z2) ∧ riffleref03_Same.f 1000 z1 z2 z1 z2 = some true ∧ cell_Scalar.f (d.length : Int) = some (y1, y2) ∧ riffleref03_Scalar.f (d.length : Int) = some (y1, y2) ∧ riffleref03_Same.f 1000 y1 y2 y1 y2 = some true ∧ rifflelaw03_lives.f 1000 = some true)) :
    Calls Try.prog 7 #[.slice A d.length c, .slice B v.length c'] w fun e w' => e = .returned (.bool true) ∧ Below w.heap.size w w' := by
  go_enter Try.func7, Try.ntmps7
  go_upto_region 4 with (fail)
  generalize hX : World.alloc w (.cells #[.slice none 0 0, .slice none 0 0] 39 (0, 0)) = X1
  have n_HT : Aside0 (Below w.heap.size w X1) := Aside0.mk (by rw [← hX]; exact below_alloc (Below.refl _ _) _)
  have hs_X1 : X1.heap.size = w.heap.size + 1 := by rw [← hX]; simp
  replace hs_X1 := Aside0.mk hs_X1
  have n_B5 : Aside0 (X1.heap[w.heap.size]? = some (.cells #[.slice none 0 0, .slice none 0 0] 39 (0, 0))) := Aside0.mk (by rw [← hX]; exact blk_new _ _)
  have GB5 : Aside0 (w.heap.size ≤ w.heap.size) := Aside0.mk (Nat.le_refl _)
  have B5 := n_B5
  clear n_B5
  have HT := n_HT
  clear n_HT
  clear hX
  go_wp2_with fail
  refine (riffleref01_Right.calls 1000 A c d false _ (HC.out.at HT.out).2 (HC.out.at HT.out).1 HP.out.1).mono ?_
  rintro e W2 ⟨rfl, HB0⟩
  have HB := HB0.below
  clear HB0
  have n_B5 := Aside0.mk (blk_below B5.out HB)
  have n_HT := Aside0.mk (below_step HT.out HB)
  clear B5
  have B5 := n_B5
  clear n_B5
  clear HT
  have HT := n_HT
  clear n_HT
  clear HB
  go_wp2_with fail
  refine (cell_Of.calls A c d B c' v o1 o2 1 _ (HC.out.at HT.out).2 (HC.out.at HT.out).1 (HV.out.at HT.out).2 (HV.out.at HT.out).1 HP.out.2.2.1).mono ?_
  rintro e W3 ⟨vP0, vP1, rfl, hP0, hP1, HB⟩
  have n_B5 := Aside0.mk (blk_below B5.out HB)
  have n_HT := Aside0.mk (below_step HT.out HB)
  clear B5
  have B5 := n_B5
  clear n_B5
  clear HT
  have HT := n_HT
  clear n_HT
  clear HB
  obtain ⟨AP0, cP0, rfl⟩ := Kd.R_slice hP0
  have P0 : Aside0 (OI 3 W3 AP0 cP0 o1) := Aside0.mk (OI.of hP0)
  clear hP0
  obtain ⟨AP1, cP1, rfl⟩ := Kd.R_slice hP1
  have P1 : Aside0 (OI 2 W3 AP1 cP1 o2) := Aside0.mk (OI.of hP1)
  clear hP1
  go_upto_region 9 with (fail)
  generalize hX : World.alloc W3 (.cells #[.slice AP0 o1.length cP0, .slice AP1 o2.length cP1] 39 (0, 0)) = X4
  have hs_X4 : X4.heap.size = W3.heap.size + 1 := by rw [← hX]; simp
  replace hs_X4 := Aside0.mk hs_X4
  have n_P0 : Aside0 (OI 3 X4 AP0 cP0 o1) := Aside0.mk (by rw [← hX]; exact OI.alloc P0.out _)
  have n_P1 : Aside0 (OI 2 X4 AP1 cP1 o2) := Aside0.mk (by rw [← hX]; exact OI.alloc P1.out _)
  have n_B5 : Aside0 (X4.heap[w.heap.size]? = some (.cells #[.slice none 0 0, .slice none 0 0] 39 (0, 0))) := Aside0.mk (by rw [← hX]; exact blk_alloc B5.out _)
  have n_HT : Aside0 (Below w.heap.size w X4) := Aside0.mk (by rw [← hX]; exact below_alloc HT.out _)
  have n_B7 : Aside0 (X4.heap[W3.heap.size]? = some (.cells #[.slice AP0 o1.length cP0, .slice AP1 o2.length cP1] 39 (0, 0))) := Aside0.mk (by rw [← hX]; exact blk_new _ _)
  have GB7 : Aside0 (w.heap.size ≤ W3.heap.size) := Aside0.mk (HT.out.size)
  have DB5_B7 : Aside0 (w.heap.size ≠ W3.heap.size) := Aside0.mk (Nat.ne_of_lt (blk_lt B5.out))
  clear P0
  clear P1
  clear B5
  clear HT
  have P0 := n_P0
  clear n_P0
  have P1 := n_P1
  clear n_P1
  have B5 := n_B5
  clear n_B5
  have B7 := n_B7
  clear n_B7
  have HT := n_HT
  clear n_HT
  clear hX
  go_wp2_with fail
  refine (cell_List.calls B c' v q1 q2 0 _ (HV.out.at HT.out).2 (HV.out.at HT.out).1 HP.out.2.2.2.1).mono ?_
  rintro e W5 ⟨vQ0, vQ1, rfl, hQ0, hQ1, HB⟩
  have n_P0 := Aside0.mk (OI.step P0.out HB)
  have n_P1 := Aside0.mk (OI.step P1.out HB)
  have n_B5 := Aside0.mk (blk_below B5.out HB)
  have n_B7 := Aside0.mk (blk_below B7.out HB)
  have n_HT := Aside0.mk (below_step HT.out HB)
  clear P0
  have P0 := n_P0
  clear n_P0
  clear P1
  have P1 := n_P1
  clear n_P1
  clear B5
  have B5 := n_B5
  clear n_B5
  clear B7
  have B7 := n_B7
  clear n_B7
  clear HT
  have HT := n_HT
  clear n_HT
  clear HB
  obtain ⟨AQ0, cQ0, rfl⟩ := Kd.R_slice hQ0
  have Q0 : Aside0 (OI 3 W5 AQ0 cQ0 q1) := Aside0.mk (OI.of hQ0)
  clear hQ0
  obtain ⟨AQ1, cQ1, rfl⟩ := Kd.R_slice hQ1
  have Q1 : Aside0 (OI 2 W5 AQ1 cQ1 q2) := Aside0.mk (OI.of hQ1)
  clear hQ1
  go_upto_region 10 with (fail)
  generalize hX : World.alloc W5 (.cells #[.slice AQ0 q1.length cQ0, .slice AQ1 q2.length cQ1] 39 (0, 0)) = X6
  have hs_X6 : X6.heap.size = W5.heap.size + 1 := by rw [← hX]; simp
  replace hs_X6 := Aside0.mk hs_X6
  have n_P0 : Aside0 (OI 3 X6 AP0 cP0 o1) := Aside0.mk (by rw [← hX]; exact OI.alloc P0.out _)
  have n_P1 : Aside0 (OI 2 X6 AP1 cP1 o2) := Aside0.mk (by rw [← hX]; exact OI.alloc P1.out _)
  have n_Q0 : Aside0 (OI 3 X6 AQ0 cQ0 q1) := Aside0.mk (by rw [← hX]; exact OI.alloc Q0.out _)
  have n_Q1 : Aside0 (OI 2 X6 AQ1 cQ1 q2) := Aside0.mk (by rw [← hX]; exact OI.alloc Q1.out _)
  have n_B5 : Aside0 (X6.heap[w.heap.size]? = some (.cells #[.slice none 0 0, .slice none 0 0] 39 (0, 0))) := Aside0.mk (by rw [← hX]; exact blk_alloc B5.out _)
  have n_B7 : Aside0 (X6.heap[W3.heap.size]? = some (.cells #[.slice AP0 o1.length cP0, .slice AP1 o2.length cP1] 39 (0, 0))) := Aside0.mk (by rw [← hX]; exact blk_alloc B7.out _)
  have n_HT : Aside0 (Below w.heap.size w X6) := Aside0.mk (by rw [← hX]; exact below_alloc HT.out _)
  have n_B9 : Aside0 (X6.heap[W5.heap.size]? = some (.cells #[.slice AQ0 q1.length cQ0, .slice AQ1 q2.length cQ1] 39 (0, 0))) := Aside0.mk (by rw [← hX]; exact blk_new _ _)
  have GB9 : Aside0 (w.heap.size ≤ W5.heap.size) := Aside0.mk (HT.out.size)
  have DB5_B9 : Aside0 (w.heap.size ≠ W5.heap.size) := Aside0.mk (Nat.ne_of_lt (blk_lt B5.out))
  have DB7_B9 : Aside0 (W3.heap.size ≠ W5.heap.size) := Aside0.mk (Nat.ne_of_lt (blk_lt B7.out))
  clear P0
  clear P1
  clear Q0
  clear Q1
  clear B5
  clear B7
  clear HT
  have P0 := n_P0
  clear n_P0
  have P1 := n_P1
  clear n_P1
  have Q0 := n_Q0
  clear n_Q0
  have Q1 := n_Q1
  clear n_Q1
  have B5 := n_B5
  clear n_B5
  have B7 := n_B7
  clear n_B7
  have B9 := n_B9
  clear n_B9
  have HT := n_HT
  clear n_HT
  clear hX
  go_upto_region 11 with (fail)
  generalize hX : World.alloc X6 (.cells #[.int .i64 (v.length : Int)] 3 (0, 0)) = X7
  have hs_X7 : X7.heap.size = X6.heap.size + 1 := by rw [← hX]; simp
  replace hs_X7 := Aside0.mk hs_X7
  have n_P0 : Aside0 (OI 3 X7 AP0 cP0 o1) := Aside0.mk (by rw [← hX]; exact OI.alloc P0.out _)
  have n_P1 : Aside0 (OI 2 X7 AP1 cP1 o2) := Aside0.mk (by rw [← hX]; exact OI.alloc P1.out _)
  have n_Q0 : Aside0 (OI 3 X7 AQ0 cQ0 q1) := Aside0.mk (by rw [← hX]; exact OI.alloc Q0.out _)
  have n_Q1 : Aside0 (OI 2 X7 AQ1 cQ1 q2) := Aside0.mk (by rw [← hX]; exact OI.alloc Q1.out _)
  have n_B5 : Aside0 (X7.heap[w.heap.size]? = some (.cells #[.slice none 0 0, .slice none 0 0] 39 (0, 0))) := Aside0.mk (by rw [← hX]; exact blk_alloc B5.out _)
  have n_B7 : Aside0 (X7.heap[W3.heap.size]? = some (.cells #[.slice AP0 o1.length cP0, .slice AP1 o2.length cP1] 39 (0, 0))) := Aside0.mk (by rw [← hX]; exact blk_alloc B7.out _)
  have n_B9 : Aside0 (X7.heap[W5.heap.size]? = some (.cells #[.slice AQ0 q1.length cQ0, .slice AQ1 q2.length cQ1] 39 (0, 0))) := Aside0.mk (by rw [← hX]; exact blk_alloc B9.out _)
  have n_HT : Aside0 (Below w.heap.size w X7) := Aside0.mk (by rw [← hX]; exact below_alloc HT.out _)
  have n_BS : Aside0 (X7.heap[X6.heap.size]? = some (.cells #[.int .i64 (v.length : Int)] 3 (0, 0))) := Aside0.mk (by rw [← hX]; exact blk_new _ _)
  have GBS : Aside0 (w.heap.size ≤ X6.heap.size) := Aside0.mk (HT.out.size)
  have DB5_BS : Aside0 (w.heap.size ≠ X6.heap.size) := Aside0.mk (Nat.ne_of_lt (blk_lt B5.out))
  have DB7_BS : Aside0 (W3.heap.size ≠ X6.heap.size) := Aside0.mk (Nat.ne_of_lt (blk_lt B7.out))
  have DB9_BS : Aside0 (W5.heap.size ≠ X6.heap.size) := Aside0.mk (Nat.ne_of_lt (blk_lt B9.out))
  clear P0
  clear P1
  clear Q0
  clear Q1
  clear B5
  clear B7
  clear B9
  clear HT
  have P0 := n_P0
  clear n_P0
  have P1 := n_P1
  clear n_P1
  have Q0 := n_Q0
  clear n_Q0
  have Q1 := n_Q1
  clear n_Q1
  have B5 := n_B5
  clear n_B5
  have B7 := n_B7
  clear n_B7
  have B9 := n_B9
  clear n_B9
  have BS := n_BS
  clear n_BS
  have HT := n_HT
  clear n_HT
  clear hX
  generalize hX : World.alloc X7 (.cells #[.slice (some ⟨X6.heap.size, 0, none⟩) 1 1, .slice B v.length c'] 39 (0, 0)) = X8
  have hs_X8 : X8.heap.size = X7.heap.size + 1 := by rw [← hX]; simp
  replace hs_X8 := Aside0.mk hs_X8
  have ge_ : X7.heap.size = X6.heap.size + 1 := hs_X7.out
  have n_P0 : Aside0 (OI 3 X8 AP0 cP0 o1) := Aside0.mk (by rw [← hX]; exact OI.alloc P0.out _)
  have n_P1 : Aside0 (OI 2 X8 AP1 cP1 o2) := Aside0.mk (by rw [← hX]; exact OI.alloc P1.out _)
  have n_Q0 : Aside0 (OI 3 X8 AQ0 cQ0 q1) := Aside0.mk (by rw [← hX]; exact OI.alloc Q0.out _)
  have n_Q1 : Aside0 (OI 2 X8 AQ1 cQ1 q2) := Aside0.mk (by rw [← hX]; exact OI.alloc Q1.out _)
  have n_B5 : Aside0 (X8.heap[w.heap.size]? = some (.cells #[.slice none 0 0, .slice none 0 0] 39 (0, 0))) := Aside0.mk (by rw [← hX]; exact blk_alloc B5.out _)
  have n_B7 : Aside0 (X8.heap[W3.heap.size]? = some (.cells #[.slice AP0 o1.length cP0, .slice AP1 o2.length cP1] 39 (0, 0))) := Aside0.mk (by rw [← hX]; exact blk_alloc B7.out _)
  have n_B9 : Aside0 (X8.heap[W5.heap.size]? = some (.cells #[.slice AQ0 q1.length cQ0, .slice AQ1 q2.length cQ1] 39 (0, 0))) := Aside0.mk (by rw [← hX]; exact blk_alloc B9.out _)
  have n_BS : Aside0 (X8.heap[X6.heap.size]? = some (.cells #[.int .i64 (v.length : Int)] 3 (0, 0))) := Aside0.mk (by rw [← hX]; exact blk_alloc BS.out _)
  have n_HT : Aside0 (Below w.heap.size w X8) := Aside0.mk (by rw [← hX]; exact below_alloc HT.out _)
  have n_B11 : Aside0 (X8.heap[X6.heap.size + 1]? = some (.cells #[.slice (some ⟨X6.heap.size, 0, none⟩) 1 1, .slice B v.length c'] 39 (0, 0))) := Aside0.mk (by rw [← hX, ← ge_]; exact blk_new _ _)
  have GB11 : Aside0 (w.heap.size ≤ X6.heap.size + 1) := Aside0.mk (by rw [← ge_]; exact HT.out.size)
  have DB5_B11 : Aside0 (w.heap.size ≠ X6.heap.size + 1) := Aside0.mk (by rw [← ge_]; exact Nat.ne_of_lt (blk_lt B5.out))
  have DB7_B11 : Aside0 (W3.heap.size ≠ X6.heap.size + 1) := Aside0.mk (by rw [← ge_]; exact Nat.ne_of_lt (blk_lt B7.out))
  have DB9_B11 : Aside0 (W5.heap.size ≠ X6.heap.size + 1) := Aside0.mk (by rw [← ge_]; exact Nat.ne_of_lt (blk_lt B9.out))
  have DBS_B11 : Aside0 (X6.heap.size ≠ X6.heap.size + 1) := Aside0.mk (by rw [← ge_]; exact Nat.ne_of_lt (blk_lt BS.out))
  clear P0
  clear P1
  clear Q0
  clear Q1
  clear B5
  clear B7
  clear B9
  clear BS
  clear HT
  clear ge_
  have P0 := n_P0
  clear n_P0
  have P1 := n_P1
  clear n_P1
  have Q0 := n_Q0
  clear n_Q0
  have Q1 := n_Q1
  clear n_Q1
  have B5 := n_B5
  clear n_B5
  have B7 := n_B7
  clear n_B7
  have B9 := n_B9
  clear n_B9
  have BS := n_BS
  clear n_BS
  have B11 := n_B11
  clear n_B11
  have HT := n_HT
  clear n_HT
  clear hX
  have hB5_0 : X8.cell? ⟨w.heap.size, 0, none⟩ = some (.slice none 0 0) := (blk_cell B5.out 0).trans rfl
  have hB5_1 : X8.cell? ⟨w.heap.size, 1, none⟩ = some (.slice none 0 0) := (blk_cell B5.out 1).trans rfl
  have hB5_f := fun j => blk_frozen B5.out j
  have hB7_0 : X8.cell? ⟨W3.heap.size, 0, none⟩ = some (.slice AP0 o1.length cP0) := (blk_cell B7.out 0).trans rfl
  have hB7_1 : X8.cell? ⟨W3.heap.size, 1, none⟩ = some (.slice AP1 o2.length cP1) := (blk_cell B7.out 1).trans rfl
  have hB7_f := fun j => blk_frozen B7.out j
  have hB9_0 : X8.cell? ⟨W5.heap.size, 0, none⟩ = some (.slice AQ0 q1.length cQ0) := (blk_cell B9.out 0).trans rfl
  have hB9_1 : X8.cell? ⟨W5.heap.size, 1, none⟩ = some (.slice AQ1 q2.length cQ1) := (blk_cell B9.out 1).trans rfl
  have hB9_f := fun j => blk_frozen B9.out j
  have hB11_0 : X8.cell? ⟨X6.heap.size + 1, 0, none⟩ = some (.slice (some ⟨X6.heap.size, 0, none⟩) 1 1) := (blk_cell B11.out 0).trans rfl
  have hB11_1 : X8.cell? ⟨X6.heap.size + 1, 1, none⟩ = some (.slice B v.length c') := (blk_cell B11.out 1).trans rfl
  have hB11_f := fun j => blk_frozen B11.out j
  go_wp2_with fail
  clear hB5_0 hB5_1 hB5_f hB7_0 hB7_1 hB7_f hB9_0 hB9_1 hB9_f hB11_0 hB11_1 hB11_f
  refine (riffleref03_Same.calls 1000 AP0 cP0 o1 AP1 cP1 o2 none 0 [] none 0 [] true _ (OI.li P0.out).2 (OI.li P0.out).1 (OI.li P1.out).2 (OI.li P1.out).1 (LI.nil _).2 (Nat.le_refl 0) (LI.nil _).2 (Nat.le_refl 0) HP.out.2.2.2.2.1).mono ?_
  rintro e W9 ⟨rfl, HB⟩
  have n_P0 := Aside0.mk (OI.step P0.out HB)
  have n_P1 := Aside0.mk (OI.step P1.out HB)
  have n_Q0 := Aside0.mk (OI.step Q0.out HB)
  have n_Q1 := Aside0.mk (OI.step Q1.out HB)
  have n_B5 := Aside0.mk (blk_below B5.out HB)
  have n_B7 := Aside0.mk (blk_below B7.out HB)
  have n_B9 := Aside0.mk (blk_below B9.out HB)
  have n_BS := Aside0.mk (blk_below BS.out HB)
  have n_B11 := Aside0.mk (blk_below B11.out HB)
  have n_HT := Aside0.mk (below_step HT.out HB)
  clear P0
  have P0 := n_P0
  clear n_P0
  clear P1
  have P1 := n_P1
  clear n_P1
  clear Q0
  have Q0 := n_Q0
  clear n_Q0
  clear Q1
  have Q1 := n_Q1
  clear n_Q1
  clear B5
  have B5 := n_B5
  clear n_B5
  clear B7
  have B7 := n_B7
  clear n_B7
  clear B9
  have B9 := n_B9
  clear n_B9
  clear BS
  have BS := n_BS
  clear n_BS
  clear B11
  have B11 := n_B11
  clear n_B11
  clear HT
  have HT := n_HT
  clear n_HT
  clear HB
  have hB5_0 : W9.cell? ⟨w.heap.size, 0, none⟩ = some (.slice none 0 0) := (blk_cell B5.out 0).trans rfl
  have hB5_1 : W9.cell? ⟨w.heap.size, 1, none⟩ = some (.slice none 0 0) := (blk_cell B5.out 1).trans rfl
  have hB5_f := fun j => blk_frozen B5.out j
  have hB7_0 : W9.cell? ⟨W3.heap.size, 0, none⟩ = some (.slice AP0 o1.length cP0) := (blk_cell B7.out 0).trans rfl
  have hB7_1 : W9.cell? ⟨W3.heap.size, 1, none⟩ = some (.slice AP1 o2.length cP1) := (blk_cell B7.out 1).trans rfl
  have hB7_f := fun j => blk_frozen B7.out j
  have hB9_0 : W9.cell? ⟨W5.heap.size, 0, none⟩ = some (.slice AQ0 q1.length cQ0) := (blk_cell B9.out 0).trans rfl
  have hB9_1 : W9.cell? ⟨W5.heap.size, 1, none⟩ = some (.slice AQ1 q2.length cQ1) := (blk_cell B9.out 1).trans rfl
  have hB9_f := fun j => blk_frozen B9.out j
  have hB11_0 : W9.cell? ⟨X6.heap.size + 1, 0, none⟩ = some (.slice (some ⟨X6.heap.size, 0, none⟩) 1 1) := (blk_cell B11.out 0).trans rfl
  have hB11_1 : W9.cell? ⟨X6.heap.size + 1, 1, none⟩ = some (.slice B v.length c') := (blk_cell B11.out 1).trans rfl
  have hB11_f := fun j => blk_frozen B11.out j
  go_wp2_with fail
  clear hB5_0 hB5_1 hB5_f hB7_0 hB7_1 hB7_f hB9_0 hB9_1 hB9_f hB11_0 hB11_1 hB11_f
  refine (riffleref03_Same.calls 1000 AQ0 cQ0 q1 AQ1 cQ1 q2 (some ⟨X6.heap.size, 0, none⟩) 1 [(v.length : Int)] B c' v true _ (OI.li Q0.out).2 (OI.li Q0.out).1 (OI.li Q1.out).2 (OI.li Q1.out).1 (LI.one BS.out).2 (LI.one BS.out).1 (HV.out.at HT.out).2 (HV.out.at HT.out).1 HP.out.2.2.2.2.2.1).mono ?_
  rintro e W10 ⟨rfl, HB⟩
  have n_P0 := Aside0.mk (OI.step P0.out HB)
  have n_P1 := Aside0.mk (OI.step P1.out HB)
  have n_Q0 := Aside0.mk (OI.step Q0.out HB)
  have n_Q1 := Aside0.mk (OI.step Q1.out HB)
  have n_B5 := Aside0.mk (blk_below B5.out HB)
  have n_B7 := Aside0.mk (blk_below B7.out HB)
  have n_B9 := Aside0.mk (blk_below B9.out HB)
  have n_BS := Aside0.mk (blk_below BS.out HB)
  have n_B11 := Aside0.mk (blk_below B11.out HB)
  have n_HT := Aside0.mk (below_step HT.out HB)
  clear P0
  have P0 := n_P0
  clear n_P0
  clear P1
  have P1 := n_P1
  clear n_P1
  clear Q0
  have Q0 := n_Q0
  clear n_Q0
  clear Q1
  have Q1 := n_Q1
  clear n_Q1
  clear B5
  have B5 := n_B5
  clear n_B5
  clear B7
  have B7 := n_B7
  clear n_B7
  clear B9
  have B9 := n_B9
  clear n_B9
  clear BS
  have BS := n_BS
  clear n_BS
  clear B11
  have B11 := n_B11
  clear n_B11
  clear HT
  have HT := n_HT
  clear n_HT
  clear HB
  go_wp2_with fail
  refine (cell_Zero.calls A c d z1 z2 _ (HC.out.at HT.out).2 (HC.out.at HT.out).1 HP.out.2.2.2.2.2.2.1).mono ?_
  rintro e W11 ⟨vS0, vS1, rfl, hS0, hS1, HB⟩
  have n_P0 := Aside0.mk (OI.step P0.out HB)
  have n_P1 := Aside0.mk (OI.step P1.out HB)
  have n_Q0 := Aside0.mk (OI.step Q0.out HB)
  have n_Q1 := Aside0.mk (OI.step Q1.out HB)
  have n_B5 := Aside0.mk (blk_below B5.out HB)
  have n_B7 := Aside0.mk (blk_below B7.out HB)
  have n_B9 := Aside0.mk (blk_below B9.out HB)
  have n_BS := Aside0.mk (blk_below BS.out HB)
  have n_B11 := Aside0.mk (blk_below B11.out HB)
  have n_HT := Aside0.mk (below_step HT.out HB)
  clear P0
  have P0 := n_P0
  clear n_P0
  clear P1
  have P1 := n_P1
  clear n_P1
  clear Q0
  have Q0 := n_Q0
  clear n_Q0
  clear Q1
  have Q1 := n_Q1
  clear n_Q1
  clear B5
  have B5 := n_B5
  clear n_B5
  clear B7
  have B7 := n_B7
  clear n_B7
  clear B9
  have B9 := n_B9
  clear n_B9
  clear BS
  have BS := n_BS
  clear n_BS
  clear B11
  have B11 := n_B11
  clear n_B11
  clear HT
  have HT := n_HT
  clear n_HT
  clear HB
  obtain ⟨AS0, cS0, rfl⟩ := Kd.R_slice hS0
  have S0 : Aside0 (OI 3 W11 AS0 cS0 z1) := Aside0.mk (OI.of hS0)
  clear hS0
  obtain ⟨AS1, cS1, rfl⟩ := Kd.R_slice hS1
  have S1 : Aside0 (OI 2 W11 AS1 cS1 z2) := Aside0.mk (OI.of hS1)
  clear hS1
  go_wp2_with fail
  refine (riffleref03_Zero.calls 1000 A c d z1 z2 _ (HC.out.at HT.out).2 (HC.out.at HT.out).1 HP.out.2.2.2.2.2.2.2.1).mono ?_
  rintro e W12 ⟨vT0, vT1, rfl, hT0, hT1, HB⟩
  have n_P0 := Aside0.mk (OI.step P0.out HB)
  have n_P1 := Aside0.mk (OI.step P1.out HB)
  have n_Q0 := Aside0.mk (OI.step Q0.out HB)
  have n_Q1 := Aside0.mk (OI.step Q1.out HB)
  have n_S0 := Aside0.mk (OI.step S0.out HB)
  have n_S1 := Aside0.mk (OI.step S1.out HB)
  have n_B5 := Aside0.mk (blk_below B5.out HB)
  have n_B7 := Aside0.mk (blk_below B7.out HB)
  have n_B9 := Aside0.mk (blk_below B9.out HB)
  have n_BS := Aside0.mk (blk_below BS.out HB)
  have n_B11 := Aside0.mk (blk_below B11.out HB)
  have n_HT := Aside0.mk (below_step HT.out HB)
  clear P0
  have P0 := n_P0
  clear n_P0
  clear P1
  have P1 := n_P1
  clear n_P1
  clear Q0
  have Q0 := n_Q0
  clear n_Q0
  clear Q1
  have Q1 := n_Q1
  clear n_Q1
  clear S0
  have S0 := n_S0
  clear n_S0
  clear S1
  have S1 := n_S1
  clear n_S1
  clear B5
  have B5 := n_B5
  clear n_B5
  clear B7
  have B7 := n_B7
  clear n_B7
  clear B9
  have B9 := n_B9
  clear n_B9
  clear BS
  have BS := n_BS
  clear n_BS
  clear B11
  have B11 := n_B11
  clear n_B11
  clear HT
  have HT := n_HT
  clear n_HT
  clear HB
  obtain ⟨AT0, cT0, rfl⟩ := Kd.R_slice hT0
  have T0 : Aside0 (OI 3 W12 AT0 cT0 z1) := Aside0.mk (OI.of hT0)
  clear hT0
  obtain ⟨AT1, cT1, rfl⟩ := Kd.R_slice hT1
  have T1 : Aside0 (OI 2 W12 AT1 cT1 z2) := Aside0.mk (OI.of hT1)
  clear hT1
  go_wp2_with fail
  refine (riffleref03_Same.calls 1000 AS0 cS0 z1 AS1 cS1 z2 AT0 cT0 z1 AT1 cT1 z2 true _ (OI.li S0.out).2 (OI.li S0.out).1 (OI.li S1.out).2 (OI.li S1.out).1 (OI.li T0.out).2 (OI.li T0.out).1 (OI.li T1.out).2 (OI.li T1.out).1 HP.out.2.2.2.2.2.2.2.2.1).mono ?_
  rintro e W13 ⟨rfl, HB⟩
  have n_P0 := Aside0.mk (OI.step P0.out HB)
  have n_P1 := Aside0.mk (OI.step P1.out HB)
  have n_Q0 := Aside0.mk (OI.step Q0.out HB)
  have n_Q1 := Aside0.mk (OI.step Q1.out HB)
  have n_S0 := Aside0.mk (OI.step S0.out HB)
  have n_S1 := Aside0.mk (OI.step S1.out HB)
  have n_T0 := Aside0.mk (OI.step T0.out HB)
  have n_T1 := Aside0.mk (OI.step T1.out HB)
  have n_B5 := Aside0.mk (blk_below B5.out HB)
  have n_B7 := Aside0.mk (blk_below B7.out HB)
  have n_B9 := Aside0.mk (blk_below B9.out HB)
  have n_BS := Aside0.mk (blk_below BS.out HB)
  have n_B11 := Aside0.mk (blk_below B11.out HB)
  have n_HT := Aside0.mk (below_step HT.out HB)
  clear P0
  have P0 := n_P0
  clear n_P0
  clear P1
  have P1 := n_P1
  clear n_P1
  clear Q0
  have Q0 := n_Q0
  clear n_Q0
  clear Q1
  have Q1 := n_Q1
  clear n_Q1
  clear S0
  have S0 := n_S0
  clear n_S0
  clear S1
  have S1 := n_S1
  clear n_S1
  clear T0
  have T0 := n_T0
  clear n_T0
  clear T1
  have T1 := n_T1
  clear n_T1
  clear B5
  have B5 := n_B5
  clear n_B5
  clear B7
  have B7 := n_B7
  clear n_B7
  clear B9
  have B9 := n_B9
  clear n_B9
  clear BS
  have BS := n_BS
  clear n_BS
  clear B11
  have B11 := n_B11
  clear n_B11
  clear HT
  have HT := n_HT
  clear n_HT
  clear HB
  go_wp2_with fail
  refine (cell_Scalar.calls (d.length : Int) y1 y2 _ HP.out.2.2.2.2.2.2.2.2.2.1).mono ?_
  rintro e W14 ⟨vU0, vU1, rfl, hU0, hU1, HB⟩
  have n_P0 := Aside0.mk (OI.step P0.out HB)
  have n_P1 := Aside0.mk (OI.step P1.out HB)
  have n_Q0 := Aside0.mk (OI.step Q0.out HB)
  have n_Q1 := Aside0.mk (OI.step Q1.out HB)
  have n_S0 := Aside0.mk (OI.step S0.out HB)
  have n_S1 := Aside0.mk (OI.step S1.out HB)
  have n_T0 := Aside0.mk (OI.step T0.out HB)
  have n_T1 := Aside0.mk (OI.step T1.out HB)
  have n_B5 := Aside0.mk (blk_below B5.out HB)
  have n_B7 := Aside0.mk (blk_below B7.out HB)
  have n_B9 := Aside0.mk (blk_below B9.out HB)
  have n_BS := Aside0.mk (blk_below BS.out HB)
  have n_B11 := Aside0.mk (blk_below B11.out HB)
  have n_HT := Aside0.mk (below_step HT.out HB)
  clear P0
  have P0 := n_P0
  clear n_P0
  clear P1
  have P1 := n_P1
  clear n_P1
  clear Q0
  have Q0 := n_Q0
  clear n_Q0
  clear Q1
  have Q1 := n_Q1
  clear n_Q1
  clear S0
  have S0 := n_S0
  clear n_S0
  clear S1
  have S1 := n_S1
  clear n_S1
  clear T0
  have T0 := n_T0
  clear n_T0
  clear T1
  have T1 := n_T1
  clear n_T1
  clear B5
  have B5 := n_B5
  clear n_B5
  clear B7
  have B7 := n_B7
  clear n_B7
  clear B9
  have B9 := n_B9
  clear n_B9
  clear BS
  have BS := n_BS
  clear n_BS
  clear B11
  have B11 := n_B11
  clear n_B11
  clear HT
  have HT := n_HT
  clear n_HT
  clear HB
  obtain ⟨AU0, cU0, rfl⟩ := Kd.R_slice hU0
  have U0 : Aside0 (OI 3 W14 AU0 cU0 y1) := Aside0.mk (OI.of hU0)
  clear hU0
  obtain ⟨AU1, cU1, rfl⟩ := Kd.R_slice hU1
  have U1 : Aside0 (OI 2 W14 AU1 cU1 y2) := Aside0.mk (OI.of hU1)
  clear hU1
  go_wp2_with fail
  refine (riffleref03_Scalar.calls (d.length : Int) y1 y2 _ HP.out.2.2.2.2.2.2.2.2.2.2.1).mono ?_
  rintro e W15 ⟨vY0, vY1, rfl, hY0, hY1, HB⟩
  have n_P0 := Aside0.mk (OI.step P0.out HB)
  have n_P1 := Aside0.mk (OI.step P1.out HB)
  have n_Q0 := Aside0.mk (OI.step Q0.out HB)
  have n_Q1 := Aside0.mk (OI.step Q1.out HB)
  have n_S0 := Aside0.mk (OI.step S0.out HB)
  have n_S1 := Aside0.mk (OI.step S1.out HB)
  have n_T0 := Aside0.mk (OI.step T0.out HB)
  have n_T1 := Aside0.mk (OI.step T1.out HB)
  have n_U0 := Aside0.mk (OI.step U0.out HB)
  have n_U1 := Aside0.mk (OI.step U1.out HB)
  have n_B5 := Aside0.mk (blk_below B5.out HB)
  have n_B7 := Aside0.mk (blk_below B7.out HB)
  have n_B9 := Aside0.mk (blk_below B9.out HB)
  have n_BS := Aside0.mk (blk_below BS.out HB)
  have n_B11 := Aside0.mk (blk_below B11.out HB)
  have n_HT := Aside0.mk (below_step HT.out HB)
  clear P0
  have P0 := n_P0
  clear n_P0
  clear P1
  have P1 := n_P1
  clear n_P1
  clear Q0
  have Q0 := n_Q0
  clear n_Q0
  clear Q1
  have Q1 := n_Q1
  clear n_Q1
  clear S0
  have S0 := n_S0
  clear n_S0
  clear S1
  have S1 := n_S1
  clear n_S1
  clear T0
  have T0 := n_T0
  clear n_T0
  clear T1
  have T1 := n_T1
  clear n_T1
  clear U0
  have U0 := n_U0
  clear n_U0
  clear U1
  have U1 := n_U1
  clear n_U1
  clear B5
  have B5 := n_B5
  clear n_B5
  clear B7
  have B7 := n_B7
  clear n_B7
  clear B9
  have B9 := n_B9
  clear n_B9
  clear BS
  have BS := n_BS
  clear n_BS
  clear B11
  have B11 := n_B11
  clear n_B11
  clear HT
  have HT := n_HT
  clear n_HT
  clear HB
  obtain ⟨AY0, cY0, rfl⟩ := Kd.R_slice hY0
  have Y0 : Aside0 (OI 3 W15 AY0 cY0 y1) := Aside0.mk (OI.of hY0)
  clear hY0
  obtain ⟨AY1, cY1, rfl⟩ := Kd.R_slice hY1
  have Y1 : Aside0 (OI 2 W15 AY1 cY1 y2) := Aside0.mk (OI.of hY1)
  clear hY1
  go_wp2_with fail
  refine (riffleref03_Same.calls 1000 AU0 cU0 y1 AU1 cU1 y2 AY0 cY0 y1 AY1 cY1 y2 true _ (OI.li U0.out).2 (OI.li U0.out).1 (OI.li U1.out).2 (OI.li U1.out).1 (OI.li Y0.out).2 (OI.li Y0.out).1 (OI.li Y1.out).2 (OI.li Y1.out).1 HP.out.2.2.2.2.2.2.2.2.2.2.2.1).mono ?_
  rintro e W16 ⟨rfl, HB⟩
  have n_P0 := Aside0.mk (OI.step P0.out HB)
  have n_P1 := Aside0.mk (OI.step P1.out HB)
  have n_Q0 := Aside0.mk (OI.step Q0.out HB)
  have n_Q1 := Aside0.mk (OI.step Q1.out HB)
  have n_S0 := Aside0.mk (OI.step S0.out HB)
  have n_S1 := Aside0.mk (OI.step S1.out HB)
  have n_T0 := Aside0.mk (OI.step T0.out HB)
  have n_T1 := Aside0.mk (OI.step T1.out HB)
  have n_U0 := Aside0.mk (OI.step U0.out HB)
  have n_U1 := Aside0.mk (OI.step U1.out HB)
  have n_Y0 := Aside0.mk (OI.step Y0.out HB)
  have n_Y1 := Aside0.mk (OI.step Y1.out HB)
  have n_B5 := Aside0.mk (blk_below B5.out HB)
  have n_B7 := Aside0.mk (blk_below B7.out HB)
  have n_B9 := Aside0.mk (blk_below B9.out HB)
  have n_BS := Aside0.mk (blk_below BS.out HB)
  have n_B11 := Aside0.mk (blk_below B11.out HB)
  have n_HT := Aside0.mk (below_step HT.out HB)
  clear P0
  have P0 := n_P0
  clear n_P0
  clear P1
  have P1 := n_P1
  clear n_P1
  clear Q0
  have Q0 := n_Q0
  clear n_Q0
  clear Q1
  have Q1 := n_Q1
  clear n_Q1
  clear S0
  have S0 := n_S0
  clear n_S0
  clear S1
  have S1 := n_S1
  clear n_S1
  clear T0
  have T0 := n_T0
  clear n_T0
  clear T1
  have T1 := n_T1
  clear n_T1
  clear U0
  have U0 := n_U0
  clear n_U0
  clear U1
  have U1 := n_U1
  clear n_U1
  clear Y0
  have Y0 := n_Y0
  clear n_Y0
  clear Y1
  have Y1 := n_Y1
  clear n_Y1
  clear B5
  have B5 := n_B5
  clear n_B5
  clear B7
  have B7 := n_B7
  clear n_B7
  clear B9
  have B9 := n_B9
  clear n_B9
  clear BS
  have BS := n_BS
  clear n_BS
  clear B11
  have B11 := n_B11
  clear n_B11
  clear HT
  have HT := n_HT
  clear n_HT
  clear HB
  go_wp2_with fail
  refine (rifflelaw03_lives.calls 1000 true _ HP.out.2.2.2.2.2.2.2.2.2.2.2.2).mono ?_
  rintro e W17 ⟨rfl, HB⟩
  have n_P0 := Aside0.mk (OI.step P0.out HB)
  have n_P1 := Aside0.mk (OI.step P1.out HB)
  have n_Q0 := Aside0.mk (OI.step Q0.out HB)
  have n_Q1 := Aside0.mk (OI.step Q1.out HB)
  have n_S0 := Aside0.mk (OI.step S0.out HB)
  have n_S1 := Aside0.mk (OI.step S1.out HB)
  have n_T0 := Aside0.mk (OI.step T0.out HB)
  have n_T1 := Aside0.mk (OI.step T1.out HB)
  have n_U0 := Aside0.mk (OI.step U0.out HB)
  have n_U1 := Aside0.mk (OI.step U1.out HB)
  have n_Y0 := Aside0.mk (OI.step Y0.out HB)
  have n_Y1 := Aside0.mk (OI.step Y1.out HB)
  have n_B5 := Aside0.mk (blk_below B5.out HB)
  have n_B7 := Aside0.mk (blk_below B7.out HB)
  have n_B9 := Aside0.mk (blk_below B9.out HB)
  have n_BS := Aside0.mk (blk_below BS.out HB)
  have n_B11 := Aside0.mk (blk_below B11.out HB)
  have n_HT := Aside0.mk (below_step HT.out HB)
  clear P0
  have P0 := n_P0
  clear n_P0
  clear P1
  have P1 := n_P1
  clear n_P1
  clear Q0
  have Q0 := n_Q0
  clear n_Q0
  clear Q1
  have Q1 := n_Q1
  clear n_Q1
  clear S0
  have S0 := n_S0
  clear n_S0
  clear S1
  have S1 := n_S1
  clear n_S1
  clear T0
  have T0 := n_T0
  clear n_T0
  clear T1
  have T1 := n_T1
  clear n_T1
  clear U0
  have U0 := n_U0
  clear n_U0
  clear U1
  have U1 := n_U1
  clear n_U1
  clear Y0
  have Y0 := n_Y0
  clear n_Y0
  clear Y1
  have Y1 := n_Y1
  clear n_Y1
  clear B5
  have B5 := n_B5
  clear n_B5
  clear B7
  have B7 := n_B7
  clear n_B7
  clear B9
  have B9 := n_B9
  clear n_B9
  clear BS
  have BS := n_BS
  clear n_BS
  clear B11
  have B11 := n_B11
  clear n_B11
  clear HT
  have HT := n_HT
  clear n_HT
  clear HB
  go_wp2
  go_ret
  exact ⟨rfl, HT.out⟩
theorem makes_nb (w : World) (A : Option Addr) (c : Nat) (d : List Int) (B : Option Addr) (c' : Nat) (v : List Int) (HC : Aside0 (LI w A c d)) (HV : Aside0 (LI w B c' v)) (z : Int) (o1 o2 q1 q2 z1 z2 y1 y2 : List Int)
    (g1 : ¬ (10 < (d.length : Int))) (g2 : ¬ (200 < (v.length : Int))) (g3 : 64 < (v.length : Int))
    (HP : Aside0 (riffleref01_Right.f 1000 d = some false ∧ riffleref01_Size.f 1000 d = some z ∧ cell_Of.f d v = some (o1, o2, 1) ∧ cell_List.f v = some (q1, q2, 4) ∧ riffleref03_Same.f 1000 o1 o2 [] [] = some true ∧ riffleref03_Same.f 1000 q1 q2 [] [] = some true ∧ cell_Zero.f d = some (z1, z2) ∧ riffleref03_Zero.f 1000 d = some (z1, z2) ∧ riffleref03_Same.f 1000 z1 z2 z1 z2 = some true ∧ cell_Scalar.f (d.length : Int) = some (y1, y2) ∧ riffleref03_Scalar.f (d.length : Int) = some (y1, y2) ∧ riffleref03_Same.f 1000 y1 y2 y1 y2 = some true ∧ rifflelaw03_lives.f 1000 = some true)) :
    Calls Try.prog 7 #[.slice A d.length c, .slice B v.length c'] w fun e w' => e = .returned (.bool true) ∧ Below w.heap.size w w' := by
  go_enter Try.func7, Try.ntmps7
  go_upto_region 4 with (fail)
  generalize hX : World.alloc w (.cells #[.slice none 0 0, .slice none 0 0] 39 (0, 0)) = X1
  have n_HT : Aside0 (Below w.heap.size w X1) := Aside0.mk (by rw [← hX]; exact below_alloc (Below.refl _ _) _)
  have hs_X1 : X1.heap.size = w.heap.size + 1 := by rw [← hX]; simp
  replace hs_X1 := Aside0.mk hs_X1
  have n_B5 : Aside0 (X1.heap[w.heap.size]? = some (.cells #[.slice none 0 0, .slice none 0 0] 39 (0, 0))) := Aside0.mk (by rw [← hX]; exact blk_new _ _)
  have GB5 : Aside0 (w.heap.size ≤ w.heap.size) := Aside0.mk (Nat.le_refl _)
  have B5 := n_B5
  clear n_B5
  have HT := n_HT
  clear n_HT
  clear hX
  go_wp2_with fail
  refine (riffleref01_Right.calls 1000 A c d false _ (HC.out.at HT.out).2 (HC.out.at HT.out).1 HP.out.1).mono ?_
  rintro e W2 ⟨rfl, HB0⟩
  have HB := HB0.below
  clear HB0
  have n_B5 := Aside0.mk (blk_below B5.out HB)
  have n_HT := Aside0.mk (below_step HT.out HB)
  clear B5
  have B5 := n_B5
  clear n_B5
  clear HT
  have HT := n_HT
  clear n_HT
  clear HB
  go_wp2_with fail
  refine (cell_Of.calls A c d B c' v o1 o2 1 _ (HC.out.at HT.out).2 (HC.out.at HT.out).1 (HV.out.at HT.out).2 (HV.out.at HT.out).1 HP.out.2.2.1).mono ?_
  rintro e W3 ⟨vP0, vP1, rfl, hP0, hP1, HB⟩
  have n_B5 := Aside0.mk (blk_below B5.out HB)
  have n_HT := Aside0.mk (below_step HT.out HB)
  clear B5
  have B5 := n_B5
  clear n_B5
  clear HT
  have HT := n_HT
  clear n_HT
  clear HB
  obtain ⟨AP0, cP0, rfl⟩ := Kd.R_slice hP0
  have P0 : Aside0 (OI 3 W3 AP0 cP0 o1) := Aside0.mk (OI.of hP0)
  clear hP0
  obtain ⟨AP1, cP1, rfl⟩ := Kd.R_slice hP1
  have P1 : Aside0 (OI 2 W3 AP1 cP1 o2) := Aside0.mk (OI.of hP1)
  clear hP1
  go_upto_region 9 with (fail)
  generalize hX : World.alloc W3 (.cells #[.slice AP0 o1.length cP0, .slice AP1 o2.length cP1] 39 (0, 0)) = X4
  have hs_X4 : X4.heap.size = W3.heap.size + 1 := by rw [← hX]; simp
  replace hs_X4 := Aside0.mk hs_X4
  have n_P0 : Aside0 (OI 3 X4 AP0 cP0 o1) := Aside0.mk (by rw [← hX]; exact OI.alloc P0.out _)
  have n_P1 : Aside0 (OI 2 X4 AP1 cP1 o2) := Aside0.mk (by rw [← hX]; exact OI.alloc P1.out _)
  have n_B5 : Aside0 (X4.heap[w.heap.size]? = some (.cells #[.slice none 0 0, .slice none 0 0] 39 (0, 0))) := Aside0.mk (by rw [← hX]; exact blk_alloc B5.out _)
  have n_HT : Aside0 (Below w.heap.size w X4) := Aside0.mk (by rw [← hX]; exact below_alloc HT.out _)
  have n_B7 : Aside0 (X4.heap[W3.heap.size]? = some (.cells #[.slice AP0 o1.length cP0, .slice AP1 o2.length cP1] 39 (0, 0))) := Aside0.mk (by rw [← hX]; exact blk_new _ _)
  have GB7 : Aside0 (w.heap.size ≤ W3.heap.size) := Aside0.mk (HT.out.size)
  have DB5_B7 : Aside0 (w.heap.size ≠ W3.heap.size) := Aside0.mk (Nat.ne_of_lt (blk_lt B5.out))
  clear P0
  clear P1
  clear B5
  clear HT
  have P0 := n_P0
  clear n_P0
  have P1 := n_P1
  clear n_P1
  have B5 := n_B5
  clear n_B5
  have B7 := n_B7
  clear n_B7
  have HT := n_HT
  clear n_HT
  clear hX
  go_wp2_with fail
  refine (cell_List.calls B c' v q1 q2 4 _ (HV.out.at HT.out).2 (HV.out.at HT.out).1 HP.out.2.2.2.1).mono ?_
  rintro e W5 ⟨vQ0, vQ1, rfl, hQ0, hQ1, HB⟩
  have n_P0 := Aside0.mk (OI.step P0.out HB)
  have n_P1 := Aside0.mk (OI.step P1.out HB)
  have n_B5 := Aside0.mk (blk_below B5.out HB)
  have n_B7 := Aside0.mk (blk_below B7.out HB)
  have n_HT := Aside0.mk (below_step HT.out HB)
  clear P0
  have P0 := n_P0
  clear n_P0
  clear P1
  have P1 := n_P1
  clear n_P1
  clear B5
  have B5 := n_B5
  clear n_B5
  clear B7
  have B7 := n_B7
  clear n_B7
  clear HT
  have HT := n_HT
  clear n_HT
  clear HB
  obtain ⟨AQ0, cQ0, rfl⟩ := Kd.R_slice hQ0
  have Q0 : Aside0 (OI 3 W5 AQ0 cQ0 q1) := Aside0.mk (OI.of hQ0)
  clear hQ0
  obtain ⟨AQ1, cQ1, rfl⟩ := Kd.R_slice hQ1
  have Q1 : Aside0 (OI 2 W5 AQ1 cQ1 q2) := Aside0.mk (OI.of hQ1)
  clear hQ1
  go_upto_region 10 with (fail)
  generalize hX : World.alloc W5 (.cells #[.slice AQ0 q1.length cQ0, .slice AQ1 q2.length cQ1] 39 (0, 0)) = X6
  have hs_X6 : X6.heap.size = W5.heap.size + 1 := by rw [← hX]; simp
  replace hs_X6 := Aside0.mk hs_X6
  have n_P0 : Aside0 (OI 3 X6 AP0 cP0 o1) := Aside0.mk (by rw [← hX]; exact OI.alloc P0.out _)
  have n_P1 : Aside0 (OI 2 X6 AP1 cP1 o2) := Aside0.mk (by rw [← hX]; exact OI.alloc P1.out _)
  have n_Q0 : Aside0 (OI 3 X6 AQ0 cQ0 q1) := Aside0.mk (by rw [← hX]; exact OI.alloc Q0.out _)
  have n_Q1 : Aside0 (OI 2 X6 AQ1 cQ1 q2) := Aside0.mk (by rw [← hX]; exact OI.alloc Q1.out _)
  have n_B5 : Aside0 (X6.heap[w.heap.size]? = some (.cells #[.slice none 0 0, .slice none 0 0] 39 (0, 0))) := Aside0.mk (by rw [← hX]; exact blk_alloc B5.out _)
  have n_B7 : Aside0 (X6.heap[W3.heap.size]? = some (.cells #[.slice AP0 o1.length cP0, .slice AP1 o2.length cP1] 39 (0, 0))) := Aside0.mk (by rw [← hX]; exact blk_alloc B7.out _)
  have n_HT : Aside0 (Below w.heap.size w X6) := Aside0.mk (by rw [← hX]; exact below_alloc HT.out _)
  have n_B9 : Aside0 (X6.heap[W5.heap.size]? = some (.cells #[.slice AQ0 q1.length cQ0, .slice AQ1 q2.length cQ1] 39 (0, 0))) := Aside0.mk (by rw [← hX]; exact blk_new _ _)
  have GB9 : Aside0 (w.heap.size ≤ W5.heap.size) := Aside0.mk (HT.out.size)
  have DB5_B9 : Aside0 (w.heap.size ≠ W5.heap.size) := Aside0.mk (Nat.ne_of_lt (blk_lt B5.out))
  have DB7_B9 : Aside0 (W3.heap.size ≠ W5.heap.size) := Aside0.mk (Nat.ne_of_lt (blk_lt B7.out))
  clear P0
  clear P1
  clear Q0
  clear Q1
  clear B5
  clear B7
  clear HT
  have P0 := n_P0
  clear n_P0
  have P1 := n_P1
  clear n_P1
  have Q0 := n_Q0
  clear n_Q0
  have Q1 := n_Q1
  clear n_Q1
  have B5 := n_B5
  clear n_B5
  have B7 := n_B7
  clear n_B7
  have B9 := n_B9
  clear n_B9
  have HT := n_HT
  clear n_HT
  clear hX
  go_upto_region 11 with (fail)
  generalize hX : World.alloc X6 (.cells #[.int .i64 (v.length : Int)] 3 (0, 0)) = X7
  have hs_X7 : X7.heap.size = X6.heap.size + 1 := by rw [← hX]; simp
  replace hs_X7 := Aside0.mk hs_X7
  have n_P0 : Aside0 (OI 3 X7 AP0 cP0 o1) := Aside0.mk (by rw [← hX]; exact OI.alloc P0.out _)
  have n_P1 : Aside0 (OI 2 X7 AP1 cP1 o2) := Aside0.mk (by rw [← hX]; exact OI.alloc P1.out _)
  have n_Q0 : Aside0 (OI 3 X7 AQ0 cQ0 q1) := Aside0.mk (by rw [← hX]; exact OI.alloc Q0.out _)
  have n_Q1 : Aside0 (OI 2 X7 AQ1 cQ1 q2) := Aside0.mk (by rw [← hX]; exact OI.alloc Q1.out _)
  have n_B5 : Aside0 (X7.heap[w.heap.size]? = some (.cells #[.slice none 0 0, .slice none 0 0] 39 (0, 0))) := Aside0.mk (by rw [← hX]; exact blk_alloc B5.out _)
  have n_B7 : Aside0 (X7.heap[W3.heap.size]? = some (.cells #[.slice AP0 o1.length cP0, .slice AP1 o2.length cP1] 39 (0, 0))) := Aside0.mk (by rw [← hX]; exact blk_alloc B7.out _)
  have n_B9 : Aside0 (X7.heap[W5.heap.size]? = some (.cells #[.slice AQ0 q1.length cQ0, .slice AQ1 q2.length cQ1] 39 (0, 0))) := Aside0.mk (by rw [← hX]; exact blk_alloc B9.out _)
  have n_HT : Aside0 (Below w.heap.size w X7) := Aside0.mk (by rw [← hX]; exact below_alloc HT.out _)
  have n_BS : Aside0 (X7.heap[X6.heap.size]? = some (.cells #[.int .i64 (v.length : Int)] 3 (0, 0))) := Aside0.mk (by rw [← hX]; exact blk_new _ _)
  have GBS : Aside0 (w.heap.size ≤ X6.heap.size) := Aside0.mk (HT.out.size)
  have DB5_BS : Aside0 (w.heap.size ≠ X6.heap.size) := Aside0.mk (Nat.ne_of_lt (blk_lt B5.out))
  have DB7_BS : Aside0 (W3.heap.size ≠ X6.heap.size) := Aside0.mk (Nat.ne_of_lt (blk_lt B7.out))
  have DB9_BS : Aside0 (W5.heap.size ≠ X6.heap.size) := Aside0.mk (Nat.ne_of_lt (blk_lt B9.out))
  clear P0
  clear P1
  clear Q0
  clear Q1
  clear B5
  clear B7
  clear B9
  clear HT
  have P0 := n_P0
  clear n_P0
  have P1 := n_P1
  clear n_P1
  have Q0 := n_Q0
  clear n_Q0
  have Q1 := n_Q1
  clear n_Q1
  have B5 := n_B5
  clear n_B5
  have B7 := n_B7
  clear n_B7
  have B9 := n_B9
  clear n_B9
  have BS := n_BS
  clear n_BS
  have HT := n_HT
  clear n_HT
  clear hX
  generalize hX : World.alloc X7 (.cells #[.slice (some ⟨X6.heap.size, 0, none⟩) 1 1, .slice B v.length c'] 39 (0, 0)) = X8
  have hs_X8 : X8.heap.size = X7.heap.size + 1 := by rw [← hX]; simp
  replace hs_X8 := Aside0.mk hs_X8
  have ge_ : X7.heap.size = X6.heap.size + 1 := hs_X7.out
  have n_P0 : Aside0 (OI 3 X8 AP0 cP0 o1) := Aside0.mk (by rw [← hX]; exact OI.alloc P0.out _)
  have n_P1 : Aside0 (OI 2 X8 AP1 cP1 o2) := Aside0.mk (by rw [← hX]; exact OI.alloc P1.out _)
  have n_Q0 : Aside0 (OI 3 X8 AQ0 cQ0 q1) := Aside0.mk (by rw [← hX]; exact OI.alloc Q0.out _)
  have n_Q1 : Aside0 (OI 2 X8 AQ1 cQ1 q2) := Aside0.mk (by rw [← hX]; exact OI.alloc Q1.out _)
  have n_B5 : Aside0 (X8.heap[w.heap.size]? = some (.cells #[.slice none 0 0, .slice none 0 0] 39 (0, 0))) := Aside0.mk (by rw [← hX]; exact blk_alloc B5.out _)
  have n_B7 : Aside0 (X8.heap[W3.heap.size]? = some (.cells #[.slice AP0 o1.length cP0, .slice AP1 o2.length cP1] 39 (0, 0))) := Aside0.mk (by rw [← hX]; exact blk_alloc B7.out _)
  have n_B9 : Aside0 (X8.heap[W5.heap.size]? = some (.cells #[.slice AQ0 q1.length cQ0, .slice AQ1 q2.length cQ1] 39 (0, 0))) := Aside0.mk (by rw [← hX]; exact blk_alloc B9.out _)
  have n_BS : Aside0 (X8.heap[X6.heap.size]? = some (.cells #[.int .i64 (v.length : Int)] 3 (0, 0))) := Aside0.mk (by rw [← hX]; exact blk_alloc BS.out _)
  have n_HT : Aside0 (Below w.heap.size w X8) := Aside0.mk (by rw [← hX]; exact below_alloc HT.out _)
  have n_B11 : Aside0 (X8.heap[X6.heap.size + 1]? = some (.cells #[.slice (some ⟨X6.heap.size, 0, none⟩) 1 1, .slice B v.length c'] 39 (0, 0))) := Aside0.mk (by rw [← hX, ← ge_]; exact blk_new _ _)
  have GB11 : Aside0 (w.heap.size ≤ X6.heap.size + 1) := Aside0.mk (by rw [← ge_]; exact HT.out.size)
  have DB5_B11 : Aside0 (w.heap.size ≠ X6.heap.size + 1) := Aside0.mk (by rw [← ge_]; exact Nat.ne_of_lt (blk_lt B5.out))
  have DB7_B11 : Aside0 (W3.heap.size ≠ X6.heap.size + 1) := Aside0.mk (by rw [← ge_]; exact Nat.ne_of_lt (blk_lt B7.out))
  have DB9_B11 : Aside0 (W5.heap.size ≠ X6.heap.size + 1) := Aside0.mk (by rw [← ge_]; exact Nat.ne_of_lt (blk_lt B9.out))
  have DBS_B11 : Aside0 (X6.heap.size ≠ X6.heap.size + 1) := Aside0.mk (by rw [← ge_]; exact Nat.ne_of_lt (blk_lt BS.out))
  clear P0
  clear P1
  clear Q0
  clear Q1
  clear B5
  clear B7
  clear B9
  clear BS
  clear HT
  clear ge_
  have P0 := n_P0
  clear n_P0
  have P1 := n_P1
  clear n_P1
  have Q0 := n_Q0
  clear n_Q0
  have Q1 := n_Q1
  clear n_Q1
  have B5 := n_B5
  clear n_B5
  have B7 := n_B7
  clear n_B7
  have B9 := n_B9
  clear n_B9
  have BS := n_BS
  clear n_BS
  have B11 := n_B11
  clear n_B11
  have HT := n_HT
  clear n_HT
  clear hX
  have hB11_0 : X8.cell? ⟨X6.heap.size + 1, 0, none⟩ = some (.slice (some ⟨X6.heap.size, 0, none⟩) 1 1) := (blk_cell B11.out 0).trans rfl
  have hB11_1 : X8.cell? ⟨X6.heap.size + 1, 1, none⟩ = some (.slice B v.length c') := (blk_cell B11.out 1).trans rfl
  have hB11_f := fun j => blk_frozen B11.out j
  go_upto_region 13 with (fail)
  clear hB11_0 hB11_1 hB11_f
  generalize hX : World.setCell (World.setCell X8 ⟨X6.heap.size + 1, 0, none⟩ (.slice none 0 0)) ⟨X6.heap.size + 1, 1, none⟩ (.slice none 0 0) = X9
  have m_ := blk_put (cs := #[.slice (some ⟨X6.heap.size, 0, none⟩) 1 1, .slice B v.length c']) (cs' := #[.slice none 0 0, .slice B v.length c']) B11.out 0 (.slice none 0 0) rfl
  have n_P0 : Aside0 (OI 3 X9 AP0 cP0 o1) := Aside0.mk (by rw [← hX]; exact (P0.out.set B11.out (by decide) 0 _).set m_ (by decide) 1 _)
  have n_P1 : Aside0 (OI 2 X9 AP1 cP1 o2) := Aside0.mk (by rw [← hX]; exact (P1.out.set B11.out (by decide) 0 _).set m_ (by decide) 1 _)
  have n_Q0 : Aside0 (OI 3 X9 AQ0 cQ0 q1) := Aside0.mk (by rw [← hX]; exact (Q0.out.set B11.out (by decide) 0 _).set m_ (by decide) 1 _)
  have n_Q1 : Aside0 (OI 2 X9 AQ1 cQ1 q2) := Aside0.mk (by rw [← hX]; exact (Q1.out.set B11.out (by decide) 0 _).set m_ (by decide) 1 _)
  have n_B5 : Aside0 (X9.heap[w.heap.size]? = some (.cells #[.slice none 0 0, .slice none 0 0] 39 (0, 0))) := Aside0.mk (by rw [← hX]; exact blk_far (blk_far B5.out (p := ⟨_, _, none⟩) DB5_B11.out _) (p := ⟨_, _, none⟩) DB5_B11.out _)
  have n_B7 : Aside0 (X9.heap[W3.heap.size]? = some (.cells #[.slice AP0 o1.length cP0, .slice AP1 o2.length cP1] 39 (0, 0))) := Aside0.mk (by rw [← hX]; exact blk_far (blk_far B7.out (p := ⟨_, _, none⟩) DB7_B11.out _) (p := ⟨_, _, none⟩) DB7_B11.out _)
  have n_B9 : Aside0 (X9.heap[W5.heap.size]? = some (.cells #[.slice AQ0 q1.length cQ0, .slice AQ1 q2.length cQ1] 39 (0, 0))) := Aside0.mk (by rw [← hX]; exact blk_far (blk_far B9.out (p := ⟨_, _, none⟩) DB9_B11.out _) (p := ⟨_, _, none⟩) DB9_B11.out _)
  have n_BS : Aside0 (X9.heap[X6.heap.size]? = some (.cells #[.int .i64 (v.length : Int)] 3 (0, 0))) := Aside0.mk (by rw [← hX]; exact blk_far (blk_far BS.out (p := ⟨_, _, none⟩) DBS_B11.out _) (p := ⟨_, _, none⟩) DBS_B11.out _)
  have n_B11 : Aside0 (X9.heap[X6.heap.size + 1]? = some (.cells #[.slice none 0 0, .slice none 0 0] 39 (0, 0))) := Aside0.mk (by rw [← hX]; exact blk_put (cs := #[.slice none 0 0, .slice B v.length c']) m_ 1 (.slice none 0 0) rfl)
  have n_HT : Aside0 (Below w.heap.size w X9) := Aside0.mk (by rw [← hX]; exact below_set (below_set HT.out GB11.out) GB11.out)
  clear P0
  have P0 := n_P0
  clear n_P0
  clear P1
  have P1 := n_P1
  clear n_P1
  clear Q0
  have Q0 := n_Q0
  clear n_Q0
  clear Q1
  have Q1 := n_Q1
  clear n_Q1
  clear B5
  have B5 := n_B5
  clear n_B5
  clear B7
  have B7 := n_B7
  clear n_B7
  clear B9
  have B9 := n_B9
  clear n_B9
  clear BS
  have BS := n_BS
  clear n_BS
  clear B11
  have B11 := n_B11
  clear n_B11
  clear HT
  have HT := n_HT
  clear n_HT
  clear hX m_
  have hB5_0 : X9.cell? ⟨w.heap.size, 0, none⟩ = some (.slice none 0 0) := (blk_cell B5.out 0).trans rfl
  have hB5_1 : X9.cell? ⟨w.heap.size, 1, none⟩ = some (.slice none 0 0) := (blk_cell B5.out 1).trans rfl
  have hB5_f := fun j => blk_frozen B5.out j
  have hB7_0 : X9.cell? ⟨W3.heap.size, 0, none⟩ = some (.slice AP0 o1.length cP0) := (blk_cell B7.out 0).trans rfl
  have hB7_1 : X9.cell? ⟨W3.heap.size, 1, none⟩ = some (.slice AP1 o2.length cP1) := (blk_cell B7.out 1).trans rfl
  have hB7_f := fun j => blk_frozen B7.out j
  have hB9_0 : X9.cell? ⟨W5.heap.size, 0, none⟩ = some (.slice AQ0 q1.length cQ0) := (blk_cell B9.out 0).trans rfl
  have hB9_1 : X9.cell? ⟨W5.heap.size, 1, none⟩ = some (.slice AQ1 q2.length cQ1) := (blk_cell B9.out 1).trans rfl
  have hB9_f := fun j => blk_frozen B9.out j
  have hB11_0 : X9.cell? ⟨X6.heap.size + 1, 0, none⟩ = some (.slice none 0 0) := (blk_cell B11.out 0).trans rfl
  have hB11_1 : X9.cell? ⟨X6.heap.size + 1, 1, none⟩ = some (.slice none 0 0) := (blk_cell B11.out 1).trans rfl
  have hB11_f := fun j => blk_frozen B11.out j
  go_wp2_with fail
  clear hB5_0 hB5_1 hB5_f hB7_0 hB7_1 hB7_f hB9_0 hB9_1 hB9_f hB11_0 hB11_1 hB11_f
  refine (riffleref03_Same.calls 1000 AP0 cP0 o1 AP1 cP1 o2 none 0 [] none 0 [] true _ (OI.li P0.out).2 (OI.li P0.out).1 (OI.li P1.out).2 (OI.li P1.out).1 (LI.nil _).2 (Nat.le_refl 0) (LI.nil _).2 (Nat.le_refl 0) HP.out.2.2.2.2.1).mono ?_
  rintro e W10 ⟨rfl, HB⟩
  have n_P0 := Aside0.mk (OI.step P0.out HB)
  have n_P1 := Aside0.mk (OI.step P1.out HB)
  have n_Q0 := Aside0.mk (OI.step Q0.out HB)
  have n_Q1 := Aside0.mk (OI.step Q1.out HB)
  have n_B5 := Aside0.mk (blk_below B5.out HB)
  have n_B7 := Aside0.mk (blk_below B7.out HB)
  have n_B9 := Aside0.mk (blk_below B9.out HB)
  have n_BS := Aside0.mk (blk_below BS.out HB)
  have n_B11 := Aside0.mk (blk_below B11.out HB)
  have n_HT := Aside0.mk (below_step HT.out HB)
  clear P0
  have P0 := n_P0
  clear n_P0
  clear P1
  have P1 := n_P1
  clear n_P1
  clear Q0
  have Q0 := n_Q0
  clear n_Q0
  clear Q1
  have Q1 := n_Q1
  clear n_Q1
  clear B5
  have B5 := n_B5
  clear n_B5
  clear B7
  have B7 := n_B7
  clear n_B7
  clear B9
  have B9 := n_B9
  clear n_B9
  clear BS
  have BS := n_BS
  clear n_BS
  clear B11
  have B11 := n_B11
  clear n_B11
  clear HT
  have HT := n_HT
  clear n_HT
  clear HB
  have hB5_0 : W10.cell? ⟨w.heap.size, 0, none⟩ = some (.slice none 0 0) := (blk_cell B5.out 0).trans rfl
  have hB5_1 : W10.cell? ⟨w.heap.size, 1, none⟩ = some (.slice none 0 0) := (blk_cell B5.out 1).trans rfl
  have hB5_f := fun j => blk_frozen B5.out j
  have hB7_0 : W10.cell? ⟨W3.heap.size, 0, none⟩ = some (.slice AP0 o1.length cP0) := (blk_cell B7.out 0).trans rfl
  have hB7_1 : W10.cell? ⟨W3.heap.size, 1, none⟩ = some (.slice AP1 o2.length cP1) := (blk_cell B7.out 1).trans rfl
  have hB7_f := fun j => blk_frozen B7.out j
  have hB9_0 : W10.cell? ⟨W5.heap.size, 0, none⟩ = some (.slice AQ0 q1.length cQ0) := (blk_cell B9.out 0).trans rfl
  have hB9_1 : W10.cell? ⟨W5.heap.size, 1, none⟩ = some (.slice AQ1 q2.length cQ1) := (blk_cell B9.out 1).trans rfl
  have hB9_f := fun j => blk_frozen B9.out j
  have hB11_0 : W10.cell? ⟨X6.heap.size + 1, 0, none⟩ = some (.slice none 0 0) := (blk_cell B11.out 0).trans rfl
  have hB11_1 : W10.cell? ⟨X6.heap.size + 1, 1, none⟩ = some (.slice none 0 0) := (blk_cell B11.out 1).trans rfl
  have hB11_f := fun j => blk_frozen B11.out j
  go_wp2_with fail
  clear hB5_0 hB5_1 hB5_f hB7_0 hB7_1 hB7_f hB9_0 hB9_1 hB9_f hB11_0 hB11_1 hB11_f
  refine (riffleref03_Same.calls 1000 AQ0 cQ0 q1 AQ1 cQ1 q2 none 0 [] none 0 [] true _ (OI.li Q0.out).2 (OI.li Q0.out).1 (OI.li Q1.out).2 (OI.li Q1.out).1 (LI.nil _).2 (Nat.le_refl 0) (LI.nil _).2 (Nat.le_refl 0) HP.out.2.2.2.2.2.1).mono ?_
  rintro e W11 ⟨rfl, HB⟩
  have n_P0 := Aside0.mk (OI.step P0.out HB)
  have n_P1 := Aside0.mk (OI.step P1.out HB)
  have n_Q0 := Aside0.mk (OI.step Q0.out HB)
  have n_Q1 := Aside0.mk (OI.step Q1.out HB)
  have n_B5 := Aside0.mk (blk_below B5.out HB)
  have n_B7 := Aside0.mk (blk_below B7.out HB)
  have n_B9 := Aside0.mk (blk_below B9.out HB)
  have n_BS := Aside0.mk (blk_below BS.out HB)
  have n_B11 := Aside0.mk (blk_below B11.out HB)
  have n_HT := Aside0.mk (below_step HT.out HB)
  clear P0
  have P0 := n_P0
  clear n_P0
  clear P1
  have P1 := n_P1
  clear n_P1
  clear Q0
  have Q0 := n_Q0
  clear n_Q0
  clear Q1
  have Q1 := n_Q1
  clear n_Q1
  clear B5
  have B5 := n_B5
  clear n_B5
  clear B7
  have B7 := n_B7
  clear n_B7
  clear B9
  have B9 := n_B9
  clear n_B9
  clear BS
  have BS := n_BS
  clear n_BS
  clear B11
  have B11 := n_B11
  clear n_B11
  clear HT
  have HT := n_HT
  clear n_HT
  clear HB
  go_wp2_with fail
  refine (cell_Zero.calls A c d z1 z2 _ (HC.out.at HT.out).2 (HC.out.at HT.out).1 HP.out.2.2.2.2.2.2.1).mono ?_
  rintro e W12 ⟨vS0, vS1, rfl, hS0, hS1, HB⟩
  have n_P0 := Aside0.mk (OI.step P0.out HB)
  have n_P1 := Aside0.mk (OI.step P1.out HB)
  have n_Q0 := Aside0.mk (OI.step Q0.out HB)
  have n_Q1 := Aside0.mk (OI.step Q1.out HB)
  have n_B5 := Aside0.mk (blk_below B5.out HB)
  have n_B7 := Aside0.mk (blk_below B7.out HB)
  have n_B9 := Aside0.mk (blk_below B9.out HB)
  have n_BS := Aside0.mk (blk_below BS.out HB)
  have n_B11 := Aside0.mk (blk_below B11.out HB)
  have n_HT := Aside0.mk (below_step HT.out HB)
  clear P0
  have P0 := n_P0
  clear n_P0
  clear P1
  have P1 := n_P1
  clear n_P1
  clear Q0
  have Q0 := n_Q0
  clear n_Q0
  clear Q1
  have Q1 := n_Q1
  clear n_Q1
  clear B5
  have B5 := n_B5
  clear n_B5
  clear B7
  have B7 := n_B7
  clear n_B7
  clear B9
  have B9 := n_B9
  clear n_B9
  clear BS
  have BS := n_BS
  clear n_BS
  clear B11
  have B11 := n_B11
  clear n_B11
  clear HT
  have HT := n_HT
  clear n_HT
  clear HB
  obtain ⟨AS0, cS0, rfl⟩ := Kd.R_slice hS0
  have S0 : Aside0 (OI 3 W12 AS0 cS0 z1) := Aside0.mk (OI.of hS0)
  clear hS0
  obtain ⟨AS1, cS1, rfl⟩ := Kd.R_slice hS1
  have S1 : Aside0 (OI 2 W12 AS1 cS1 z2) := Aside0.mk (OI.of hS1)
  clear hS1
  go_wp2_with fail
  refine (riffleref03_Zero.calls 1000 A c d z1 z2 _ (HC.out.at HT.out).2 (HC.out.at HT.out).1 HP.out.2.2.2.2.2.2.2.1).mono ?_
  rintro e W13 ⟨vT0, vT1, rfl, hT0, hT1, HB⟩
  have n_P0 := Aside0.mk (OI.step P0.out HB)
  have n_P1 := Aside0.mk (OI.step P1.out HB)
  have n_Q0 := Aside0.mk (OI.step Q0.out HB)
  have n_Q1 := Aside0.mk (OI.step Q1.out HB)
  have n_S0 := Aside0.mk (OI.step S0.out HB)
  have n_S1 := Aside0.mk (OI.step S1.out HB)
  have n_B5 := Aside0.mk (blk_below B5.out HB)
  have n_B7 := Aside0.mk (blk_below B7.out HB)
  have n_B9 := Aside0.mk (blk_below B9.out HB)
  have n_BS := Aside0.mk (blk_below BS.out HB)
  have n_B11 := Aside0.mk (blk_below B11.out HB)
  have n_HT := Aside0.mk (below_step HT.out HB)
  clear P0
  have P0 := n_P0
  clear n_P0
  clear P1
  have P1 := n_P1
  clear n_P1
  clear Q0
  have Q0 := n_Q0
  clear n_Q0
  clear Q1
  have Q1 := n_Q1
  clear n_Q1
  clear S0
  have S0 := n_S0
  clear n_S0
  clear S1
  have S1 := n_S1
  clear n_S1
  clear B5
  have B5 := n_B5
  clear n_B5
  clear B7
  have B7 := n_B7
  clear n_B7
  clear B9
  have B9 := n_B9
  clear n_B9
  clear BS
  have BS := n_BS
  clear n_BS
  clear B11
  have B11 := n_B11
  clear n_B11
  clear HT
  have HT := n_HT
  clear n_HT
  clear HB
  obtain ⟨AT0, cT0, rfl⟩ := Kd.R_slice hT0
  have T0 : Aside0 (OI 3 W13 AT0 cT0 z1) := Aside0.mk (OI.of hT0)
  clear hT0
  obtain ⟨AT1, cT1, rfl⟩ := Kd.R_slice hT1
  have T1 : Aside0 (OI 2 W13 AT1 cT1 z2) := Aside0.mk (OI.of hT1)
  clear hT1
  go_wp2_with fail
  refine (riffleref03_Same.calls 1000 AS0 cS0 z1 AS1 cS1 z2 AT0 cT0 z1 AT1 cT1 z2 true _ (OI.li S0.out).2 (OI.li S0.out).1 (OI.li S1.out).2 (OI.li S1.out).1 (OI.li T0.out).2 (OI.li T0.out).1 (OI.li T1.out).2 (OI.li T1.out).1 HP.out.2.2.2.2.2.2.2.2.1).mono ?_
  rintro e W14 ⟨rfl, HB⟩
  have n_P0 := Aside0.mk (OI.step P0.out HB)
  have n_P1 := Aside0.mk (OI.step P1.out HB)
  have n_Q0 := Aside0.mk (OI.step Q0.out HB)
  have n_Q1 := Aside0.mk (OI.step Q1.out HB)
  have n_S0 := Aside0.mk (OI.step S0.out HB)
  have n_S1 := Aside0.mk (OI.step S1.out HB)
  have n_T0 := Aside0.mk (OI.step T0.out HB)
  have n_T1 := Aside0.mk (OI.step T1.out HB)
  have n_B5 := Aside0.mk (blk_below B5.out HB)
  have n_B7 := Aside0.mk (blk_below B7.out HB)
  have n_B9 := Aside0.mk (blk_below B9.out HB)
  have n_BS := Aside0.mk (blk_below BS.out HB)
  have n_B11 := Aside0.mk (blk_below B11.out HB)
  have n_HT := Aside0.mk (below_step HT.out HB)
  clear P0
  have P0 := n_P0
  clear n_P0
  clear P1
  have P1 := n_P1
  clear n_P1
  clear Q0
  have Q0 := n_Q0
  clear n_Q0
  clear Q1
  have Q1 := n_Q1
  clear n_Q1
  clear S0
  have S0 := n_S0
  clear n_S0
  clear S1
  have S1 := n_S1
  clear n_S1
  clear T0
  have T0 := n_T0
  clear n_T0
  clear T1
  have T1 := n_T1
  clear n_T1
  clear B5
  have B5 := n_B5
  clear n_B5
  clear B7
  have B7 := n_B7
  clear n_B7
  clear B9
  have B9 := n_B9
  clear n_B9
  clear BS
  have BS := n_BS
  clear n_BS
  clear B11
  have B11 := n_B11
  clear n_B11
  clear HT
  have HT := n_HT
  clear n_HT
  clear HB
  go_wp2_with fail
  refine (cell_Scalar.calls (d.length : Int) y1 y2 _ HP.out.2.2.2.2.2.2.2.2.2.1).mono ?_
  rintro e W15 ⟨vU0, vU1, rfl, hU0, hU1, HB⟩
  have n_P0 := Aside0.mk (OI.step P0.out HB)
  have n_P1 := Aside0.mk (OI.step P1.out HB)
  have n_Q0 := Aside0.mk (OI.step Q0.out HB)
  have n_Q1 := Aside0.mk (OI.step Q1.out HB)
  have n_S0 := Aside0.mk (OI.step S0.out HB)
  have n_S1 := Aside0.mk (OI.step S1.out HB)
  have n_T0 := Aside0.mk (OI.step T0.out HB)
  have n_T1 := Aside0.mk (OI.step T1.out HB)
  have n_B5 := Aside0.mk (blk_below B5.out HB)
  have n_B7 := Aside0.mk (blk_below B7.out HB)
  have n_B9 := Aside0.mk (blk_below B9.out HB)
  have n_BS := Aside0.mk (blk_below BS.out HB)
  have n_B11 := Aside0.mk (blk_below B11.out HB)
  have n_HT := Aside0.mk (below_step HT.out HB)
  clear P0
  have P0 := n_P0
  clear n_P0
  clear P1
  have P1 := n_P1
  clear n_P1
  clear Q0
  have Q0 := n_Q0
  clear n_Q0
  clear Q1
  have Q1 := n_Q1
  clear n_Q1
  clear S0
  have S0 := n_S0
  clear n_S0
  clear S1
  have S1 := n_S1
  clear n_S1
  clear T0
  have T0 := n_T0
  clear n_T0
  clear T1
  have T1 := n_T1
  clear n_T1
  clear B5
  have B5 := n_B5
  clear n_B5
  clear B7
  have B7 := n_B7
  clear n_B7
  clear B9
  have B9 := n_B9
  clear n_B9
  clear BS
  have BS := n_BS
  clear n_BS
  clear B11
  have B11 := n_B11
  clear n_B11
  clear HT
  have HT := n_HT
  clear n_HT
  clear HB
  obtain ⟨AU0, cU0, rfl⟩ := Kd.R_slice hU0
  have U0 : Aside0 (OI 3 W15 AU0 cU0 y1) := Aside0.mk (OI.of hU0)
  clear hU0
  obtain ⟨AU1, cU1, rfl⟩ := Kd.R_slice hU1
  have U1 : Aside0 (OI 2 W15 AU1 cU1 y2) := Aside0.mk (OI.of hU1)
  clear hU1
  go_wp2_with fail
  refine (riffleref03_Scalar.calls (d.length : Int) y1 y2 _ HP.out.2.2.2.2.2.2.2.2.2.2.1).mono ?_
  rintro e W16 ⟨vY0, vY1, rfl, hY0, hY1, HB⟩
  have n_P0 := Aside0.mk (OI.step P0.out HB)
  have n_P1 := Aside0.mk (OI.step P1.out HB)
  have n_Q0 := Aside0.mk (OI.step Q0.out HB)
  have n_Q1 := Aside0.mk (OI.step Q1.out HB)
  have n_S0 := Aside0.mk (OI.step S0.out HB)
  have n_S1 := Aside0.mk (OI.step S1.out HB)
  have n_T0 := Aside0.mk (OI.step T0.out HB)
  have n_T1 := Aside0.mk (OI.step T1.out HB)
  have n_U0 := Aside0.mk (OI.step U0.out HB)
  have n_U1 := Aside0.mk (OI.step U1.out HB)
  have n_B5 := Aside0.mk (blk_below B5.out HB)
  have n_B7 := Aside0.mk (blk_below B7.out HB)
  have n_B9 := Aside0.mk (blk_below B9.out HB)
  have n_BS := Aside0.mk (blk_below BS.out HB)
  have n_B11 := Aside0.mk (blk_below B11.out HB)
  have n_HT := Aside0.mk (below_step HT.out HB)
  clear P0
  have P0 := n_P0
  clear n_P0
  clear P1
  have P1 := n_P1
  clear n_P1
  clear Q0
  have Q0 := n_Q0
  clear n_Q0
  clear Q1
  have Q1 := n_Q1
  clear n_Q1
  clear S0
  have S0 := n_S0
  clear n_S0
  clear S1
  have S1 := n_S1
  clear n_S1
  clear T0
  have T0 := n_T0
  clear n_T0
  clear T1
  have T1 := n_T1
  clear n_T1
  clear U0
  have U0 := n_U0
  clear n_U0
  clear U1
  have U1 := n_U1
  clear n_U1
  clear B5
  have B5 := n_B5
  clear n_B5
  clear B7
  have B7 := n_B7
  clear n_B7
  clear B9
  have B9 := n_B9
  clear n_B9
  clear BS
  have BS := n_BS
  clear n_BS
  clear B11
  have B11 := n_B11
  clear n_B11
  clear HT
  have HT := n_HT
  clear n_HT
  clear HB
  obtain ⟨AY0, cY0, rfl⟩ := Kd.R_slice hY0
  have Y0 : Aside0 (OI 3 W16 AY0 cY0 y1) := Aside0.mk (OI.of hY0)
  clear hY0
  obtain ⟨AY1, cY1, rfl⟩ := Kd.R_slice hY1
  have Y1 : Aside0 (OI 2 W16 AY1 cY1 y2) := Aside0.mk (OI.of hY1)
  clear hY1
  go_wp2_with fail
  refine (riffleref03_Same.calls 1000 AU0 cU0 y1 AU1 cU1 y2 AY0 cY0 y1 AY1 cY1 y2 true _ (OI.li U0.out).2 (OI.li U0.out).1 (OI.li U1.out).2 (OI.li U1.out).1 (OI.li Y0.out).2 (OI.li Y0.out).1 (OI.li Y1.out).2 (OI.li Y1.out).1 HP.out.2.2.2.2.2.2.2.2.2.2.2.1).mono ?_
  rintro e W17 ⟨rfl, HB⟩
  have n_P0 := Aside0.mk (OI.step P0.out HB)
  have n_P1 := Aside0.mk (OI.step P1.out HB)
  have n_Q0 := Aside0.mk (OI.step Q0.out HB)
  have n_Q1 := Aside0.mk (OI.step Q1.out HB)
  have n_S0 := Aside0.mk (OI.step S0.out HB)
  have n_S1 := Aside0.mk (OI.step S1.out HB)
  have n_T0 := Aside0.mk (OI.step T0.out HB)
  have n_T1 := Aside0.mk (OI.step T1.out HB)
  have n_U0 := Aside0.mk (OI.step U0.out HB)
  have n_U1 := Aside0.mk (OI.step U1.out HB)
  have n_Y0 := Aside0.mk (OI.step Y0.out HB)
  have n_Y1 := Aside0.mk (OI.step Y1.out HB)
  have n_B5 := Aside0.mk (blk_below B5.out HB)
  have n_B7 := Aside0.mk (blk_below B7.out HB)
  have n_B9 := Aside0.mk (blk_below B9.out HB)
  have n_BS := Aside0.mk (blk_below BS.out HB)
  have n_B11 := Aside0.mk (blk_below B11.out HB)
  have n_HT := Aside0.mk (below_step HT.out HB)
  clear P0
  have P0 := n_P0
  clear n_P0
  clear P1
  have P1 := n_P1
  clear n_P1
  clear Q0
  have Q0 := n_Q0
  clear n_Q0
  clear Q1
  have Q1 := n_Q1
  clear n_Q1
  clear S0
  have S0 := n_S0
  clear n_S0
  clear S1
  have S1 := n_S1
  clear n_S1
  clear T0
  have T0 := n_T0
  clear n_T0
  clear T1
  have T1 := n_T1
  clear n_T1
  clear U0
  have U0 := n_U0
  clear n_U0
  clear U1
  have U1 := n_U1
  clear n_U1
  clear Y0
  have Y0 := n_Y0
  clear n_Y0
  clear Y1
  have Y1 := n_Y1
  clear n_Y1
  clear B5
  have B5 := n_B5
  clear n_B5
  clear B7
  have B7 := n_B7
  clear n_B7
  clear B9
  have B9 := n_B9
  clear n_B9
  clear BS
  have BS := n_BS
  clear n_BS
  clear B11
  have B11 := n_B11
  clear n_B11
  clear HT
  have HT := n_HT
  clear n_HT
  clear HB
  go_wp2_with fail
  refine (rifflelaw03_lives.calls 1000 true _ HP.out.2.2.2.2.2.2.2.2.2.2.2.2).mono ?_
  rintro e W18 ⟨rfl, HB⟩
  have n_P0 := Aside0.mk (OI.step P0.out HB)
  have n_P1 := Aside0.mk (OI.step P1.out HB)
  have n_Q0 := Aside0.mk (OI.step Q0.out HB)
  have n_Q1 := Aside0.mk (OI.step Q1.out HB)
  have n_S0 := Aside0.mk (OI.step S0.out HB)
  have n_S1 := Aside0.mk (OI.step S1.out HB)
  have n_T0 := Aside0.mk (OI.step T0.out HB)
  have n_T1 := Aside0.mk (OI.step T1.out HB)
  have n_U0 := Aside0.mk (OI.step U0.out HB)
  have n_U1 := Aside0.mk (OI.step U1.out HB)
  have n_Y0 := Aside0.mk (OI.step Y0.out HB)
  have n_Y1 := Aside0.mk (OI.step Y1.out HB)
  have n_B5 := Aside0.mk (blk_below B5.out HB)
  have n_B7 := Aside0.mk (blk_below B7.out HB)
  have n_B9 := Aside0.mk (blk_below B9.out HB)
  have n_BS := Aside0.mk (blk_below BS.out HB)
  have n_B11 := Aside0.mk (blk_below B11.out HB)
  have n_HT := Aside0.mk (below_step HT.out HB)
  clear P0
  have P0 := n_P0
  clear n_P0
  clear P1
  have P1 := n_P1
  clear n_P1
  clear Q0
  have Q0 := n_Q0
  clear n_Q0
  clear Q1
  have Q1 := n_Q1
  clear n_Q1
  clear S0
  have S0 := n_S0
  clear n_S0
  clear S1
  have S1 := n_S1
  clear n_S1
  clear T0
  have T0 := n_T0
  clear n_T0
  clear T1
  have T1 := n_T1
  clear n_T1
  clear U0
  have U0 := n_U0
  clear n_U0
  clear U1
  have U1 := n_U1
  clear n_U1
  clear Y0
  have Y0 := n_Y0
  clear n_Y0
  clear Y1
  have Y1 := n_Y1
  clear n_Y1
  clear B5
  have B5 := n_B5
  clear n_B5
  clear B7
  have B7 := n_B7
  clear n_B7
  clear B9
  have B9 := n_B9
  clear n_B9
  clear BS
  have BS := n_BS
  clear n_BS
  clear B11
  have B11 := n_B11
  clear n_B11
  clear HT
  have HT := n_HT
  clear n_HT
  clear HB
  go_wp2
  go_ret
  exact ⟨rfl, HT.out⟩
theorem makes_r (w : World) (A : Option Addr) (c : Nat) (d : List Int) (B : Option Addr) (c' : Nat) (v : List Int) (HC : Aside0 (LI w A c d)) (HV : Aside0 (LI w B c' v)) (z : Int) (o1 o2 q1 q2 z1 z2 y1 y2 : List Int)
    (g1 : ¬ (10 < (d.length : Int))) (g2 : ¬ (200 < (v.length : Int))) (g3 : ¬ (64 < (v.length : Int))) (g4 : ((v.length : Int) == z) = false)
    (HP : Aside0 (riffleref01_Right.f 1000 d = some true ∧ riffleref01_Size.f 1000 d = some z ∧ cell_Of.f d v = some (o1, o2, 3) ∧ cell_List.f v = some (q1, q2, 0) ∧ riffleref03_Same.f 1000 o1 o2 [] [] = some true ∧ riffleref03_Same.f 1000 q1 q2 [(v.length : Int)] v = some true ∧ cell_Zero.f d = some (z1, z2) ∧ riffleref03_Zero.f 1000 d = some (z1, z2) ∧ riffleref03_Same.f 1000 z1 z2 z1 z2 = some true ∧ cell_Scalar.f (d.length : Int) = some (y1, y2) ∧ riffleref03_Scalar.f (d.length : Int) = some (y1, y2) ∧ riffleref03_Same.f 1000 y1 y2 y1 y2 = some true ∧ rifflelaw03_lives.f 1000 = some true)) :
    Calls Try.prog 7 #[.slice A d.length c, .slice B v.length c'] w fun e w' => e = .returned (.bool true) ∧ Below w.heap.size w w' := by
  go_enter Try.func7, Try.ntmps7
  go_upto_region 4 with (fail)
  generalize hX : World.alloc w (.cells #[.slice none 0 0, .slice none 0 0] 39 (0, 0)) = X1
  have n_HT : Aside0 (Below w.heap.size w X1) := Aside0.mk (by rw [← hX]; exact below_alloc (Below.refl _ _) _)
  have hs_X1 : X1.heap.size = w.heap.size + 1 := by rw [← hX]; simp
  replace hs_X1 := Aside0.mk hs_X1
  have n_B5 : Aside0 (X1.heap[w.heap.size]? = some (.cells #[.slice none 0 0, .slice none 0 0] 39 (0, 0))) := Aside0.mk (by rw [← hX]; exact blk_new _ _)
  have GB5 : Aside0 (w.heap.size ≤ w.heap.size) := Aside0.mk (Nat.le_refl _)
  have B5 := n_B5
  clear n_B5
  have HT := n_HT
  clear n_HT
  clear hX
  go_wp2_with fail
  refine (riffleref01_Right.calls 1000 A c d true _ (HC.out.at HT.out).2 (HC.out.at HT.out).1 HP.out.1).mono ?_
  rintro e W2 ⟨rfl, HB0⟩
  have HB := HB0.below
  clear HB0
  have n_B5 := Aside0.mk (blk_below B5.out HB)
  have n_HT := Aside0.mk (below_step HT.out HB)
  clear B5
  have B5 := n_B5
  clear n_B5
  clear HT
  have HT := n_HT
  clear n_HT
  clear HB
  go_wp2_with fail
  refine (riffleref01_Size.calls 1000 A c d z _ (HC.out.at HT.out).2 (HC.out.at HT.out).1 HP.out.2.1).mono ?_
  rintro e W3 ⟨rfl, HB0⟩
  have HB := HB0.below
  clear HB0
  have n_B5 := Aside0.mk (blk_below B5.out HB)
  have n_HT := Aside0.mk (below_step HT.out HB)
  clear B5
  have B5 := n_B5
  clear n_B5
  clear HT
  have HT := n_HT
  clear n_HT
  clear HB
  go_wp2_with fail
  refine (cell_Of.calls A c d B c' v o1 o2 3 _ (HC.out.at HT.out).2 (HC.out.at HT.out).1 (HV.out.at HT.out).2 (HV.out.at HT.out).1 HP.out.2.2.1).mono ?_
  rintro e W4 ⟨vP0, vP1, rfl, hP0, hP1, HB⟩
  have n_B5 := Aside0.mk (blk_below B5.out HB)
  have n_HT := Aside0.mk (below_step HT.out HB)
  clear B5
  have B5 := n_B5
  clear n_B5
  clear HT
  have HT := n_HT
  clear n_HT
  clear HB
  obtain ⟨AP0, cP0, rfl⟩ := Kd.R_slice hP0
  have P0 : Aside0 (OI 3 W4 AP0 cP0 o1) := Aside0.mk (OI.of hP0)
  clear hP0
  obtain ⟨AP1, cP1, rfl⟩ := Kd.R_slice hP1
  have P1 : Aside0 (OI 2 W4 AP1 cP1 o2) := Aside0.mk (OI.of hP1)
  clear hP1
  go_upto_region 9 with (fail)
  generalize hX : World.alloc W4 (.cells #[.slice AP0 o1.length cP0, .slice AP1 o2.length cP1] 39 (0, 0)) = X5
  have hs_X5 : X5.heap.size = W4.heap.size + 1 := by rw [← hX]; simp
  replace hs_X5 := Aside0.mk hs_X5
  have n_P0 : Aside0 (OI 3 X5 AP0 cP0 o1) := Aside0.mk (by rw [← hX]; exact OI.alloc P0.out _)
  have n_P1 : Aside0 (OI 2 X5 AP1 cP1 o2) := Aside0.mk (by rw [← hX]; exact OI.alloc P1.out _)
  have n_B5 : Aside0 (X5.heap[w.heap.size]? = some (.cells #[.slice none 0 0, .slice none 0 0] 39 (0, 0))) := Aside0.mk (by rw [← hX]; exact blk_alloc B5.out _)
  have n_HT : Aside0 (Below w.heap.size w X5) := Aside0.mk (by rw [← hX]; exact below_alloc HT.out _)
  have n_B7 : Aside0 (X5.heap[W4.heap.size]? = some (.cells #[.slice AP0 o1.length cP0, .slice AP1 o2.length cP1] 39 (0, 0))) := Aside0.mk (by rw [← hX]; exact blk_new _ _)
  have GB7 : Aside0 (w.heap.size ≤ W4.heap.size) := Aside0.mk (HT.out.size)
  have DB5_B7 : Aside0 (w.heap.size ≠ W4.heap.size) := Aside0.mk (Nat.ne_of_lt (blk_lt B5.out))
  clear P0
  clear P1
  clear B5
  clear HT
  have P0 := n_P0
  clear n_P0
  have P1 := n_P1
  clear n_P1
  have B5 := n_B5
  clear n_B5
  have B7 := n_B7
  clear n_B7
  have HT := n_HT
  clear n_HT
  clear hX
  go_wp2_with fail
  refine (cell_List.calls B c' v q1 q2 0 _ (HV.out.at HT.out).2 (HV.out.at HT.out).1 HP.out.2.2.2.1).mono ?_
  rintro e W6 ⟨vQ0, vQ1, rfl, hQ0, hQ1, HB⟩
  have n_P0 := Aside0.mk (OI.step P0.out HB)
  have n_P1 := Aside0.mk (OI.step P1.out HB)
  have n_B5 := Aside0.mk (blk_below B5.out HB)
  have n_B7 := Aside0.mk (blk_below B7.out HB)
  have n_HT := Aside0.mk (below_step HT.out HB)
  clear P0
  have P0 := n_P0
  clear n_P0
  clear P1
  have P1 := n_P1
  clear n_P1
  clear B5
  have B5 := n_B5
  clear n_B5
  clear B7
  have B7 := n_B7
  clear n_B7
  clear HT
  have HT := n_HT
  clear n_HT
  clear HB
  obtain ⟨AQ0, cQ0, rfl⟩ := Kd.R_slice hQ0
  have Q0 : Aside0 (OI 3 W6 AQ0 cQ0 q1) := Aside0.mk (OI.of hQ0)
  clear hQ0
  obtain ⟨AQ1, cQ1, rfl⟩ := Kd.R_slice hQ1
  have Q1 : Aside0 (OI 2 W6 AQ1 cQ1 q2) := Aside0.mk (OI.of hQ1)
  clear hQ1
  go_upto_region 10 with (fail)
  generalize hX : World.alloc W6 (.cells #[.slice AQ0 q1.length cQ0, .slice AQ1 q2.length cQ1] 39 (0, 0)) = X7
  have hs_X7 : X7.heap.size = W6.heap.size + 1 := by rw [← hX]; simp
  replace hs_X7 := Aside0.mk hs_X7
  have n_P0 : Aside0 (OI 3 X7 AP0 cP0 o1) := Aside0.mk (by rw [← hX]; exact OI.alloc P0.out _)
  have n_P1 : Aside0 (OI 2 X7 AP1 cP1 o2) := Aside0.mk (by rw [← hX]; exact OI.alloc P1.out _)
  have n_Q0 : Aside0 (OI 3 X7 AQ0 cQ0 q1) := Aside0.mk (by rw [← hX]; exact OI.alloc Q0.out _)
  have n_Q1 : Aside0 (OI 2 X7 AQ1 cQ1 q2) := Aside0.mk (by rw [← hX]; exact OI.alloc Q1.out _)
  have n_B5 : Aside0 (X7.heap[w.heap.size]? = some (.cells #[.slice none 0 0, .slice none 0 0] 39 (0, 0))) := Aside0.mk (by rw [← hX]; exact blk_alloc B5.out _)
  have n_B7 : Aside0 (X7.heap[W4.heap.size]? = some (.cells #[.slice AP0 o1.length cP0, .slice AP1 o2.length cP1] 39 (0, 0))) := Aside0.mk (by rw [← hX]; exact blk_alloc B7.out _)
  have n_HT : Aside0 (Below w.heap.size w X7) := Aside0.mk (by rw [← hX]; exact below_alloc HT.out _)
  have n_B9 : Aside0 (X7.heap[W6.heap.size]? = some (.cells #[.slice AQ0 q1.length cQ0, .slice AQ1 q2.length cQ1] 39 (0, 0))) := Aside0.mk (by rw [← hX]; exact blk_new _ _)
  have GB9 : Aside0 (w.heap.size ≤ W6.heap.size) := Aside0.mk (HT.out.size)
  have DB5_B9 : Aside0 (w.heap.size ≠ W6.heap.size) := Aside0.mk (Nat.ne_of_lt (blk_lt B5.out))
  have DB7_B9 : Aside0 (W4.heap.size ≠ W6.heap.size) := Aside0.mk (Nat.ne_of_lt (blk_lt B7.out))
  clear P0
  clear P1
  clear Q0
  clear Q1
  clear B5
  clear B7
  clear HT
  have P0 := n_P0
  clear n_P0
  have P1 := n_P1
  clear n_P1
  have Q0 := n_Q0
  clear n_Q0
  have Q1 := n_Q1
  clear n_Q1
  have B5 := n_B5
  clear n_B5
  have B7 := n_B7
  clear n_B7
  have B9 := n_B9
  clear n_B9
  have HT := n_HT
  clear n_HT
  clear hX
  go_upto_region 11 with (fail)
  generalize hX : World.alloc X7 (.cells #[.int .i64 (v.length : Int)] 3 (0, 0)) = X8
  have hs_X8 : X8.heap.size = X7.heap.size + 1 := by rw [← hX]; simp
  replace hs_X8 := Aside0.mk hs_X8
  have n_P0 : Aside0 (OI 3 X8 AP0 cP0 o1) := Aside0.mk (by rw [← hX]; exact OI.alloc P0.out _)
  have n_P1 : Aside0 (OI 2 X8 AP1 cP1 o2) := Aside0.mk (by rw [← hX]; exact OI.alloc P1.out _)
  have n_Q0 : Aside0 (OI 3 X8 AQ0 cQ0 q1) := Aside0.mk (by rw [← hX]; exact OI.alloc Q0.out _)
  have n_Q1 : Aside0 (OI 2 X8 AQ1 cQ1 q2) := Aside0.mk (by rw [← hX]; exact OI.alloc Q1.out _)
  have n_B5 : Aside0 (X8.heap[w.heap.size]? = some (.cells #[.slice none 0 0, .slice none 0 0] 39 (0, 0))) := Aside0.mk (by rw [← hX]; exact blk_alloc B5.out _)
  have n_B7 : Aside0 (X8.heap[W4.heap.size]? = some (.cells #[.slice AP0 o1.length cP0, .slice AP1 o2.length cP1] 39 (0, 0))) := Aside0.mk (by rw [← hX]; exact blk_alloc B7.out _)
  have n_B9 : Aside0 (X8.heap[W6.heap.size]? = some (.cells #[.slice AQ0 q1.length cQ0, .slice AQ1 q2.length cQ1] 39 (0, 0))) := Aside0.mk (by rw [← hX]; exact blk_alloc B9.out _)
  have n_HT : Aside0 (Below w.heap.size w X8) := Aside0.mk (by rw [← hX]; exact below_alloc HT.out _)
  have n_BS : Aside0 (X8.heap[X7.heap.size]? = some (.cells #[.int .i64 (v.length : Int)] 3 (0, 0))) := Aside0.mk (by rw [← hX]; exact blk_new _ _)
  have GBS : Aside0 (w.heap.size ≤ X7.heap.size) := Aside0.mk (HT.out.size)
  have DB5_BS : Aside0 (w.heap.size ≠ X7.heap.size) := Aside0.mk (Nat.ne_of_lt (blk_lt B5.out))
  have DB7_BS : Aside0 (W4.heap.size ≠ X7.heap.size) := Aside0.mk (Nat.ne_of_lt (blk_lt B7.out))
  have DB9_BS : Aside0 (W6.heap.size ≠ X7.heap.size) := Aside0.mk (Nat.ne_of_lt (blk_lt B9.out))
  clear P0
  clear P1
  clear Q0
  clear Q1
  clear B5
  clear B7
  clear B9
  clear HT
  have P0 := n_P0
  clear n_P0
  have P1 := n_P1
  clear n_P1
  have Q0 := n_Q0
  clear n_Q0
  have Q1 := n_Q1
  clear n_Q1
  have B5 := n_B5
  clear n_B5
  have B7 := n_B7
  clear n_B7
  have B9 := n_B9
  clear n_B9
  have BS := n_BS
  clear n_BS
  have HT := n_HT
  clear n_HT
  clear hX
  generalize hX : World.alloc X8 (.cells #[.slice (some ⟨X7.heap.size, 0, none⟩) 1 1, .slice B v.length c'] 39 (0, 0)) = X9
  have hs_X9 : X9.heap.size = X8.heap.size + 1 := by rw [← hX]; simp
  replace hs_X9 := Aside0.mk hs_X9
  have ge_ : X8.heap.size = X7.heap.size + 1 := hs_X8.out
  have n_P0 : Aside0 (OI 3 X9 AP0 cP0 o1) := Aside0.mk (by rw [← hX]; exact OI.alloc P0.out _)
  have n_P1 : Aside0 (OI 2 X9 AP1 cP1 o2) := Aside0.mk (by rw [← hX]; exact OI.alloc P1.out _)
  have n_Q0 : Aside0 (OI 3 X9 AQ0 cQ0 q1) := Aside0.mk (by rw [← hX]; exact OI.alloc Q0.out _)
  have n_Q1 : Aside0 (OI 2 X9 AQ1 cQ1 q2) := Aside0.mk (by rw [← hX]; exact OI.alloc Q1.out _)
  have n_B5 : Aside0 (X9.heap[w.heap.size]? = some (.cells #[.slice none 0 0, .slice none 0 0] 39 (0, 0))) := Aside0.mk (by rw [← hX]; exact blk_alloc B5.out _)
  have n_B7 : Aside0 (X9.heap[W4.heap.size]? = some (.cells #[.slice AP0 o1.length cP0, .slice AP1 o2.length cP1] 39 (0, 0))) := Aside0.mk (by rw [← hX]; exact blk_alloc B7.out _)
  have n_B9 : Aside0 (X9.heap[W6.heap.size]? = some (.cells #[.slice AQ0 q1.length cQ0, .slice AQ1 q2.length cQ1] 39 (0, 0))) := Aside0.mk (by rw [← hX]; exact blk_alloc B9.out _)
  have n_BS : Aside0 (X9.heap[X7.heap.size]? = some (.cells #[.int .i64 (v.length : Int)] 3 (0, 0))) := Aside0.mk (by rw [← hX]; exact blk_alloc BS.out _)
  have n_HT : Aside0 (Below w.heap.size w X9) := Aside0.mk (by rw [← hX]; exact below_alloc HT.out _)
  have n_B11 : Aside0 (X9.heap[X7.heap.size + 1]? = some (.cells #[.slice (some ⟨X7.heap.size, 0, none⟩) 1 1, .slice B v.length c'] 39 (0, 0))) := Aside0.mk (by rw [← hX, ← ge_]; exact blk_new _ _)
  have GB11 : Aside0 (w.heap.size ≤ X7.heap.size + 1) := Aside0.mk (by rw [← ge_]; exact HT.out.size)
  have DB5_B11 : Aside0 (w.heap.size ≠ X7.heap.size + 1) := Aside0.mk (by rw [← ge_]; exact Nat.ne_of_lt (blk_lt B5.out))
  have DB7_B11 : Aside0 (W4.heap.size ≠ X7.heap.size + 1) := Aside0.mk (by rw [← ge_]; exact Nat.ne_of_lt (blk_lt B7.out))
  have DB9_B11 : Aside0 (W6.heap.size ≠ X7.heap.size + 1) := Aside0.mk (by rw [← ge_]; exact Nat.ne_of_lt (blk_lt B9.out))
  have DBS_B11 : Aside0 (X7.heap.size ≠ X7.heap.size + 1) := Aside0.mk (by rw [← ge_]; exact Nat.ne_of_lt (blk_lt BS.out))
  clear P0
  clear P1
  clear Q0
  clear Q1
  clear B5
  clear B7
  clear B9
  clear BS
  clear HT
  clear ge_
  have P0 := n_P0
  clear n_P0
  have P1 := n_P1
  clear n_P1
  have Q0 := n_Q0
  clear n_Q0
  have Q1 := n_Q1
  clear n_Q1
  have B5 := n_B5
  clear n_B5
  have B7 := n_B7
  clear n_B7
  have B9 := n_B9
  clear n_B9
  have BS := n_BS
  clear n_BS
  have B11 := n_B11
  clear n_B11
  have HT := n_HT
  clear n_HT
  clear hX
  have hB5_0 : X9.cell? ⟨w.heap.size, 0, none⟩ = some (.slice none 0 0) := (blk_cell B5.out 0).trans rfl
  have hB5_1 : X9.cell? ⟨w.heap.size, 1, none⟩ = some (.slice none 0 0) := (blk_cell B5.out 1).trans rfl
  have hB5_f := fun j => blk_frozen B5.out j
  have hB7_0 : X9.cell? ⟨W4.heap.size, 0, none⟩ = some (.slice AP0 o1.length cP0) := (blk_cell B7.out 0).trans rfl
  have hB7_1 : X9.cell? ⟨W4.heap.size, 1, none⟩ = some (.slice AP1 o2.length cP1) := (blk_cell B7.out 1).trans rfl
  have hB7_f := fun j => blk_frozen B7.out j
  have hB9_0 : X9.cell? ⟨W6.heap.size, 0, none⟩ = some (.slice AQ0 q1.length cQ0) := (blk_cell B9.out 0).trans rfl
  have hB9_1 : X9.cell? ⟨W6.heap.size, 1, none⟩ = some (.slice AQ1 q2.length cQ1) := (blk_cell B9.out 1).trans rfl
  have hB9_f := fun j => blk_frozen B9.out j
  have hB11_0 : X9.cell? ⟨X7.heap.size + 1, 0, none⟩ = some (.slice (some ⟨X7.heap.size, 0, none⟩) 1 1) := (blk_cell B11.out 0).trans rfl
  have hB11_1 : X9.cell? ⟨X7.heap.size + 1, 1, none⟩ = some (.slice B v.length c') := (blk_cell B11.out 1).trans rfl
  have hB11_f := fun j => blk_frozen B11.out j
  go_wp2_with fail
  clear hB5_0 hB5_1 hB5_f hB7_0 hB7_1 hB7_f hB9_0 hB9_1 hB9_f hB11_0 hB11_1 hB11_f
  refine (riffleref03_Same.calls 1000 AP0 cP0 o1 AP1 cP1 o2 none 0 [] none 0 [] true _ (OI.li P0.out).2 (OI.li P0.out).1 (OI.li P1.out).2 (OI.li P1.out).1 (LI.nil _).2 (Nat.le_refl 0) (LI.nil _).2 (Nat.le_refl 0) HP.out.2.2.2.2.1).mono ?_
  rintro e W10 ⟨rfl, HB⟩
  have n_P0 := Aside0.mk (OI.step P0.out HB)
  have n_P1 := Aside0.mk (OI.step P1.out HB)
  have n_Q0 := Aside0.mk (OI.step Q0.out HB)
  have n_Q1 := Aside0.mk (OI.step Q1.out HB)
  have n_B5 := Aside0.mk (blk_below B5.out HB)
  have n_B7 := Aside0.mk (blk_below B7.out HB)
  have n_B9 := Aside0.mk (blk_below B9.out HB)
  have n_BS := Aside0.mk (blk_below BS.out HB)
  have n_B11 := Aside0.mk (blk_below B11.out HB)
  have n_HT := Aside0.mk (below_step HT.out HB)
  clear P0
  have P0 := n_P0
  clear n_P0
  clear P1
  have P1 := n_P1
  clear n_P1
  clear Q0
  have Q0 := n_Q0
  clear n_Q0
  clear Q1
  have Q1 := n_Q1
  clear n_Q1
  clear B5
  have B5 := n_B5
  clear n_B5
  clear B7
  have B7 := n_B7
  clear n_B7
  clear B9
  have B9 := n_B9
  clear n_B9
  clear BS
  have BS := n_BS
  clear n_BS
  clear B11
  have B11 := n_B11
  clear n_B11
  clear HT
  have HT := n_HT
  clear n_HT
  clear HB
  have hB5_0 : W10.cell? ⟨w.heap.size, 0, none⟩ = some (.slice none 0 0) := (blk_cell B5.out 0).trans rfl
  have hB5_1 : W10.cell? ⟨w.heap.size, 1, none⟩ = some (.slice none 0 0) := (blk_cell B5.out 1).trans rfl
  have hB5_f := fun j => blk_frozen B5.out j
  have hB7_0 : W10.cell? ⟨W4.heap.size, 0, none⟩ = some (.slice AP0 o1.length cP0) := (blk_cell B7.out 0).trans rfl
  have hB7_1 : W10.cell? ⟨W4.heap.size, 1, none⟩ = some (.slice AP1 o2.length cP1) := (blk_cell B7.out 1).trans rfl
  have hB7_f := fun j => blk_frozen B7.out j
  have hB9_0 : W10.cell? ⟨W6.heap.size, 0, none⟩ = some (.slice AQ0 q1.length cQ0) := (blk_cell B9.out 0).trans rfl
  have hB9_1 : W10.cell? ⟨W6.heap.size, 1, none⟩ = some (.slice AQ1 q2.length cQ1) := (blk_cell B9.out 1).trans rfl
  have hB9_f := fun j => blk_frozen B9.out j
  have hB11_0 : W10.cell? ⟨X7.heap.size + 1, 0, none⟩ = some (.slice (some ⟨X7.heap.size, 0, none⟩) 1 1) := (blk_cell B11.out 0).trans rfl
  have hB11_1 : W10.cell? ⟨X7.heap.size + 1, 1, none⟩ = some (.slice B v.length c') := (blk_cell B11.out 1).trans rfl
  have hB11_f := fun j => blk_frozen B11.out j
  go_wp2_with fail
  clear hB5_0 hB5_1 hB5_f hB7_0 hB7_1 hB7_f hB9_0 hB9_1 hB9_f hB11_0 hB11_1 hB11_f
  refine (riffleref03_Same.calls 1000 AQ0 cQ0 q1 AQ1 cQ1 q2 (some ⟨X7.heap.size, 0, none⟩) 1 [(v.length : Int)] B c' v true _ (OI.li Q0.out).2 (OI.li Q0.out).1 (OI.li Q1.out).2 (OI.li Q1.out).1 (LI.one BS.out).2 (LI.one BS.out).1 (HV.out.at HT.out).2 (HV.out.at HT.out).1 HP.out.2.2.2.2.2.1).mono ?_
  rintro e W11 ⟨rfl, HB⟩
  have n_P0 := Aside0.mk (OI.step P0.out HB)
  have n_P1 := Aside0.mk (OI.step P1.out HB)
  have n_Q0 := Aside0.mk (OI.step Q0.out HB)
  have n_Q1 := Aside0.mk (OI.step Q1.out HB)
  have n_B5 := Aside0.mk (blk_below B5.out HB)
  have n_B7 := Aside0.mk (blk_below B7.out HB)
  have n_B9 := Aside0.mk (blk_below B9.out HB)
  have n_BS := Aside0.mk (blk_below BS.out HB)
  have n_B11 := Aside0.mk (blk_below B11.out HB)
  have n_HT := Aside0.mk (below_step HT.out HB)
  clear P0
  have P0 := n_P0
  clear n_P0
  clear P1
  have P1 := n_P1
  clear n_P1
  clear Q0
  have Q0 := n_Q0
  clear n_Q0
  clear Q1
  have Q1 := n_Q1
  clear n_Q1
  clear B5
  have B5 := n_B5
  clear n_B5
  clear B7
  have B7 := n_B7
  clear n_B7
  clear B9
  have B9 := n_B9
  clear n_B9
  clear BS
  have BS := n_BS
  clear n_BS
  clear B11
  have B11 := n_B11
  clear n_B11
  clear HT
  have HT := n_HT
  clear n_HT
  clear HB
  go_wp2_with fail
  refine (cell_Zero.calls A c d z1 z2 _ (HC.out.at HT.out).2 (HC.out.at HT.out).1 HP.out.2.2.2.2.2.2.1).mono ?_
  rintro e W12 ⟨vS0, vS1, rfl, hS0, hS1, HB⟩
  have n_P0 := Aside0.mk (OI.step P0.out HB)
  have n_P1 := Aside0.mk (OI.step P1.out HB)
  have n_Q0 := Aside0.mk (OI.step Q0.out HB)
  have n_Q1 := Aside0.mk (OI.step Q1.out HB)
  have n_B5 := Aside0.mk (blk_below B5.out HB)
  have n_B7 := Aside0.mk (blk_below B7.out HB)
  have n_B9 := Aside0.mk (blk_below B9.out HB)
  have n_BS := Aside0.mk (blk_below BS.out HB)
  have n_B11 := Aside0.mk (blk_below B11.out HB)
  have n_HT := Aside0.mk (below_step HT.out HB)
  clear P0
  have P0 := n_P0
  clear n_P0
  clear P1
  have P1 := n_P1
  clear n_P1
  clear Q0
  have Q0 := n_Q0
  clear n_Q0
  clear Q1
  have Q1 := n_Q1
  clear n_Q1
  clear B5
  have B5 := n_B5
  clear n_B5
  clear B7
  have B7 := n_B7
  clear n_B7
  clear B9
  have B9 := n_B9
  clear n_B9
  clear BS
  have BS := n_BS
  clear n_BS
  clear B11
  have B11 := n_B11
  clear n_B11
  clear HT
  have HT := n_HT
  clear n_HT
  clear HB
  obtain ⟨AS0, cS0, rfl⟩ := Kd.R_slice hS0
  have S0 : Aside0 (OI 3 W12 AS0 cS0 z1) := Aside0.mk (OI.of hS0)
  clear hS0
  obtain ⟨AS1, cS1, rfl⟩ := Kd.R_slice hS1
  have S1 : Aside0 (OI 2 W12 AS1 cS1 z2) := Aside0.mk (OI.of hS1)
  clear hS1
  go_wp2_with fail
  refine (riffleref03_Zero.calls 1000 A c d z1 z2 _ (HC.out.at HT.out).2 (HC.out.at HT.out).1 HP.out.2.2.2.2.2.2.2.1).mono ?_
  rintro e W13 ⟨vT0, vT1, rfl, hT0, hT1, HB⟩
  have n_P0 := Aside0.mk (OI.step P0.out HB)
  have n_P1 := Aside0.mk (OI.step P1.out HB)
  have n_Q0 := Aside0.mk (OI.step Q0.out HB)
  have n_Q1 := Aside0.mk (OI.step Q1.out HB)
  have n_S0 := Aside0.mk (OI.step S0.out HB)
  have n_S1 := Aside0.mk (OI.step S1.out HB)
  have n_B5 := Aside0.mk (blk_below B5.out HB)
  have n_B7 := Aside0.mk (blk_below B7.out HB)
  have n_B9 := Aside0.mk (blk_below B9.out HB)
  have n_BS := Aside0.mk (blk_below BS.out HB)
  have n_B11 := Aside0.mk (blk_below B11.out HB)
  have n_HT := Aside0.mk (below_step HT.out HB)
  clear P0
  have P0 := n_P0
  clear n_P0
  clear P1
  have P1 := n_P1
  clear n_P1
  clear Q0
  have Q0 := n_Q0
  clear n_Q0
  clear Q1
  have Q1 := n_Q1
  clear n_Q1
  clear S0
  have S0 := n_S0
  clear n_S0
  clear S1
  have S1 := n_S1
  clear n_S1
  clear B5
  have B5 := n_B5
  clear n_B5
  clear B7
  have B7 := n_B7
  clear n_B7
  clear B9
  have B9 := n_B9
  clear n_B9
  clear BS
  have BS := n_BS
  clear n_BS
  clear B11
  have B11 := n_B11
  clear n_B11
  clear HT
  have HT := n_HT
  clear n_HT
  clear HB
  obtain ⟨AT0, cT0, rfl⟩ := Kd.R_slice hT0
  have T0 : Aside0 (OI 3 W13 AT0 cT0 z1) := Aside0.mk (OI.of hT0)
  clear hT0
  obtain ⟨AT1, cT1, rfl⟩ := Kd.R_slice hT1
  have T1 : Aside0 (OI 2 W13 AT1 cT1 z2) := Aside0.mk (OI.of hT1)
  clear hT1
  go_wp2_with fail
  refine (riffleref03_Same.calls 1000 AS0 cS0 z1 AS1 cS1 z2 AT0 cT0 z1 AT1 cT1 z2 true _ (OI.li S0.out).2 (OI.li S0.out).1 (OI.li S1.out).2 (OI.li S1.out).1 (OI.li T0.out).2 (OI.li T0.out).1 (OI.li T1.out).2 (OI.li T1.out).1 HP.out.2.2.2.2.2.2.2.2.1).mono ?_
  rintro e W14 ⟨rfl, HB⟩
  have n_P0 := Aside0.mk (OI.step P0.out HB)
  have n_P1 := Aside0.mk (OI.step P1.out HB)
  have n_Q0 := Aside0.mk (OI.step Q0.out HB)
  have n_Q1 := Aside0.mk (OI.step Q1.out HB)
  have n_S0 := Aside0.mk (OI.step S0.out HB)
  have n_S1 := Aside0.mk (OI.step S1.out HB)
  have n_T0 := Aside0.mk (OI.step T0.out HB)
  have n_T1 := Aside0.mk (OI.step T1.out HB)
  have n_B5 := Aside0.mk (blk_below B5.out HB)
  have n_B7 := Aside0.mk (blk_below B7.out HB)
  have n_B9 := Aside0.mk (blk_below B9.out HB)
  have n_BS := Aside0.mk (blk_below BS.out HB)
  have n_B11 := Aside0.mk (blk_below B11.out HB)
  have n_HT := Aside0.mk (below_step HT.out HB)
  clear P0
  have P0 := n_P0
  clear n_P0
  clear P1
  have P1 := n_P1
  clear n_P1
  clear Q0
  have Q0 := n_Q0
  clear n_Q0
  clear Q1
  have Q1 := n_Q1
  clear n_Q1
  clear S0
  have S0 := n_S0
  clear n_S0
  clear S1
  have S1 := n_S1
  clear n_S1
  clear T0
  have T0 := n_T0
  clear n_T0
  clear T1
  have T1 := n_T1
  clear n_T1
  clear B5
  have B5 := n_B5
  clear n_B5
  clear B7
  have B7 := n_B7
  clear n_B7
  clear B9
  have B9 := n_B9
  clear n_B9
  clear BS
  have BS := n_BS
  clear n_BS
  clear B11
  have B11 := n_B11
  clear n_B11
  clear HT
  have HT := n_HT
  clear n_HT
  clear HB
  go_wp2_with fail
  refine (cell_Scalar.calls (d.length : Int) y1 y2 _ HP.out.2.2.2.2.2.2.2.2.2.1).mono ?_
  rintro e W15 ⟨vU0, vU1, rfl, hU0, hU1, HB⟩
  have n_P0 := Aside0.mk (OI.step P0.out HB)
  have n_P1 := Aside0.mk (OI.step P1.out HB)
  have n_Q0 := Aside0.mk (OI.step Q0.out HB)
  have n_Q1 := Aside0.mk (OI.step Q1.out HB)
  have n_S0 := Aside0.mk (OI.step S0.out HB)
  have n_S1 := Aside0.mk (OI.step S1.out HB)
  have n_T0 := Aside0.mk (OI.step T0.out HB)
  have n_T1 := Aside0.mk (OI.step T1.out HB)
  have n_B5 := Aside0.mk (blk_below B5.out HB)
  have n_B7 := Aside0.mk (blk_below B7.out HB)
  have n_B9 := Aside0.mk (blk_below B9.out HB)
  have n_BS := Aside0.mk (blk_below BS.out HB)
  have n_B11 := Aside0.mk (blk_below B11.out HB)
  have n_HT := Aside0.mk (below_step HT.out HB)
  clear P0
  have P0 := n_P0
  clear n_P0
  clear P1
  have P1 := n_P1
  clear n_P1
  clear Q0
  have Q0 := n_Q0
  clear n_Q0
  clear Q1
  have Q1 := n_Q1
  clear n_Q1
  clear S0
  have S0 := n_S0
  clear n_S0
  clear S1
  have S1 := n_S1
  clear n_S1
  clear T0
  have T0 := n_T0
  clear n_T0
  clear T1
  have T1 := n_T1
  clear n_T1
  clear B5
  have B5 := n_B5
  clear n_B5
  clear B7
  have B7 := n_B7
  clear n_B7
  clear B9
  have B9 := n_B9
  clear n_B9
  clear BS
  have BS := n_BS
  clear n_BS
  clear B11
  have B11 := n_B11
  clear n_B11
  clear HT
  have HT := n_HT
  clear n_HT
  clear HB
  obtain ⟨AU0, cU0, rfl⟩ := Kd.R_slice hU0
  have U0 : Aside0 (OI 3 W15 AU0 cU0 y1) := Aside0.mk (OI.of hU0)
  clear hU0
  obtain ⟨AU1, cU1, rfl⟩ := Kd.R_slice hU1
  have U1 : Aside0 (OI 2 W15 AU1 cU1 y2) := Aside0.mk (OI.of hU1)
  clear hU1
  go_wp2_with fail
  refine (riffleref03_Scalar.calls (d.length : Int) y1 y2 _ HP.out.2.2.2.2.2.2.2.2.2.2.1).mono ?_
  rintro e W16 ⟨vY0, vY1, rfl, hY0, hY1, HB⟩
  have n_P0 := Aside0.mk (OI.step P0.out HB)
  have n_P1 := Aside0.mk (OI.step P1.out HB)
  have n_Q0 := Aside0.mk (OI.step Q0.out HB)
  have n_Q1 := Aside0.mk (OI.step Q1.out HB)
  have n_S0 := Aside0.mk (OI.step S0.out HB)
  have n_S1 := Aside0.mk (OI.step S1.out HB)
  have n_T0 := Aside0.mk (OI.step T0.out HB)
  have n_T1 := Aside0.mk (OI.step T1.out HB)
  have n_U0 := Aside0.mk (OI.step U0.out HB)
  have n_U1 := Aside0.mk (OI.step U1.out HB)
  have n_B5 := Aside0.mk (blk_below B5.out HB)
  have n_B7 := Aside0.mk (blk_below B7.out HB)
  have n_B9 := Aside0.mk (blk_below B9.out HB)
  have n_BS := Aside0.mk (blk_below BS.out HB)
  have n_B11 := Aside0.mk (blk_below B11.out HB)
  have n_HT := Aside0.mk (below_step HT.out HB)
  clear P0
  have P0 := n_P0
  clear n_P0
  clear P1
  have P1 := n_P1
  clear n_P1
  clear Q0
  have Q0 := n_Q0
  clear n_Q0
  clear Q1
  have Q1 := n_Q1
  clear n_Q1
  clear S0
  have S0 := n_S0
  clear n_S0
  clear S1
  have S1 := n_S1
  clear n_S1
  clear T0
  have T0 := n_T0
  clear n_T0
  clear T1
  have T1 := n_T1
  clear n_T1
  clear U0
  have U0 := n_U0
  clear n_U0
  clear U1
  have U1 := n_U1
  clear n_U1
  clear B5
  have B5 := n_B5
  clear n_B5
  clear B7
  have B7 := n_B7
  clear n_B7
  clear B9
  have B9 := n_B9
  clear n_B9
  clear BS
  have BS := n_BS
  clear n_BS
  clear B11
  have B11 := n_B11
  clear n_B11
  clear HT
  have HT := n_HT
  clear n_HT
  clear HB
  obtain ⟨AY0, cY0, rfl⟩ := Kd.R_slice hY0
  have Y0 : Aside0 (OI 3 W16 AY0 cY0 y1) := Aside0.mk (OI.of hY0)
  clear hY0
  obtain ⟨AY1, cY1, rfl⟩ := Kd.R_slice hY1
  have Y1 : Aside0 (OI 2 W16 AY1 cY1 y2) := Aside0.mk (OI.of hY1)
  clear hY1
  go_wp2_with fail
  refine (riffleref03_Same.calls 1000 AU0 cU0 y1 AU1 cU1 y2 AY0 cY0 y1 AY1 cY1 y2 true _ (OI.li U0.out).2 (OI.li U0.out).1 (OI.li U1.out).2 (OI.li U1.out).1 (OI.li Y0.out).2 (OI.li Y0.out).1 (OI.li Y1.out).2 (OI.li Y1.out).1 HP.out.2.2.2.2.2.2.2.2.2.2.2.1).mono ?_
  rintro e W17 ⟨rfl, HB⟩
  have n_P0 := Aside0.mk (OI.step P0.out HB)
  have n_P1 := Aside0.mk (OI.step P1.out HB)
  have n_Q0 := Aside0.mk (OI.step Q0.out HB)
  have n_Q1 := Aside0.mk (OI.step Q1.out HB)
  have n_S0 := Aside0.mk (OI.step S0.out HB)
  have n_S1 := Aside0.mk (OI.step S1.out HB)
  have n_T0 := Aside0.mk (OI.step T0.out HB)
  have n_T1 := Aside0.mk (OI.step T1.out HB)
  have n_U0 := Aside0.mk (OI.step U0.out HB)
  have n_U1 := Aside0.mk (OI.step U1.out HB)
  have n_Y0 := Aside0.mk (OI.step Y0.out HB)
  have n_Y1 := Aside0.mk (OI.step Y1.out HB)
  have n_B5 := Aside0.mk (blk_below B5.out HB)
  have n_B7 := Aside0.mk (blk_below B7.out HB)
  have n_B9 := Aside0.mk (blk_below B9.out HB)
  have n_BS := Aside0.mk (blk_below BS.out HB)
  have n_B11 := Aside0.mk (blk_below B11.out HB)
  have n_HT := Aside0.mk (below_step HT.out HB)
  clear P0
  have P0 := n_P0
  clear n_P0
  clear P1
  have P1 := n_P1
  clear n_P1
  clear Q0
  have Q0 := n_Q0
  clear n_Q0
  clear Q1
  have Q1 := n_Q1
  clear n_Q1
  clear S0
  have S0 := n_S0
  clear n_S0
  clear S1
  have S1 := n_S1
  clear n_S1
  clear T0
  have T0 := n_T0
  clear n_T0
  clear T1
  have T1 := n_T1
  clear n_T1
  clear U0
  have U0 := n_U0
  clear n_U0
  clear U1
  have U1 := n_U1
  clear n_U1
  clear Y0
  have Y0 := n_Y0
  clear n_Y0
  clear Y1
  have Y1 := n_Y1
  clear n_Y1
  clear B5
  have B5 := n_B5
  clear n_B5
  clear B7
  have B7 := n_B7
  clear n_B7
  clear B9
  have B9 := n_B9
  clear n_B9
  clear BS
  have BS := n_BS
  clear n_BS
  clear B11
  have B11 := n_B11
  clear n_B11
  clear HT
  have HT := n_HT
  clear n_HT
  clear HB
  go_wp2_with fail
  refine (rifflelaw03_lives.calls 1000 true _ HP.out.2.2.2.2.2.2.2.2.2.2.2.2).mono ?_
  rintro e W18 ⟨rfl, HB⟩
  have n_P0 := Aside0.mk (OI.step P0.out HB)
  have n_P1 := Aside0.mk (OI.step P1.out HB)
  have n_Q0 := Aside0.mk (OI.step Q0.out HB)
  have n_Q1 := Aside0.mk (OI.step Q1.out HB)
  have n_S0 := Aside0.mk (OI.step S0.out HB)
  have n_S1 := Aside0.mk (OI.step S1.out HB)
  have n_T0 := Aside0.mk (OI.step T0.out HB)
  have n_T1 := Aside0.mk (OI.step T1.out HB)
  have n_U0 := Aside0.mk (OI.step U0.out HB)
  have n_U1 := Aside0.mk (OI.step U1.out HB)
  have n_Y0 := Aside0.mk (OI.step Y0.out HB)
  have n_Y1 := Aside0.mk (OI.step Y1.out HB)
  have n_B5 := Aside0.mk (blk_below B5.out HB)
  have n_B7 := Aside0.mk (blk_below B7.out HB)
  have n_B9 := Aside0.mk (blk_below B9.out HB)
  have n_BS := Aside0.mk (blk_below BS.out HB)
  have n_B11 := Aside0.mk (blk_below B11.out HB)
  have n_HT := Aside0.mk (below_step HT.out HB)
  clear P0
  have P0 := n_P0
  clear n_P0
  clear P1
  have P1 := n_P1
  clear n_P1
  clear Q0
  have Q0 := n_Q0
  clear n_Q0
  clear Q1
  have Q1 := n_Q1
  clear n_Q1
  clear S0
  have S0 := n_S0
  clear n_S0
  clear S1
  have S1 := n_S1
  clear n_S1
  clear T0
  have T0 := n_T0
  clear n_T0
  clear T1
  have T1 := n_T1
  clear n_T1
  clear U0
  have U0 := n_U0
  clear n_U0
  clear U1
  have U1 := n_U1
  clear n_U1
  clear Y0
  have Y0 := n_Y0
  clear n_Y0
  clear Y1
  have Y1 := n_Y1
  clear n_Y1
  clear B5
  have B5 := n_B5
  clear n_B5
  clear B7
  have B7 := n_B7
  clear n_B7
  clear B9
  have B9 := n_B9
  clear n_B9
  clear BS
  have BS := n_BS
  clear n_BS
  clear B11
  have B11 := n_B11
  clear n_B11
  clear HT
  have HT := n_HT
  clear n_HT
  clear HB
  go_wp2
  go_ret
  exact ⟨rfl, HT.out⟩
theorem makes_rb (w : World) (A : Option Addr) (c : Nat) (d : List Int) (B : Option Addr) (c' : Nat) (v : List Int) (HC : Aside0 (LI w A c d)) (HV : Aside0 (LI w B c' v)) (z : Int) (o1 o2 q1 q2 z1 z2 y1 y2 : List Int)
    (g1 : ¬ (10 < (d.length : Int))) (g2 : ¬ (200 < (v.length : Int))) (g3 : 64 < (v.length : Int)) (g4 : ((v.length : Int) == z) = false)
    (HP : Aside0 (riffleref01_Right.f 1000 d = some true ∧ riffleref01_Size.f 1000 d = some z ∧ cell_Of.f d v = some (o1, o2, 3) ∧ cell_List.f v = some (q1, q2, 4) ∧ riffleref03_Same.f 1000 o1 o2 [] [] = some true ∧ riffleref03_Same.f 1000 q1 q2 [] [] = some true ∧ cell_Zero.f d = some (z1, z2) ∧ riffleref03_Zero.f 1000 d = some (z1, z2) ∧ riffleref03_Same.f 1000 z1 z2 z1 z2 = some true ∧ cell_Scalar.f (d.length : Int) = some (y1, y2) ∧ riffleref03_Scalar.f (d.length : Int) = some (y1, y2) ∧ riffleref03_Same.f 1000 y1 y2 y1 y2 = some true ∧ rifflelaw03_lives.f 1000 = some true)) :
    Calls Try.prog 7 #[.slice A d.length c, .slice B v.length c'] w fun e w' => e = .returned (.bool true) ∧ Below w.heap.size w w' := by
  go_enter Try.func7, Try.ntmps7
  go_upto_region 4 with (fail)
  generalize hX : World.alloc w (.cells #[.slice none 0 0, .slice none 0 0] 39 (0, 0)) = X1
  have n_HT : Aside0 (Below w.heap.size w X1) := Aside0.mk (by rw [← hX]; exact below_alloc (Below.refl _ _) _)
  have hs_X1 : X1.heap.size = w.heap.size + 1 := by rw [← hX]; simp
  replace hs_X1 := Aside0.mk hs_X1
  have n_B5 : Aside0 (X1.heap[w.heap.size]? = some (.cells #[.slice none 0 0, .slice none 0 0] 39 (0, 0))) := Aside0.mk (by rw [← hX]; exact blk_new _ _)
  have GB5 : Aside0 (w.heap.size ≤ w.heap.size) := Aside0.mk (Nat.le_refl _)
  have B5 := n_B5
  clear n_B5
  have HT := n_HT
  clear n_HT
  clear hX
  go_wp2_with fail
  refine (riffleref01_Right.calls 1000 A c d true _ (HC.out.at HT.out).2 (HC.out.at HT.out).1 HP.out.1).mono ?_
  rintro e W2 ⟨rfl, HB0⟩
  have HB := HB0.below
  clear HB0
  have n_B5 := Aside0.mk (blk_below B5.out HB)
  have n_HT := Aside0.mk (below_step HT.out HB)
  clear B5
  have B5 := n_B5
  clear n_B5
  clear HT
  have HT := n_HT
  clear n_HT
  clear HB
  go_wp2_with fail
  refine (riffleref01_Size.calls 1000 A c d z _ (HC.out.at HT.out).2 (HC.out.at HT.out).1 HP.out.2.1).mono ?_
  rintro e W3 ⟨rfl, HB0⟩
  have HB := HB0.below
  clear HB0
  have n_B5 := Aside0.mk (blk_below B5.out HB)
  have n_HT := Aside0.mk (below_step HT.out HB)
  clear B5
  have B5 := n_B5
  clear n_B5
  clear HT
  have HT := n_HT
  clear n_HT
  clear HB
  go_wp2_with fail
  refine (cell_Of.calls A c d B c' v o1 o2 3 _ (HC.out.at HT.out).2 (HC.out.at HT.out).1 (HV.out.at HT.out).2 (HV.out.at HT.out).1 HP.out.2.2.1).mono ?_
  rintro e W4 ⟨vP0, vP1, rfl, hP0, hP1, HB⟩
  have n_B5 := Aside0.mk (blk_below B5.out HB)
  have n_HT := Aside0.mk (below_step HT.out HB)
  clear B5
  have B5 := n_B5
  clear n_B5
  clear HT
  have HT := n_HT
  clear n_HT
  clear HB
  obtain ⟨AP0, cP0, rfl⟩ := Kd.R_slice hP0
  have P0 : Aside0 (OI 3 W4 AP0 cP0 o1) := Aside0.mk (OI.of hP0)
  clear hP0
  obtain ⟨AP1, cP1, rfl⟩ := Kd.R_slice hP1
  have P1 : Aside0 (OI 2 W4 AP1 cP1 o2) := Aside0.mk (OI.of hP1)
  clear hP1
  go_upto_region 9 with (fail)
  generalize hX : World.alloc W4 (.cells #[.slice AP0 o1.length cP0, .slice AP1 o2.length cP1] 39 (0, 0)) = X5
  have hs_X5 : X5.heap.size = W4.heap.size + 1 := by rw [← hX]; simp
  replace hs_X5 := Aside0.mk hs_X5
  have n_P0 : Aside0 (OI 3 X5 AP0 cP0 o1) := Aside0.mk (by rw [← hX]; exact OI.alloc P0.out _)
  have n_P1 : Aside0 (OI 2 X5 AP1 cP1 o2) := Aside0.mk (by rw [← hX]; exact OI.alloc P1.out _)
  have n_B5 : Aside0 (X5.heap[w.heap.size]? = some (.cells #[.slice none 0 0, .slice none 0 0] 39 (0, 0))) := Aside0.mk (by rw [← hX]; exact blk_alloc B5.out _)
  have n_HT : Aside0 (Below w.heap.size w X5) := Aside0.mk (by rw [← hX]; exact below_alloc HT.out _)
  have n_B7 : Aside0 (X5.heap[W4.heap.size]? = some (.cells #[.slice AP0 o1.length cP0, .slice AP1 o2.length cP1] 39 (0, 0))) := Aside0.mk (by rw [← hX]; exact blk_new _ _)
  have GB7 : Aside0 (w.heap.size ≤ W4.heap.size) := Aside0.mk (HT.out.size)
  have DB5_B7 : Aside0 (w.heap.size ≠ W4.heap.size) := Aside0.mk (Nat.ne_of_lt (blk_lt B5.out))
  clear P0
  clear P1
  clear B5
  clear HT
  have P0 := n_P0
  clear n_P0
  have P1 := n_P1
  clear n_P1
  have B5 := n_B5
  clear n_B5
  have B7 := n_B7
  clear n_B7
  have HT := n_HT
  clear n_HT
  clear hX
  go_wp2_with fail
  refine (cell_List.calls B c' v q1 q2 4 _ (HV.out.at HT.out).2 (HV.out.at HT.out).1 HP.out.2.2.2.1).mono ?_
  rintro e W6 ⟨vQ0, vQ1, rfl, hQ0, hQ1, HB⟩
  have n_P0 := Aside0.mk (OI.step P0.out HB)
  have n_P1 := Aside0.mk (OI.step P1.out HB)
  have n_B5 := Aside0.mk (blk_below B5.out HB)
  have n_B7 := Aside0.mk (blk_below B7.out HB)
  have n_HT := Aside0.mk (below_step HT.out HB)
  clear P0
  have P0 := n_P0
  clear n_P0
  clear P1
  have P1 := n_P1
  clear n_P1
  clear B5
  have B5 := n_B5
  clear n_B5
  clear B7
  have B7 := n_B7
  clear n_B7
  clear HT
  have HT := n_HT
  clear n_HT
  clear HB
  obtain ⟨AQ0, cQ0, rfl⟩ := Kd.R_slice hQ0
  have Q0 : Aside0 (OI 3 W6 AQ0 cQ0 q1) := Aside0.mk (OI.of hQ0)
  clear hQ0
  obtain ⟨AQ1, cQ1, rfl⟩ := Kd.R_slice hQ1
  have Q1 : Aside0 (OI 2 W6 AQ1 cQ1 q2) := Aside0.mk (OI.of hQ1)
  clear hQ1
  go_upto_region 10 with (fail)
  generalize hX : World.alloc W6 (.cells #[.slice AQ0 q1.length cQ0, .slice AQ1 q2.length cQ1] 39 (0, 0)) = X7
  have hs_X7 : X7.heap.size = W6.heap.size + 1 := by rw [← hX]; simp
  replace hs_X7 := Aside0.mk hs_X7
  have n_P0 : Aside0 (OI 3 X7 AP0 cP0 o1) := Aside0.mk (by rw [← hX]; exact OI.alloc P0.out _)
  have n_P1 : Aside0 (OI 2 X7 AP1 cP1 o2) := Aside0.mk (by rw [← hX]; exact OI.alloc P1.out _)
  have n_Q0 : Aside0 (OI 3 X7 AQ0 cQ0 q1) := Aside0.mk (by rw [← hX]; exact OI.alloc Q0.out _)
  have n_Q1 : Aside0 (OI 2 X7 AQ1 cQ1 q2) := Aside0.mk (by rw [← hX]; exact OI.alloc Q1.out _)
  have n_B5 : Aside0 (X7.heap[w.heap.size]? = some (.cells #[.slice none 0 0, .slice none 0 0] 39 (0, 0))) := Aside0.mk (by rw [← hX]; exact blk_alloc B5.out _)
  have n_B7 : Aside0 (X7.heap[W4.heap.size]? = some (.cells #[.slice AP0 o1.length cP0, .slice AP1 o2.length cP1] 39 (0, 0))) := Aside0.mk (by rw [← hX]; exact blk_alloc B7.out _)
  have n_HT : Aside0 (Below w.heap.size w X7) := Aside0.mk (by rw [← hX]; exact below_alloc HT.out _)
  have n_B9 : Aside0 (X7.heap[W6.heap.size]? = some (.cells #[.slice AQ0 q1.length cQ0, .slice AQ1 q2.length cQ1] 39 (0, 0))) := Aside0.mk (by rw [← hX]; exact blk_new _ _)
  have GB9 : Aside0 (w.heap.size ≤ W6.heap.size) := Aside0.mk (HT.out.size)
  have DB5_B9 : Aside0 (w.heap.size ≠ W6.heap.size) := Aside0.mk (Nat.ne_of_lt (blk_lt B5.out))
  have DB7_B9 : Aside0 (W4.heap.size ≠ W6.heap.size) := Aside0.mk (Nat.ne_of_lt (blk_lt B7.out))
  clear P0
  clear P1
  clear Q0
  clear Q1
  clear B5
  clear B7
  clear HT
  have P0 := n_P0
  clear n_P0
  have P1 := n_P1
  clear n_P1
  have Q0 := n_Q0
  clear n_Q0
  have Q1 := n_Q1
  clear n_Q1
  have B5 := n_B5
  clear n_B5
  have B7 := n_B7
  clear n_B7
  have B9 := n_B9
  clear n_B9
  have HT := n_HT
  clear n_HT
  clear hX
  go_upto_region 11 with (fail)
  generalize hX : World.alloc X7 (.cells #[.int .i64 (v.length : Int)] 3 (0, 0)) = X8
  have hs_X8 : X8.heap.size = X7.heap.size + 1 := by rw [← hX]; simp
  replace hs_X8 := Aside0.mk hs_X8
  have n_P0 : Aside0 (OI 3 X8 AP0 cP0 o1) := Aside0.mk (by rw [← hX]; exact OI.alloc P0.out _)
  have n_P1 : Aside0 (OI 2 X8 AP1 cP1 o2) := Aside0.mk (by rw [← hX]; exact OI.alloc P1.out _)
  have n_Q0 : Aside0 (OI 3 X8 AQ0 cQ0 q1) := Aside0.mk (by rw [← hX]; exact OI.alloc Q0.out _)
  have n_Q1 : Aside0 (OI 2 X8 AQ1 cQ1 q2) := Aside0.mk (by rw [← hX]; exact OI.alloc Q1.out _)
  have n_B5 : Aside0 (X8.heap[w.heap.size]? = some (.cells #[.slice none 0 0, .slice none 0 0] 39 (0, 0))) := Aside0.mk (by rw [← hX]; exact blk_alloc B5.out _)
  have n_B7 : Aside0 (X8.heap[W4.heap.size]? = some (.cells #[.slice AP0 o1.length cP0, .slice AP1 o2.length cP1] 39 (0, 0))) := Aside0.mk (by rw [← hX]; exact blk_alloc B7.out _)
  have n_B9 : Aside0 (X8.heap[W6.heap.size]? = some (.cells #[.slice AQ0 q1.length cQ0, .slice AQ1 q2.length cQ1] 39 (0, 0))) := Aside0.mk (by rw [← hX]; exact blk_alloc B9.out _)
  have n_HT : Aside0 (Below w.heap.size w X8) := Aside0.mk (by rw [← hX]; exact below_alloc HT.out _)
  have n_BS : Aside0 (X8.heap[X7.heap.size]? = some (.cells #[.int .i64 (v.length : Int)] 3 (0, 0))) := Aside0.mk (by rw [← hX]; exact blk_new _ _)
  have GBS : Aside0 (w.heap.size ≤ X7.heap.size) := Aside0.mk (HT.out.size)
  have DB5_BS : Aside0 (w.heap.size ≠ X7.heap.size) := Aside0.mk (Nat.ne_of_lt (blk_lt B5.out))
  have DB7_BS : Aside0 (W4.heap.size ≠ X7.heap.size) := Aside0.mk (Nat.ne_of_lt (blk_lt B7.out))
  have DB9_BS : Aside0 (W6.heap.size ≠ X7.heap.size) := Aside0.mk (Nat.ne_of_lt (blk_lt B9.out))
  clear P0
  clear P1
  clear Q0
  clear Q1
  clear B5
  clear B7
  clear B9
  clear HT
  have P0 := n_P0
  clear n_P0
  have P1 := n_P1
  clear n_P1
  have Q0 := n_Q0
  clear n_Q0
  have Q1 := n_Q1
  clear n_Q1
  have B5 := n_B5
  clear n_B5
  have B7 := n_B7
  clear n_B7
  have B9 := n_B9
  clear n_B9
  have BS := n_BS
  clear n_BS
  have HT := n_HT
  clear n_HT
  clear hX
  generalize hX : World.alloc X8 (.cells #[.slice (some ⟨X7.heap.size, 0, none⟩) 1 1, .slice B v.length c'] 39 (0, 0)) = X9
  have hs_X9 : X9.heap.size = X8.heap.size + 1 := by rw [← hX]; simp
  replace hs_X9 := Aside0.mk hs_X9
  have ge_ : X8.heap.size = X7.heap.size + 1 := hs_X8.out
  have n_P0 : Aside0 (OI 3 X9 AP0 cP0 o1) := Aside0.mk (by rw [← hX]; exact OI.alloc P0.out _)
  have n_P1 : Aside0 (OI 2 X9 AP1 cP1 o2) := Aside0.mk (by rw [← hX]; exact OI.alloc P1.out _)
  have n_Q0 : Aside0 (OI 3 X9 AQ0 cQ0 q1) := Aside0.mk (by rw [← hX]; exact OI.alloc Q0.out _)
  have n_Q1 : Aside0 (OI 2 X9 AQ1 cQ1 q2) := Aside0.mk (by rw [← hX]; exact OI.alloc Q1.out _)
  have n_B5 : Aside0 (X9.heap[w.heap.size]? = some (.cells #[.slice none 0 0, .slice none 0 0] 39 (0, 0))) := Aside0.mk (by rw [← hX]; exact blk_alloc B5.out _)
  have n_B7 : Aside0 (X9.heap[W4.heap.size]? = some (.cells #[.slice AP0 o1.length cP0, .slice AP1 o2.length cP1] 39 (0, 0))) := Aside0.mk (by rw [← hX]; exact blk_alloc B7.out _)
  have n_B9 : Aside0 (X9.heap[W6.heap.size]? = some (.cells #[.slice AQ0 q1.length cQ0, .slice AQ1 q2.length cQ1] 39 (0, 0))) := Aside0.mk (by rw [← hX]; exact blk_alloc B9.out _)
  have n_BS : Aside0 (X9.heap[X7.heap.size]? = some (.cells #[.int .i64 (v.length : Int)] 3 (0, 0))) := Aside0.mk (by rw [← hX]; exact blk_alloc BS.out _)
  have n_HT : Aside0 (Below w.heap.size w X9) := Aside0.mk (by rw [← hX]; exact below_alloc HT.out _)
  have n_B11 : Aside0 (X9.heap[X7.heap.size + 1]? = some (.cells #[.slice (some ⟨X7.heap.size, 0, none⟩) 1 1, .slice B v.length c'] 39 (0, 0))) := Aside0.mk (by rw [← hX, ← ge_]; exact blk_new _ _)
  have GB11 : Aside0 (w.heap.size ≤ X7.heap.size + 1) := Aside0.mk (by rw [← ge_]; exact HT.out.size)
  have DB5_B11 : Aside0 (w.heap.size ≠ X7.heap.size + 1) := Aside0.mk (by rw [← ge_]; exact Nat.ne_of_lt (blk_lt B5.out))
  have DB7_B11 : Aside0 (W4.heap.size ≠ X7.heap.size + 1) := Aside0.mk (by rw [← ge_]; exact Nat.ne_of_lt (blk_lt B7.out))
  have DB9_B11 : Aside0 (W6.heap.size ≠ X7.heap.size + 1) := Aside0.mk (by rw [← ge_]; exact Nat.ne_of_lt (blk_lt B9.out))
  have DBS_B11 : Aside0 (X7.heap.size ≠ X7.heap.size + 1) := Aside0.mk (by rw [← ge_]; exact Nat.ne_of_lt (blk_lt BS.out))
  clear P0
  clear P1
  clear Q0
  clear Q1
  clear B5
  clear B7
  clear B9
  clear BS
  clear HT
  clear ge_
  have P0 := n_P0
  clear n_P0
  have P1 := n_P1
  clear n_P1
  have Q0 := n_Q0
  clear n_Q0
  have Q1 := n_Q1
  clear n_Q1
  have B5 := n_B5
  clear n_B5
  have B7 := n_B7
  clear n_B7
  have B9 := n_B9
  clear n_B9
  have BS := n_BS
  clear n_BS
  have B11 := n_B11
  clear n_B11
  have HT := n_HT
  clear n_HT
  clear hX
  have hB11_0 : X9.cell? ⟨X7.heap.size + 1, 0, none⟩ = some (.slice (some ⟨X7.heap.size, 0, none⟩) 1 1) := (blk_cell B11.out 0).trans rfl
  have hB11_1 : X9.cell? ⟨X7.heap.size + 1, 1, none⟩ = some (.slice B v.length c') := (blk_cell B11.out 1).trans rfl
  have hB11_f := fun j => blk_frozen B11.out j
  go_upto_region 13 with (fail)
  clear hB11_0 hB11_1 hB11_f
  generalize hX : World.setCell (World.setCell X9 ⟨X7.heap.size + 1, 0, none⟩ (.slice none 0 0)) ⟨X7.heap.size + 1, 1, none⟩ (.slice none 0 0) = X10
  have m_ := blk_put (cs := #[.slice (some ⟨X7.heap.size, 0, none⟩) 1 1, .slice B v.length c']) (cs' := #[.slice none 0 0, .slice B v.length c']) B11.out 0 (.slice none 0 0) rfl
  have n_P0 : Aside0 (OI 3 X10 AP0 cP0 o1) := Aside0.mk (by rw [← hX]; exact (P0.out.set B11.out (by decide) 0 _).set m_ (by decide) 1 _)
  have n_P1 : Aside0 (OI 2 X10 AP1 cP1 o2) := Aside0.mk (by rw [← hX]; exact (P1.out.set B11.out (by decide) 0 _).set m_ (by decide) 1 _)
  have n_Q0 : Aside0 (OI 3 X10 AQ0 cQ0 q1) := Aside0.mk (by rw [← hX]; exact (Q0.out.set B11.out (by decide) 0 _).set m_ (by decide) 1 _)
  have n_Q1 : Aside0 (OI 2 X10 AQ1 cQ1 q2) := Aside0.mk (by rw [← hX]; exact (Q1.out.set B11.out (by decide) 0 _).set m_ (by decide) 1 _)
  have n_B5 : Aside0 (X10.heap[w.heap.size]? = some (.cells #[.slice none 0 0, .slice none 0 0] 39 (0, 0))) := Aside0.mk (by rw [← hX]; exact blk_far (blk_far B5.out (p := ⟨_, _, none⟩) DB5_B11.out _) (p := ⟨_, _, none⟩) DB5_B11.out _)
  have n_B7 : Aside0 (X10.heap[W4.heap.size]? = some (.cells #[.slice AP0 o1.length cP0, .slice AP1 o2.length cP1] 39 (0, 0))) := Aside0.mk (by rw [← hX]; exact blk_far (blk_far B7.out (p := ⟨_, _, none⟩) DB7_B11.out _) (p := ⟨_, _, none⟩) DB7_B11.out _)
  have n_B9 : Aside0 (X10.heap[W6.heap.size]? = some (.cells #[.slice AQ0 q1.length cQ0, .slice AQ1 q2.length cQ1] 39 (0, 0))) := Aside0.mk (by rw [← hX]; exact blk_far (blk_far B9.out (p := ⟨_, _, none⟩) DB9_B11.out _) (p := ⟨_, _, none⟩) DB9_B11.out _)
  have n_BS : Aside0 (X10.heap[X7.heap.size]? = some (.cells #[.int .i64 (v.length : Int)] 3 (0, 0))) := Aside0.mk (by rw [← hX]; exact blk_far (blk_far BS.out (p := ⟨_, _, none⟩) DBS_B11.out _) (p := ⟨_, _, none⟩) DBS_B11.out _)
  have n_B11 : Aside0 (X10.heap[X7.heap.size + 1]? = some (.cells #[.slice none 0 0, .slice none 0 0] 39 (0, 0))) := Aside0.mk (by rw [← hX]; exact blk_put (cs := #[.slice none 0 0, .slice B v.length c']) m_ 1 (.slice none 0 0) rfl)
  have n_HT : Aside0 (Below w.heap.size w X10) := Aside0.mk (by rw [← hX]; exact below_set (below_set HT.out GB11.out) GB11.out)
  clear P0
  have P0 := n_P0
  clear n_P0
  clear P1
  have P1 := n_P1
  clear n_P1
  clear Q0
  have Q0 := n_Q0
  clear n_Q0
  clear Q1
  have Q1 := n_Q1
  clear n_Q1
  clear B5
  have B5 := n_B5
  clear n_B5
  clear B7
  have B7 := n_B7
  clear n_B7
  clear B9
  have B9 := n_B9
  clear n_B9
  clear BS
  have BS := n_BS
  clear n_BS
  clear B11
  have B11 := n_B11
  clear n_B11
  clear HT
  have HT := n_HT
  clear n_HT
  clear hX m_
  have hB5_0 : X10.cell? ⟨w.heap.size, 0, none⟩ = some (.slice none 0 0) := (blk_cell B5.out 0).trans rfl
  have hB5_1 : X10.cell? ⟨w.heap.size, 1, none⟩ = some (.slice none 0 0) := (blk_cell B5.out 1).trans rfl
  have hB5_f := fun j => blk_frozen B5.out j
  have hB7_0 : X10.cell? ⟨W4.heap.size, 0, none⟩ = some (.slice AP0 o1.length cP0) := (blk_cell B7.out 0).trans rfl
  have hB7_1 : X10.cell? ⟨W4.heap.size, 1, none⟩ = some (.slice AP1 o2.length cP1) := (blk_cell B7.out 1).trans rfl
  have hB7_f := fun j => blk_frozen B7.out j
  have hB9_0 : X10.cell? ⟨W6.heap.size, 0, none⟩ = some (.slice AQ0 q1.length cQ0) := (blk_cell B9.out 0).trans rfl
  have hB9_1 : X10.cell? ⟨W6.heap.size, 1, none⟩ = some (.slice AQ1 q2.length cQ1) := (blk_cell B9.out 1).trans rfl
  have hB9_f := fun j => blk_frozen B9.out j
  have hB11_0 : X10.cell? ⟨X7.heap.size + 1, 0, none⟩ = some (.slice none 0 0) := (blk_cell B11.out 0).trans rfl
  have hB11_1 : X10.cell? ⟨X7.heap.size + 1, 1, none⟩ = some (.slice none 0 0) := (blk_cell B11.out 1).trans rfl
  have hB11_f := fun j => blk_frozen B11.out j
  go_wp2_with fail
  clear hB5_0 hB5_1 hB5_f hB7_0 hB7_1 hB7_f hB9_0 hB9_1 hB9_f hB11_0 hB11_1 hB11_f
  refine (riffleref03_Same.calls 1000 AP0 cP0 o1 AP1 cP1 o2 none 0 [] none 0 [] true _ (OI.li P0.out).2 (OI.li P0.out).1 (OI.li P1.out).2 (OI.li P1.out).1 (LI.nil _).2 (Nat.le_refl 0) (LI.nil _).2 (Nat.le_refl 0) HP.out.2.2.2.2.1).mono ?_
  rintro e W11 ⟨rfl, HB⟩
  have n_P0 := Aside0.mk (OI.step P0.out HB)
  have n_P1 := Aside0.mk (OI.step P1.out HB)
  have n_Q0 := Aside0.mk (OI.step Q0.out HB)
  have n_Q1 := Aside0.mk (OI.step Q1.out HB)
  have n_B5 := Aside0.mk (blk_below B5.out HB)
  have n_B7 := Aside0.mk (blk_below B7.out HB)
  have n_B9 := Aside0.mk (blk_below B9.out HB)
  have n_BS := Aside0.mk (blk_below BS.out HB)
  have n_B11 := Aside0.mk (blk_below B11.out HB)
  have n_HT := Aside0.mk (below_step HT.out HB)
  clear P0
  have P0 := n_P0
  clear n_P0
  clear P1
  have P1 := n_P1
  clear n_P1
  clear Q0
  have Q0 := n_Q0
  clear n_Q0
  clear Q1
  have Q1 := n_Q1
  clear n_Q1
  clear B5
  have B5 := n_B5
  clear n_B5
  clear B7
  have B7 := n_B7
  clear n_B7
  clear B9
  have B9 := n_B9
  clear n_B9
  clear BS
  have BS := n_BS
  clear n_BS
  clear B11
  have B11 := n_B11
  clear n_B11
  clear HT
  have HT := n_HT
  clear n_HT
  clear HB
  have hB5_0 : W11.cell? ⟨w.heap.size, 0, none⟩ = some (.slice none 0 0) := (blk_cell B5.out 0).trans rfl
  have hB5_1 : W11.cell? ⟨w.heap.size, 1, none⟩ = some (.slice none 0 0) := (blk_cell B5.out 1).trans rfl
  have hB5_f := fun j => blk_frozen B5.out j
  have hB7_0 : W11.cell? ⟨W4.heap.size, 0, none⟩ = some (.slice AP0 o1.length cP0) := (blk_cell B7.out 0).trans rfl
  have hB7_1 : W11.cell? ⟨W4.heap.size, 1, none⟩ = some (.slice AP1 o2.length cP1) := (blk_cell B7.out 1).trans rfl
  have hB7_f := fun j => blk_frozen B7.out j
  have hB9_0 : W11.cell? ⟨W6.heap.size, 0, none⟩ = some (.slice AQ0 q1.length cQ0) := (blk_cell B9.out 0).trans rfl
  have hB9_1 : W11.cell? ⟨W6.heap.size, 1, none⟩ = some (.slice AQ1 q2.length cQ1) := (blk_cell B9.out 1).trans rfl
  have hB9_f := fun j => blk_frozen B9.out j
  have hB11_0 : W11.cell? ⟨X7.heap.size + 1, 0, none⟩ = some (.slice none 0 0) := (blk_cell B11.out 0).trans rfl
  have hB11_1 : W11.cell? ⟨X7.heap.size + 1, 1, none⟩ = some (.slice none 0 0) := (blk_cell B11.out 1).trans rfl
  have hB11_f := fun j => blk_frozen B11.out j
  go_wp2_with fail
  clear hB5_0 hB5_1 hB5_f hB7_0 hB7_1 hB7_f hB9_0 hB9_1 hB9_f hB11_0 hB11_1 hB11_f
  refine (riffleref03_Same.calls 1000 AQ0 cQ0 q1 AQ1 cQ1 q2 none 0 [] none 0 [] true _ (OI.li Q0.out).2 (OI.li Q0.out).1 (OI.li Q1.out).2 (OI.li Q1.out).1 (LI.nil _).2 (Nat.le_refl 0) (LI.nil _).2 (Nat.le_refl 0) HP.out.2.2.2.2.2.1).mono ?_
  rintro e W12 ⟨rfl, HB⟩
  have n_P0 := Aside0.mk (OI.step P0.out HB)
  have n_P1 := Aside0.mk (OI.step P1.out HB)
  have n_Q0 := Aside0.mk (OI.step Q0.out HB)
  have n_Q1 := Aside0.mk (OI.step Q1.out HB)
  have n_B5 := Aside0.mk (blk_below B5.out HB)
  have n_B7 := Aside0.mk (blk_below B7.out HB)
  have n_B9 := Aside0.mk (blk_below B9.out HB)
  have n_BS := Aside0.mk (blk_below BS.out HB)
  have n_B11 := Aside0.mk (blk_below B11.out HB)
  have n_HT := Aside0.mk (below_step HT.out HB)
  clear P0
  have P0 := n_P0
  clear n_P0
  clear P1
  have P1 := n_P1
  clear n_P1
  clear Q0
  have Q0 := n_Q0
  clear n_Q0
  clear Q1
  have Q1 := n_Q1
  clear n_Q1
  clear B5
  have B5 := n_B5
  clear n_B5
  clear B7
  have B7 := n_B7
  clear n_B7
  clear B9
  have B9 := n_B9
  clear n_B9
  clear BS
  have BS := n_BS
  clear n_BS
  clear B11
  have B11 := n_B11
  clear n_B11
  clear HT
  have HT := n_HT
  clear n_HT
  clear HB
  go_wp2_with fail
  refine (cell_Zero.calls A c d z1 z2 _ (HC.out.at HT.out).2 (HC.out.at HT.out).1 HP.out.2.2.2.2.2.2.1).mono ?_
  rintro e W13 ⟨vS0, vS1, rfl, hS0, hS1, HB⟩
  have n_P0 := Aside0.mk (OI.step P0.out HB)
  have n_P1 := Aside0.mk (OI.step P1.out HB)
  have n_Q0 := Aside0.mk (OI.step Q0.out HB)
  have n_Q1 := Aside0.mk (OI.step Q1.out HB)
  have n_B5 := Aside0.mk (blk_below B5.out HB)
  have n_B7 := Aside0.mk (blk_below B7.out HB)
  have n_B9 := Aside0.mk (blk_below B9.out HB)
  have n_BS := Aside0.mk (blk_below BS.out HB)
  have n_B11 := Aside0.mk (blk_below B11.out HB)
  have n_HT := Aside0.mk (below_step HT.out HB)
  clear P0
  have P0 := n_P0
  clear n_P0
  clear P1
  have P1 := n_P1
  clear n_P1
  clear Q0
  have Q0 := n_Q0
  clear n_Q0
  clear Q1
  have Q1 := n_Q1
  clear n_Q1
  clear B5
  have B5 := n_B5
  clear n_B5
  clear B7
  have B7 := n_B7
  clear n_B7
  clear B9
  have B9 := n_B9
  clear n_B9
  clear BS
  have BS := n_BS
  clear n_BS
  clear B11
  have B11 := n_B11
  clear n_B11
  clear HT
  have HT := n_HT
  clear n_HT
  clear HB
  obtain ⟨AS0, cS0, rfl⟩ := Kd.R_slice hS0
  have S0 : Aside0 (OI 3 W13 AS0 cS0 z1) := Aside0.mk (OI.of hS0)
  clear hS0
  obtain ⟨AS1, cS1, rfl⟩ := Kd.R_slice hS1
  have S1 : Aside0 (OI 2 W13 AS1 cS1 z2) := Aside0.mk (OI.of hS1)
  clear hS1
  go_wp2_with fail
  refine (riffleref03_Zero.calls 1000 A c d z1 z2 _ (HC.out.at HT.out).2 (HC.out.at HT.out).1 HP.out.2.2.2.2.2.2.2.1).mono ?_
  rintro e W14 ⟨vT0, vT1, rfl, hT0, hT1, HB⟩
  have n_P0 := Aside0.mk (OI.step P0.out HB)
  have n_P1 := Aside0.mk (OI.step P1.out HB)
  have n_Q0 := Aside0.mk (OI.step Q0.out HB)
  have n_Q1 := Aside0.mk (OI.step Q1.out HB)
  have n_S0 := Aside0.mk (OI.step S0.out HB)
  have n_S1 := Aside0.mk (OI.step S1.out HB)
  have n_B5 := Aside0.mk (blk_below B5.out HB)
  have n_B7 := Aside0.mk (blk_below B7.out HB)
  have n_B9 := Aside0.mk (blk_below B9.out HB)
  have n_BS := Aside0.mk (blk_below BS.out HB)
  have n_B11 := Aside0.mk (blk_below B11.out HB)
  have n_HT := Aside0.mk (below_step HT.out HB)
  clear P0
  have P0 := n_P0
  clear n_P0
  clear P1
  have P1 := n_P1
  clear n_P1
  clear Q0
  have Q0 := n_Q0
  clear n_Q0
  clear Q1
  have Q1 := n_Q1
  clear n_Q1
  clear S0
  have S0 := n_S0
  clear n_S0
  clear S1
  have S1 := n_S1
  clear n_S1
  clear B5
  have B5 := n_B5
  clear n_B5
  clear B7
  have B7 := n_B7
  clear n_B7
  clear B9
  have B9 := n_B9
  clear n_B9
  clear BS
  have BS := n_BS
  clear n_BS
  clear B11
  have B11 := n_B11
  clear n_B11
  clear HT
  have HT := n_HT
  clear n_HT
  clear HB
  obtain ⟨AT0, cT0, rfl⟩ := Kd.R_slice hT0
  have T0 : Aside0 (OI 3 W14 AT0 cT0 z1) := Aside0.mk (OI.of hT0)
  clear hT0
  obtain ⟨AT1, cT1, rfl⟩ := Kd.R_slice hT1
  have T1 : Aside0 (OI 2 W14 AT1 cT1 z2) := Aside0.mk (OI.of hT1)
  clear hT1
  go_wp2_with fail
  refine (riffleref03_Same.calls 1000 AS0 cS0 z1 AS1 cS1 z2 AT0 cT0 z1 AT1 cT1 z2 true _ (OI.li S0.out).2 (OI.li S0.out).1 (OI.li S1.out).2 (OI.li S1.out).1 (OI.li T0.out).2 (OI.li T0.out).1 (OI.li T1.out).2 (OI.li T1.out).1 HP.out.2.2.2.2.2.2.2.2.1).mono ?_
  rintro e W15 ⟨rfl, HB⟩
  have n_P0 := Aside0.mk (OI.step P0.out HB)
  have n_P1 := Aside0.mk (OI.step P1.out HB)
  have n_Q0 := Aside0.mk (OI.step Q0.out HB)
  have n_Q1 := Aside0.mk (OI.step Q1.out HB)
  have n_S0 := Aside0.mk (OI.step S0.out HB)
  have n_S1 := Aside0.mk (OI.step S1.out HB)
  have n_T0 := Aside0.mk (OI.step T0.out HB)
  have n_T1 := Aside0.mk (OI.step T1.out HB)
  have n_B5 := Aside0.mk (blk_below B5.out HB)
  have n_B7 := Aside0.mk (blk_below B7.out HB)
  have n_B9 := Aside0.mk (blk_below B9.out HB)
  have n_BS := Aside0.mk (blk_below BS.out HB)
  have n_B11 := Aside0.mk (blk_below B11.out HB)
  have n_HT := Aside0.mk (below_step HT.out HB)
  clear P0
  have P0 := n_P0
  clear n_P0
  clear P1
  have P1 := n_P1
  clear n_P1
  clear Q0
  have Q0 := n_Q0
  clear n_Q0
  clear Q1
  have Q1 := n_Q1
  clear n_Q1
  clear S0
  have S0 := n_S0
  clear n_S0
  clear S1
  have S1 := n_S1
  clear n_S1
  clear T0
  have T0 := n_T0
  clear n_T0
  clear T1
  have T1 := n_T1
  clear n_T1
  clear B5
  have B5 := n_B5
  clear n_B5
  clear B7
  have B7 := n_B7
  clear n_B7
  clear B9
  have B9 := n_B9
  clear n_B9
  clear BS
  have BS := n_BS
  clear n_BS
  clear B11
  have B11 := n_B11
  clear n_B11
  clear HT
  have HT := n_HT
  clear n_HT
  clear HB
  go_wp2_with fail
  refine (cell_Scalar.calls (d.length : Int) y1 y2 _ HP.out.2.2.2.2.2.2.2.2.2.1).mono ?_
  rintro e W16 ⟨vU0, vU1, rfl, hU0, hU1, HB⟩
  have n_P0 := Aside0.mk (OI.step P0.out HB)
  have n_P1 := Aside0.mk (OI.step P1.out HB)
  have n_Q0 := Aside0.mk (OI.step Q0.out HB)
  have n_Q1 := Aside0.mk (OI.step Q1.out HB)
  have n_S0 := Aside0.mk (OI.step S0.out HB)
  have n_S1 := Aside0.mk (OI.step S1.out HB)
  have n_T0 := Aside0.mk (OI.step T0.out HB)
  have n_T1 := Aside0.mk (OI.step T1.out HB)
  have n_B5 := Aside0.mk (blk_below B5.out HB)
  have n_B7 := Aside0.mk (blk_below B7.out HB)
  have n_B9 := Aside0.mk (blk_below B9.out HB)
  have n_BS := Aside0.mk (blk_below BS.out HB)
  have n_B11 := Aside0.mk (blk_below B11.out HB)
  have n_HT := Aside0.mk (below_step HT.out HB)
  clear P0
  have P0 := n_P0
  clear n_P0
  clear P1
  have P1 := n_P1
  clear n_P1
  clear Q0
  have Q0 := n_Q0
  clear n_Q0
  clear Q1
  have Q1 := n_Q1
  clear n_Q1
  clear S0
  have S0 := n_S0
  clear n_S0
  clear S1
  have S1 := n_S1
  clear n_S1
  clear T0
  have T0 := n_T0
  clear n_T0
  clear T1
  have T1 := n_T1
  clear n_T1
  clear B5
  have B5 := n_B5
  clear n_B5
  clear B7
  have B7 := n_B7
  clear n_B7
  clear B9
  have B9 := n_B9
  clear n_B9
  clear BS
  have BS := n_BS
  clear n_BS
  clear B11
  have B11 := n_B11
  clear n_B11
  clear HT
  have HT := n_HT
  clear n_HT
  clear HB
  obtain ⟨AU0, cU0, rfl⟩ := Kd.R_slice hU0
  have U0 : Aside0 (OI 3 W16 AU0 cU0 y1) := Aside0.mk (OI.of hU0)
  clear hU0
  obtain ⟨AU1, cU1, rfl⟩ := Kd.R_slice hU1
  have U1 : Aside0 (OI 2 W16 AU1 cU1 y2) := Aside0.mk (OI.of hU1)
  clear hU1
  go_wp2_with fail
  refine (riffleref03_Scalar.calls (d.length : Int) y1 y2 _ HP.out.2.2.2.2.2.2.2.2.2.2.1).mono ?_
  rintro e W17 ⟨vY0, vY1, rfl, hY0, hY1, HB⟩
  have n_P0 := Aside0.mk (OI.step P0.out HB)
  have n_P1 := Aside0.mk (OI.step P1.out HB)
  have n_Q0 := Aside0.mk (OI.step Q0.out HB)
  have n_Q1 := Aside0.mk (OI.step Q1.out HB)
  have n_S0 := Aside0.mk (OI.step S0.out HB)
  have n_S1 := Aside0.mk (OI.step S1.out HB)
  have n_T0 := Aside0.mk (OI.step T0.out HB)
  have n_T1 := Aside0.mk (OI.step T1.out HB)
  have n_U0 := Aside0.mk (OI.step U0.out HB)
  have n_U1 := Aside0.mk (OI.step U1.out HB)
  have n_B5 := Aside0.mk (blk_below B5.out HB)
  have n_B7 := Aside0.mk (blk_below B7.out HB)
  have n_B9 := Aside0.mk (blk_below B9.out HB)
  have n_BS := Aside0.mk (blk_below BS.out HB)
  have n_B11 := Aside0.mk (blk_below B11.out HB)
  have n_HT := Aside0.mk (below_step HT.out HB)
  clear P0
  have P0 := n_P0
  clear n_P0
  clear P1
  have P1 := n_P1
  clear n_P1
  clear Q0
  have Q0 := n_Q0
  clear n_Q0
  clear Q1
  have Q1 := n_Q1
  clear n_Q1
  clear S0
  have S0 := n_S0
  clear n_S0
  clear S1
  have S1 := n_S1
  clear n_S1
  clear T0
  have T0 := n_T0
  clear n_T0
  clear T1
  have T1 := n_T1
  clear n_T1
  clear U0
  have U0 := n_U0
  clear n_U0
  clear U1
  have U1 := n_U1
  clear n_U1
  clear B5
  have B5 := n_B5
  clear n_B5
  clear B7
  have B7 := n_B7
  clear n_B7
  clear B9
  have B9 := n_B9
  clear n_B9
  clear BS
  have BS := n_BS
  clear n_BS
  clear B11
  have B11 := n_B11
  clear n_B11
  clear HT
  have HT := n_HT
  clear n_HT
  clear HB
  obtain ⟨AY0, cY0, rfl⟩ := Kd.R_slice hY0
  have Y0 : Aside0 (OI 3 W17 AY0 cY0 y1) := Aside0.mk (OI.of hY0)
  clear hY0
  obtain ⟨AY1, cY1, rfl⟩ := Kd.R_slice hY1
  have Y1 : Aside0 (OI 2 W17 AY1 cY1 y2) := Aside0.mk (OI.of hY1)
  clear hY1
  go_wp2_with fail
  refine (riffleref03_Same.calls 1000 AU0 cU0 y1 AU1 cU1 y2 AY0 cY0 y1 AY1 cY1 y2 true _ (OI.li U0.out).2 (OI.li U0.out).1 (OI.li U1.out).2 (OI.li U1.out).1 (OI.li Y0.out).2 (OI.li Y0.out).1 (OI.li Y1.out).2 (OI.li Y1.out).1 HP.out.2.2.2.2.2.2.2.2.2.2.2.1).mono ?_
  rintro e W18 ⟨rfl, HB⟩
  have n_P0 := Aside0.mk (OI.step P0.out HB)
  have n_P1 := Aside0.mk (OI.step P1.out HB)
  have n_Q0 := Aside0.mk (OI.step Q0.out HB)
  have n_Q1 := Aside0.mk (OI.step Q1.out HB)
  have n_S0 := Aside0.mk (OI.step S0.out HB)
  have n_S1 := Aside0.mk (OI.step S1.out HB)
  have n_T0 := Aside0.mk (OI.step T0.out HB)
  have n_T1 := Aside0.mk (OI.step T1.out HB)
  have n_U0 := Aside0.mk (OI.step U0.out HB)
  have n_U1 := Aside0.mk (OI.step U1.out HB)
  have n_Y0 := Aside0.mk (OI.step Y0.out HB)
  have n_Y1 := Aside0.mk (OI.step Y1.out HB)
  have n_B5 := Aside0.mk (blk_below B5.out HB)
  have n_B7 := Aside0.mk (blk_below B7.out HB)
  have n_B9 := Aside0.mk (blk_below B9.out HB)
  have n_BS := Aside0.mk (blk_below BS.out HB)
  have n_B11 := Aside0.mk (blk_below B11.out HB)
  have n_HT := Aside0.mk (below_step HT.out HB)
  clear P0
  have P0 := n_P0
  clear n_P0
  clear P1
  have P1 := n_P1
  clear n_P1
  clear Q0
  have Q0 := n_Q0
  clear n_Q0
  clear Q1
  have Q1 := n_Q1
  clear n_Q1
  clear S0
  have S0 := n_S0
  clear n_S0
  clear S1
  have S1 := n_S1
  clear n_S1
  clear T0
  have T0 := n_T0
  clear n_T0
  clear T1
  have T1 := n_T1
  clear n_T1
  clear U0
  have U0 := n_U0
  clear n_U0
  clear U1
  have U1 := n_U1
  clear n_U1
  clear Y0
  have Y0 := n_Y0
  clear n_Y0
  clear Y1
  have Y1 := n_Y1
  clear n_Y1
  clear B5
  have B5 := n_B5
  clear n_B5
  clear B7
  have B7 := n_B7
  clear n_B7
  clear B9
  have B9 := n_B9
  clear n_B9
  clear BS
  have BS := n_BS
  clear n_BS
  clear B11
  have B11 := n_B11
  clear n_B11
  clear HT
  have HT := n_HT
  clear n_HT
  clear HB
  go_wp2_with fail
  refine (rifflelaw03_lives.calls 1000 true _ HP.out.2.2.2.2.2.2.2.2.2.2.2.2).mono ?_
  rintro e W19 ⟨rfl, HB⟩
  have n_P0 := Aside0.mk (OI.step P0.out HB)
  have n_P1 := Aside0.mk (OI.step P1.out HB)
  have n_Q0 := Aside0.mk (OI.step Q0.out HB)
  have n_Q1 := Aside0.mk (OI.step Q1.out HB)
  have n_S0 := Aside0.mk (OI.step S0.out HB)
  have n_S1 := Aside0.mk (OI.step S1.out HB)
  have n_T0 := Aside0.mk (OI.step T0.out HB)
  have n_T1 := Aside0.mk (OI.step T1.out HB)
  have n_U0 := Aside0.mk (OI.step U0.out HB)
  have n_U1 := Aside0.mk (OI.step U1.out HB)
  have n_Y0 := Aside0.mk (OI.step Y0.out HB)
  have n_Y1 := Aside0.mk (OI.step Y1.out HB)
  have n_B5 := Aside0.mk (blk_below B5.out HB)
  have n_B7 := Aside0.mk (blk_below B7.out HB)
  have n_B9 := Aside0.mk (blk_below B9.out HB)
  have n_BS := Aside0.mk (blk_below BS.out HB)
  have n_B11 := Aside0.mk (blk_below B11.out HB)
  have n_HT := Aside0.mk (below_step HT.out HB)
  clear P0
  have P0 := n_P0
  clear n_P0
  clear P1
  have P1 := n_P1
  clear n_P1
  clear Q0
  have Q0 := n_Q0
  clear n_Q0
  clear Q1
  have Q1 := n_Q1
  clear n_Q1
  clear S0
  have S0 := n_S0
  clear n_S0
  clear S1
  have S1 := n_S1
  clear n_S1
  clear T0
  have T0 := n_T0
  clear n_T0
  clear T1
  have T1 := n_T1
  clear n_T1
  clear U0
  have U0 := n_U0
  clear n_U0
  clear U1
  have U1 := n_U1
  clear n_U1
  clear Y0
  have Y0 := n_Y0
  clear n_Y0
  clear Y1
  have Y1 := n_Y1
  clear n_Y1
  clear B5
  have B5 := n_B5
  clear n_B5
  clear B7
  have B7 := n_B7
  clear n_B7
  clear B9
  have B9 := n_B9
  clear n_B9
  clear BS
  have BS := n_BS
  clear n_BS
  clear B11
  have B11 := n_B11
  clear n_B11
  clear HT
  have HT := n_HT
  clear n_HT
  clear HB
  go_wp2
  go_ret
  exact ⟨rfl, HT.out⟩
theorem makes_rl (w : World) (A : Option Addr) (c : Nat) (d : List Int) (B : Option Addr) (c' : Nat) (v : List Int) (HC : Aside0 (LI w A c d)) (HV : Aside0 (LI w B c' v)) (z : Int) (o1 o2 q1 q2 z1 z2 y1 y2 : List Int)
    (g1 : ¬ (10 < (d.length : Int))) (g2 : ¬ (200 < (v.length : Int))) (g3 : ¬ (64 < (v.length : Int))) (g4 : ((v.length : Int) == z) = true)
    (HP : Aside0 (riffleref01_Right.f 1000 d = some true ∧ riffleref01_Size.f 1000 d = some z ∧ cell_Of.f d v = some (o1, o2, 0) ∧ cell_List.f v = some (q1, q2, 0) ∧ riffleref03_Same.f 1000 o1 o2 d v = some true ∧ riffleref03_Same.f 1000 q1 q2 [(v.length : Int)] v = some true ∧ cell_Zero.f d = some (z1, z2) ∧ riffleref03_Zero.f 1000 d = some (z1, z2) ∧ riffleref03_Same.f 1000 z1 z2 z1 z2 = some true ∧ cell_Scalar.f (d.length : Int) = some (y1, y2) ∧ riffleref03_Scalar.f (d.length : Int) = some (y1, y2) ∧ riffleref03_Same.f 1000 y1 y2 y1 y2 = some true ∧ rifflelaw03_lives.f 1000 = some true)) :
    Calls Try.prog 7 #[.slice A d.length c, .slice B v.length c'] w fun e w' => e = .returned (.bool true) ∧ Below w.heap.size w w' := by
  go_enter Try.func7, Try.ntmps7
  go_upto_region 4 with (fail)
  generalize hX : World.alloc w (.cells #[.slice none 0 0, .slice none 0 0] 39 (0, 0)) = X1
  have n_HT : Aside0 (Below w.heap.size w X1) := Aside0.mk (by rw [← hX]; exact below_alloc (Below.refl _ _) _)
  have hs_X1 : X1.heap.size = w.heap.size + 1 := by rw [← hX]; simp
  replace hs_X1 := Aside0.mk hs_X1
  have n_B5 : Aside0 (X1.heap[w.heap.size]? = some (.cells #[.slice none 0 0, .slice none 0 0] 39 (0, 0))) := Aside0.mk (by rw [← hX]; exact blk_new _ _)
  have GB5 : Aside0 (w.heap.size ≤ w.heap.size) := Aside0.mk (Nat.le_refl _)
  have B5 := n_B5
  clear n_B5
  have HT := n_HT
  clear n_HT
  clear hX
  go_wp2_with fail
  refine (riffleref01_Right.calls 1000 A c d true _ (HC.out.at HT.out).2 (HC.out.at HT.out).1 HP.out.1).mono ?_
  rintro e W2 ⟨rfl, HB0⟩
  have HB := HB0.below
  clear HB0
  have n_B5 := Aside0.mk (blk_below B5.out HB)
  have n_HT := Aside0.mk (below_step HT.out HB)
  clear B5
  have B5 := n_B5
  clear n_B5
  clear HT
  have HT := n_HT
  clear n_HT
  clear HB
  go_wp2_with fail
  refine (riffleref01_Size.calls 1000 A c d z _ (HC.out.at HT.out).2 (HC.out.at HT.out).1 HP.out.2.1).mono ?_
  rintro e W3 ⟨rfl, HB0⟩
  have HB := HB0.below
  clear HB0
  have n_B5 := Aside0.mk (blk_below B5.out HB)
  have n_HT := Aside0.mk (below_step HT.out HB)
  clear B5
  have B5 := n_B5
  clear n_B5
  clear HT
  have HT := n_HT
  clear n_HT
  clear HB
  have hB5_0 : W3.cell? ⟨w.heap.size, 0, none⟩ = some (.slice none 0 0) := (blk_cell B5.out 0).trans rfl
  have hB5_1 : W3.cell? ⟨w.heap.size, 1, none⟩ = some (.slice none 0 0) := (blk_cell B5.out 1).trans rfl
  have hB5_f := fun j => blk_frozen B5.out j
  go_upto_region 8 with (fail)
  clear hB5_0 hB5_1 hB5_f
  generalize hX : World.setCell (World.setCell W3 ⟨w.heap.size, 0, none⟩ (.slice A d.length c)) ⟨w.heap.size, 1, none⟩ (.slice B v.length c') = X4
  have m_ := blk_put (cs := #[.slice none 0 0, .slice none 0 0]) (cs' := #[.slice A d.length c, .slice none 0 0]) B5.out 0 (.slice A d.length c) rfl
  have n_B5 : Aside0 (X4.heap[w.heap.size]? = some (.cells #[.slice A d.length c, .slice B v.length c'] 39 (0, 0))) := Aside0.mk (by rw [← hX]; exact blk_put (cs := #[.slice A d.length c, .slice none 0 0]) m_ 1 (.slice B v.length c') rfl)
  have n_HT : Aside0 (Below w.heap.size w X4) := Aside0.mk (by rw [← hX]; exact below_set (below_set HT.out GB5.out) GB5.out)
  clear B5
  have B5 := n_B5
  clear n_B5
  clear HT
  have HT := n_HT
  clear n_HT
  clear hX m_
  go_wp2_with fail
  refine (cell_Of.calls A c d B c' v o1 o2 0 _ (HC.out.at HT.out).2 (HC.out.at HT.out).1 (HV.out.at HT.out).2 (HV.out.at HT.out).1 HP.out.2.2.1).mono ?_
  rintro e W5 ⟨vP0, vP1, rfl, hP0, hP1, HB⟩
  have n_B5 := Aside0.mk (blk_below B5.out HB)
  have n_HT := Aside0.mk (below_step HT.out HB)
  clear B5
  have B5 := n_B5
  clear n_B5
  clear HT
  have HT := n_HT
  clear n_HT
  clear HB
  obtain ⟨AP0, cP0, rfl⟩ := Kd.R_slice hP0
  have P0 : Aside0 (OI 3 W5 AP0 cP0 o1) := Aside0.mk (OI.of hP0)
  clear hP0
  obtain ⟨AP1, cP1, rfl⟩ := Kd.R_slice hP1
  have P1 : Aside0 (OI 2 W5 AP1 cP1 o2) := Aside0.mk (OI.of hP1)
  clear hP1
  go_upto_region 9 with (fail)
  generalize hX : World.alloc W5 (.cells #[.slice AP0 o1.length cP0, .slice AP1 o2.length cP1] 39 (0, 0)) = X6
  have hs_X6 : X6.heap.size = W5.heap.size + 1 := by rw [← hX]; simp
  replace hs_X6 := Aside0.mk hs_X6
  have n_P0 : Aside0 (OI 3 X6 AP0 cP0 o1) := Aside0.mk (by rw [← hX]; exact OI.alloc P0.out _)
  have n_P1 : Aside0 (OI 2 X6 AP1 cP1 o2) := Aside0.mk (by rw [← hX]; exact OI.alloc P1.out _)
  have n_B5 : Aside0 (X6.heap[w.heap.size]? = some (.cells #[.slice A d.length c, .slice B v.length c'] 39 (0, 0))) := Aside0.mk (by rw [← hX]; exact blk_alloc B5.out _)
  have n_HT : Aside0 (Below w.heap.size w X6) := Aside0.mk (by rw [← hX]; exact below_alloc HT.out _)
  have n_B7 : Aside0 (X6.heap[W5.heap.size]? = some (.cells #[.slice AP0 o1.length cP0, .slice AP1 o2.length cP1] 39 (0, 0))) := Aside0.mk (by rw [← hX]; exact blk_new _ _)
  have GB7 : Aside0 (w.heap.size ≤ W5.heap.size) := Aside0.mk (HT.out.size)
  have DB5_B7 : Aside0 (w.heap.size ≠ W5.heap.size) := Aside0.mk (Nat.ne_of_lt (blk_lt B5.out))
  clear P0
  clear P1
  clear B5
  clear HT
  have P0 := n_P0
  clear n_P0
  have P1 := n_P1
  clear n_P1
  have B5 := n_B5
  clear n_B5
  have B7 := n_B7
  clear n_B7
  have HT := n_HT
  clear n_HT
  clear hX
  go_wp2_with fail
  refine (cell_List.calls B c' v q1 q2 0 _ (HV.out.at HT.out).2 (HV.out.at HT.out).1 HP.out.2.2.2.1).mono ?_
  rintro e W7 ⟨vQ0, vQ1, rfl, hQ0, hQ1, HB⟩
  have n_P0 := Aside0.mk (OI.step P0.out HB)
  have n_P1 := Aside0.mk (OI.step P1.out HB)
  have n_B5 := Aside0.mk (blk_below B5.out HB)
  have n_B7 := Aside0.mk (blk_below B7.out HB)
  have n_HT := Aside0.mk (below_step HT.out HB)
  clear P0
  have P0 := n_P0
  clear n_P0
  clear P1
  have P1 := n_P1
  clear n_P1
  clear B5
  have B5 := n_B5
  clear n_B5
  clear B7
  have B7 := n_B7
  clear n_B7
  clear HT
  have HT := n_HT
  clear n_HT
  clear HB
  obtain ⟨AQ0, cQ0, rfl⟩ := Kd.R_slice hQ0
  have Q0 : Aside0 (OI 3 W7 AQ0 cQ0 q1) := Aside0.mk (OI.of hQ0)
  clear hQ0
  obtain ⟨AQ1, cQ1, rfl⟩ := Kd.R_slice hQ1
  have Q1 : Aside0 (OI 2 W7 AQ1 cQ1 q2) := Aside0.mk (OI.of hQ1)
  clear hQ1
  go_upto_region 10 with (fail)
  generalize hX : World.alloc W7 (.cells #[.slice AQ0 q1.length cQ0, .slice AQ1 q2.length cQ1] 39 (0, 0)) = X8
  have hs_X8 : X8.heap.size = W7.heap.size + 1 := by rw [← hX]; simp
  replace hs_X8 := Aside0.mk hs_X8
  have n_P0 : Aside0 (OI 3 X8 AP0 cP0 o1) := Aside0.mk (by rw [← hX]; exact OI.alloc P0.out _)
  have n_P1 : Aside0 (OI 2 X8 AP1 cP1 o2) := Aside0.mk (by rw [← hX]; exact OI.alloc P1.out _)
  have n_Q0 : Aside0 (OI 3 X8 AQ0 cQ0 q1) := Aside0.mk (by rw [← hX]; exact OI.alloc Q0.out _)
  have n_Q1 : Aside0 (OI 2 X8 AQ1 cQ1 q2) := Aside0.mk (by rw [← hX]; exact OI.alloc Q1.out _)
  have n_B5 : Aside0 (X8.heap[w.heap.size]? = some (.cells #[.slice A d.length c, .slice B v.length c'] 39 (0, 0))) := Aside0.mk (by rw [← hX]; exact blk_alloc B5.out _)
  have n_B7 : Aside0 (X8.heap[W5.heap.size]? = some (.cells #[.slice AP0 o1.length cP0, .slice AP1 o2.length cP1] 39 (0, 0))) := Aside0.mk (by rw [← hX]; exact blk_alloc B7.out _)
  have n_HT : Aside0 (Below w.heap.size w X8) := Aside0.mk (by rw [← hX]; exact below_alloc HT.out _)
  have n_B9 : Aside0 (X8.heap[W7.heap.size]? = some (.cells #[.slice AQ0 q1.length cQ0, .slice AQ1 q2.length cQ1] 39 (0, 0))) := Aside0.mk (by rw [← hX]; exact blk_new _ _)
  have GB9 : Aside0 (w.heap.size ≤ W7.heap.size) := Aside0.mk (HT.out.size)
  have DB5_B9 : Aside0 (w.heap.size ≠ W7.heap.size) := Aside0.mk (Nat.ne_of_lt (blk_lt B5.out))
  have DB7_B9 : Aside0 (W5.heap.size ≠ W7.heap.size) := Aside0.mk (Nat.ne_of_lt (blk_lt B7.out))
  clear P0
  clear P1
  clear Q0
  clear Q1
  clear B5
  clear B7
  clear HT
  have P0 := n_P0
  clear n_P0
  have P1 := n_P1
  clear n_P1
  have Q0 := n_Q0
  clear n_Q0
  have Q1 := n_Q1
  clear n_Q1
  have B5 := n_B5
  clear n_B5
  have B7 := n_B7
  clear n_B7
  have B9 := n_B9
  clear n_B9
  have HT := n_HT
  clear n_HT
  clear hX
  go_upto_region 11 with (fail)
  generalize hX : World.alloc X8 (.cells #[.int .i64 (v.length : Int)] 3 (0, 0)) = X9
  have hs_X9 : X9.heap.size = X8.heap.size + 1 := by rw [← hX]; simp
  replace hs_X9 := Aside0.mk hs_X9
  have n_P0 : Aside0 (OI 3 X9 AP0 cP0 o1) := Aside0.mk (by rw [← hX]; exact OI.alloc P0.out _)
  have n_P1 : Aside0 (OI 2 X9 AP1 cP1 o2) := Aside0.mk (by rw [← hX]; exact OI.alloc P1.out _)
  have n_Q0 : Aside0 (OI 3 X9 AQ0 cQ0 q1) := Aside0.mk (by rw [← hX]; exact OI.alloc Q0.out _)
  have n_Q1 : Aside0 (OI 2 X9 AQ1 cQ1 q2) := Aside0.mk (by rw [← hX]; exact OI.alloc Q1.out _)
  have n_B5 : Aside0 (X9.heap[w.heap.size]? = some (.cells #[.slice A d.length c, .slice B v.length c'] 39 (0, 0))) := Aside0.mk (by rw [← hX]; exact blk_alloc B5.out _)
  have n_B7 : Aside0 (X9.heap[W5.heap.size]? = some (.cells #[.slice AP0 o1.length cP0, .slice AP1 o2.length cP1] 39 (0, 0))) := Aside0.mk (by rw [← hX]; exact blk_alloc B7.out _)
  have n_B9 : Aside0 (X9.heap[W7.heap.size]? = some (.cells #[.slice AQ0 q1.length cQ0, .slice AQ1 q2.length cQ1] 39 (0, 0))) := Aside0.mk (by rw [← hX]; exact blk_alloc B9.out _)
  have n_HT : Aside0 (Below w.heap.size w X9) := Aside0.mk (by rw [← hX]; exact below_alloc HT.out _)
  have n_BS : Aside0 (X9.heap[X8.heap.size]? = some (.cells #[.int .i64 (v.length : Int)] 3 (0, 0))) := Aside0.mk (by rw [← hX]; exact blk_new _ _)
  have GBS : Aside0 (w.heap.size ≤ X8.heap.size) := Aside0.mk (HT.out.size)
  have DB5_BS : Aside0 (w.heap.size ≠ X8.heap.size) := Aside0.mk (Nat.ne_of_lt (blk_lt B5.out))
  have DB7_BS : Aside0 (W5.heap.size ≠ X8.heap.size) := Aside0.mk (Nat.ne_of_lt (blk_lt B7.out))
  have DB9_BS : Aside0 (W7.heap.size ≠ X8.heap.size) := Aside0.mk (Nat.ne_of_lt (blk_lt B9.out))
  clear P0
  clear P1
  clear Q0
  clear Q1
  clear B5
  clear B7
  clear B9
  clear HT
  have P0 := n_P0
  clear n_P0
  have P1 := n_P1
  clear n_P1
  have Q0 := n_Q0
  clear n_Q0
  have Q1 := n_Q1
  clear n_Q1
  have B5 := n_B5
  clear n_B5
  have B7 := n_B7
  clear n_B7
  have B9 := n_B9
  clear n_B9
  have BS := n_BS
  clear n_BS
  have HT := n_HT
  clear n_HT
  clear hX
  generalize hX : World.alloc X9 (.cells #[.slice (some ⟨X8.heap.size, 0, none⟩) 1 1, .slice B v.length c'] 39 (0, 0)) = X10
  have hs_X10 : X10.heap.size = X9.heap.size + 1 := by rw [← hX]; simp
  replace hs_X10 := Aside0.mk hs_X10
  have ge_ : X9.heap.size = X8.heap.size + 1 := hs_X9.out
  have n_P0 : Aside0 (OI 3 X10 AP0 cP0 o1) := Aside0.mk (by rw [← hX]; exact OI.alloc P0.out _)
  have n_P1 : Aside0 (OI 2 X10 AP1 cP1 o2) := Aside0.mk (by rw [← hX]; exact OI.alloc P1.out _)
  have n_Q0 : Aside0 (OI 3 X10 AQ0 cQ0 q1) := Aside0.mk (by rw [← hX]; exact OI.alloc Q0.out _)
  have n_Q1 : Aside0 (OI 2 X10 AQ1 cQ1 q2) := Aside0.mk (by rw [← hX]; exact OI.alloc Q1.out _)
  have n_B5 : Aside0 (X10.heap[w.heap.size]? = some (.cells #[.slice A d.length c, .slice B v.length c'] 39 (0, 0))) := Aside0.mk (by rw [← hX]; exact blk_alloc B5.out _)
  have n_B7 : Aside0 (X10.heap[W5.heap.size]? = some (.cells #[.slice AP0 o1.length cP0, .slice AP1 o2.length cP1] 39 (0, 0))) := Aside0.mk (by rw [← hX]; exact blk_alloc B7.out _)
  have n_B9 : Aside0 (X10.heap[W7.heap.size]? = some (.cells #[.slice AQ0 q1.length cQ0, .slice AQ1 q2.length cQ1] 39 (0, 0))) := Aside0.mk (by rw [← hX]; exact blk_alloc B9.out _)
  have n_BS : Aside0 (X10.heap[X8.heap.size]? = some (.cells #[.int .i64 (v.length : Int)] 3 (0, 0))) := Aside0.mk (by rw [← hX]; exact blk_alloc BS.out _)
  have n_HT : Aside0 (Below w.heap.size w X10) := Aside0.mk (by rw [← hX]; exact below_alloc HT.out _)
  have n_B11 : Aside0 (X10.heap[X8.heap.size + 1]? = some (.cells #[.slice (some ⟨X8.heap.size, 0, none⟩) 1 1, .slice B v.length c'] 39 (0, 0))) := Aside0.mk (by rw [← hX, ← ge_]; exact blk_new _ _)
  have GB11 : Aside0 (w.heap.size ≤ X8.heap.size + 1) := Aside0.mk (by rw [← ge_]; exact HT.out.size)
  have DB5_B11 : Aside0 (w.heap.size ≠ X8.heap.size + 1) := Aside0.mk (by rw [← ge_]; exact Nat.ne_of_lt (blk_lt B5.out))
  have DB7_B11 : Aside0 (W5.heap.size ≠ X8.heap.size + 1) := Aside0.mk (by rw [← ge_]; exact Nat.ne_of_lt (blk_lt B7.out))
  have DB9_B11 : Aside0 (W7.heap.size ≠ X8.heap.size + 1) := Aside0.mk (by rw [← ge_]; exact Nat.ne_of_lt (blk_lt B9.out))
  have DBS_B11 : Aside0 (X8.heap.size ≠ X8.heap.size + 1) := Aside0.mk (by rw [← ge_]; exact Nat.ne_of_lt (blk_lt BS.out))
  clear P0
  clear P1
  clear Q0
  clear Q1
  clear B5
  clear B7
  clear B9
  clear BS
  clear HT
  clear ge_
  have P0 := n_P0
  clear n_P0
  have P1 := n_P1
  clear n_P1
  have Q0 := n_Q0
  clear n_Q0
  have Q1 := n_Q1
  clear n_Q1
  have B5 := n_B5
  clear n_B5
  have B7 := n_B7
  clear n_B7
  have B9 := n_B9
  clear n_B9
  have BS := n_BS
  clear n_BS
  have B11 := n_B11
  clear n_B11
  have HT := n_HT
  clear n_HT
  clear hX
  have hB5_0 : X10.cell? ⟨w.heap.size, 0, none⟩ = some (.slice A d.length c) := (blk_cell B5.out 0).trans rfl
  have hB5_1 : X10.cell? ⟨w.heap.size, 1, none⟩ = some (.slice B v.length c') := (blk_cell B5.out 1).trans rfl
  have hB5_f := fun j => blk_frozen B5.out j
  have hB7_0 : X10.cell? ⟨W5.heap.size, 0, none⟩ = some (.slice AP0 o1.length cP0) := (blk_cell B7.out 0).trans rfl
  have hB7_1 : X10.cell? ⟨W5.heap.size, 1, none⟩ = some (.slice AP1 o2.length cP1) := (blk_cell B7.out 1).trans rfl
  have hB7_f := fun j => blk_frozen B7.out j
  have hB9_0 : X10.cell? ⟨W7.heap.size, 0, none⟩ = some (.slice AQ0 q1.length cQ0) := (blk_cell B9.out 0).trans rfl
  have hB9_1 : X10.cell? ⟨W7.heap.size, 1, none⟩ = some (.slice AQ1 q2.length cQ1) := (blk_cell B9.out 1).trans rfl
  have hB9_f := fun j => blk_frozen B9.out j
  have hB11_0 : X10.cell? ⟨X8.heap.size + 1, 0, none⟩ = some (.slice (some ⟨X8.heap.size, 0, none⟩) 1 1) := (blk_cell B11.out 0).trans rfl
  have hB11_1 : X10.cell? ⟨X8.heap.size + 1, 1, none⟩ = some (.slice B v.length c') := (blk_cell B11.out 1).trans rfl
  have hB11_f := fun j => blk_frozen B11.out j
  go_wp2_with fail
  clear hB5_0 hB5_1 hB5_f hB7_0 hB7_1 hB7_f hB9_0 hB9_1 hB9_f hB11_0 hB11_1 hB11_f
  refine (riffleref03_Same.calls 1000 AP0 cP0 o1 AP1 cP1 o2 A c d B c' v true _ (OI.li P0.out).2 (OI.li P0.out).1 (OI.li P1.out).2 (OI.li P1.out).1 (HC.out.at HT.out).2 (HC.out.at HT.out).1 (HV.out.at HT.out).2 (HV.out.at HT.out).1 HP.out.2.2.2.2.1).mono ?_
  rintro e W11 ⟨rfl, HB⟩
  have n_P0 := Aside0.mk (OI.step P0.out HB)
  have n_P1 := Aside0.mk (OI.step P1.out HB)
  have n_Q0 := Aside0.mk (OI.step Q0.out HB)
  have n_Q1 := Aside0.mk (OI.step Q1.out HB)
  have n_B5 := Aside0.mk (blk_below B5.out HB)
  have n_B7 := Aside0.mk (blk_below B7.out HB)
  have n_B9 := Aside0.mk (blk_below B9.out HB)
  have n_BS := Aside0.mk (blk_below BS.out HB)
  have n_B11 := Aside0.mk (blk_below B11.out HB)
  have n_HT := Aside0.mk (below_step HT.out HB)
  clear P0
  have P0 := n_P0
  clear n_P0
  clear P1
  have P1 := n_P1
  clear n_P1
  clear Q0
  have Q0 := n_Q0
  clear n_Q0
  clear Q1
  have Q1 := n_Q1
  clear n_Q1
  clear B5
  have B5 := n_B5
  clear n_B5
  clear B7
  have B7 := n_B7
  clear n_B7
  clear B9
  have B9 := n_B9
  clear n_B9
  clear BS
  have BS := n_BS
  clear n_BS
  clear B11
  have B11 := n_B11
  clear n_B11
  clear HT
  have HT := n_HT
  clear n_HT
  clear HB
  have hB5_0 : W11.cell? ⟨w.heap.size, 0, none⟩ = some (.slice A d.length c) := (blk_cell B5.out 0).trans rfl
  have hB5_1 : W11.cell? ⟨w.heap.size, 1, none⟩ = some (.slice B v.length c') := (blk_cell B5.out 1).trans rfl
  have hB5_f := fun j => blk_frozen B5.out j
  have hB7_0 : W11.cell? ⟨W5.heap.size, 0, none⟩ = some (.slice AP0 o1.length cP0) := (blk_cell B7.out 0).trans rfl
  have hB7_1 : W11.cell? ⟨W5.heap.size, 1, none⟩ = some (.slice AP1 o2.length cP1) := (blk_cell B7.out 1).trans rfl
  have hB7_f := fun j => blk_frozen B7.out j
  have hB9_0 : W11.cell? ⟨W7.heap.size, 0, none⟩ = some (.slice AQ0 q1.length cQ0) := (blk_cell B9.out 0).trans rfl
  have hB9_1 : W11.cell? ⟨W7.heap.size, 1, none⟩ = some (.slice AQ1 q2.length cQ1) := (blk_cell B9.out 1).trans rfl
  have hB9_f := fun j => blk_frozen B9.out j
  have hB11_0 : W11.cell? ⟨X8.heap.size + 1, 0, none⟩ = some (.slice (some ⟨X8.heap.size, 0, none⟩) 1 1) := (blk_cell B11.out 0).trans rfl
  have hB11_1 : W11.cell? ⟨X8.heap.size + 1, 1, none⟩ = some (.slice B v.length c') := (blk_cell B11.out 1).trans rfl
  have hB11_f := fun j => blk_frozen B11.out j
  go_wp2_with fail
  clear hB5_0 hB5_1 hB5_f hB7_0 hB7_1 hB7_f hB9_0 hB9_1 hB9_f hB11_0 hB11_1 hB11_f
  refine (riffleref03_Same.calls 1000 AQ0 cQ0 q1 AQ1 cQ1 q2 (some ⟨X8.heap.size, 0, none⟩) 1 [(v.length : Int)] B c' v true _ (OI.li Q0.out).2 (OI.li Q0.out).1 (OI.li Q1.out).2 (OI.li Q1.out).1 (LI.one BS.out).2 (LI.one BS.out).1 (HV.out.at HT.out).2 (HV.out.at HT.out).1 HP.out.2.2.2.2.2.1).mono ?_
  rintro e W12 ⟨rfl, HB⟩
  have n_P0 := Aside0.mk (OI.step P0.out HB)
  have n_P1 := Aside0.mk (OI.step P1.out HB)
  have n_Q0 := Aside0.mk (OI.step Q0.out HB)
  have n_Q1 := Aside0.mk (OI.step Q1.out HB)
  have n_B5 := Aside0.mk (blk_below B5.out HB)
  have n_B7 := Aside0.mk (blk_below B7.out HB)
  have n_B9 := Aside0.mk (blk_below B9.out HB)
  have n_BS := Aside0.mk (blk_below BS.out HB)
  have n_B11 := Aside0.mk (blk_below B11.out HB)
  have n_HT := Aside0.mk (below_step HT.out HB)
  clear P0
  have P0 := n_P0
  clear n_P0
  clear P1
  have P1 := n_P1
  clear n_P1
  clear Q0
  have Q0 := n_Q0
  clear n_Q0
  clear Q1
  have Q1 := n_Q1
  clear n_Q1
  clear B5
  have B5 := n_B5
  clear n_B5
  clear B7
  have B7 := n_B7
  clear n_B7
  clear B9
  have B9 := n_B9
  clear n_B9
  clear BS
  have BS := n_BS
  clear n_BS
  clear B11
  have B11 := n_B11
  clear n_B11
  clear HT
  have HT := n_HT
  clear n_HT
  clear HB
  go_wp2_with fail
  refine (cell_Zero.calls A c d z1 z2 _ (HC.out.at HT.out).2 (HC.out.at HT.out).1 HP.out.2.2.2.2.2.2.1).mono ?_
  rintro e W13 ⟨vS0, vS1, rfl, hS0, hS1, HB⟩
  have n_P0 := Aside0.mk (OI.step P0.out HB)
  have n_P1 := Aside0.mk (OI.step P1.out HB)
  have n_Q0 := Aside0.mk (OI.step Q0.out HB)
  have n_Q1 := Aside0.mk (OI.step Q1.out HB)
  have n_B5 := Aside0.mk (blk_below B5.out HB)
  have n_B7 := Aside0.mk (blk_below B7.out HB)
  have n_B9 := Aside0.mk (blk_below B9.out HB)
  have n_BS := Aside0.mk (blk_below BS.out HB)
  have n_B11 := Aside0.mk (blk_below B11.out HB)
  have n_HT := Aside0.mk (below_step HT.out HB)
  clear P0
  have P0 := n_P0
  clear n_P0
  clear P1
  have P1 := n_P1
  clear n_P1
  clear Q0
  have Q0 := n_Q0
  clear n_Q0
  clear Q1
  have Q1 := n_Q1
  clear n_Q1
  clear B5
  have B5 := n_B5
  clear n_B5
  clear B7
  have B7 := n_B7
  clear n_B7
  clear B9
  have B9 := n_B9
  clear n_B9
  clear BS
  have BS := n_BS
  clear n_BS
  clear B11
  have B11 := n_B11
  clear n_B11
  clear HT
  have HT := n_HT
  clear n_HT
  clear HB
  obtain ⟨AS0, cS0, rfl⟩ := Kd.R_slice hS0
  have S0 : Aside0 (OI 3 W13 AS0 cS0 z1) := Aside0.mk (OI.of hS0)
  clear hS0
  obtain ⟨AS1, cS1, rfl⟩ := Kd.R_slice hS1
  have S1 : Aside0 (OI 2 W13 AS1 cS1 z2) := Aside0.mk (OI.of hS1)
  clear hS1
  go_wp2_with fail
  refine (riffleref03_Zero.calls 1000 A c d z1 z2 _ (HC.out.at HT.out).2 (HC.out.at HT.out).1 HP.out.2.2.2.2.2.2.2.1).mono ?_
  rintro e W14 ⟨vT0, vT1, rfl, hT0, hT1, HB⟩
  have n_P0 := Aside0.mk (OI.step P0.out HB)
  have n_P1 := Aside0.mk (OI.step P1.out HB)
  have n_Q0 := Aside0.mk (OI.step Q0.out HB)
  have n_Q1 := Aside0.mk (OI.step Q1.out HB)
  have n_S0 := Aside0.mk (OI.step S0.out HB)
  have n_S1 := Aside0.mk (OI.step S1.out HB)
  have n_B5 := Aside0.mk (blk_below B5.out HB)
  have n_B7 := Aside0.mk (blk_below B7.out HB)
  have n_B9 := Aside0.mk (blk_below B9.out HB)
  have n_BS := Aside0.mk (blk_below BS.out HB)
  have n_B11 := Aside0.mk (blk_below B11.out HB)
  have n_HT := Aside0.mk (below_step HT.out HB)
  clear P0
  have P0 := n_P0
  clear n_P0
  clear P1
  have P1 := n_P1
  clear n_P1
  clear Q0
  have Q0 := n_Q0
  clear n_Q0
  clear Q1
  have Q1 := n_Q1
  clear n_Q1
  clear S0
  have S0 := n_S0
  clear n_S0
  clear S1
  have S1 := n_S1
  clear n_S1
  clear B5
  have B5 := n_B5
  clear n_B5
  clear B7
  have B7 := n_B7
  clear n_B7
  clear B9
  have B9 := n_B9
  clear n_B9
  clear BS
  have BS := n_BS
  clear n_BS
  clear B11
  have B11 := n_B11
  clear n_B11
  clear HT
  have HT := n_HT
  clear n_HT
  clear HB
  obtain ⟨AT0, cT0, rfl⟩ := Kd.R_slice hT0
  have T0 : Aside0 (OI 3 W14 AT0 cT0 z1) := Aside0.mk (OI.of hT0)
  clear hT0
  obtain ⟨AT1, cT1, rfl⟩ := Kd.R_slice hT1
  have T1 : Aside0 (OI 2 W14 AT1 cT1 z2) := Aside0.mk (OI.of hT1)
  clear hT1
  go_wp2_with fail
  refine (riffleref03_Same.calls 1000 AS0 cS0 z1 AS1 cS1 z2 AT0 cT0 z1 AT1 cT1 z2 true _ (OI.li S0.out).2 (OI.li S0.out).1 (OI.li S1.out).2 (OI.li S1.out).1 (OI.li T0.out).2 (OI.li T0.out).1 (OI.li T1.out).2 (OI.li T1.out).1 HP.out.2.2.2.2.2.2.2.2.1).mono ?_
  rintro e W15 ⟨rfl, HB⟩
  have n_P0 := Aside0.mk (OI.step P0.out HB)
  have n_P1 := Aside0.mk (OI.step P1.out HB)
  have n_Q0 := Aside0.mk (OI.step Q0.out HB)
  have n_Q1 := Aside0.mk (OI.step Q1.out HB)
  have n_S0 := Aside0.mk (OI.step S0.out HB)
  have n_S1 := Aside0.mk (OI.step S1.out HB)
  have n_T0 := Aside0.mk (OI.step T0.out HB)
  have n_T1 := Aside0.mk (OI.step T1.out HB)
  have n_B5 := Aside0.mk (blk_below B5.out HB)
  have n_B7 := Aside0.mk (blk_below B7.out HB)
  have n_B9 := Aside0.mk (blk_below B9.out HB)
  have n_BS := Aside0.mk (blk_below BS.out HB)
  have n_B11 := Aside0.mk (blk_below B11.out HB)
  have n_HT := Aside0.mk (below_step HT.out HB)
  clear P0
  have P0 := n_P0
  clear n_P0
  clear P1
  have P1 := n_P1
  clear n_P1
  clear Q0
  have Q0 := n_Q0
  clear n_Q0
  clear Q1
  have Q1 := n_Q1
  clear n_Q1
  clear S0
  have S0 := n_S0
  clear n_S0
  clear S1
  have S1 := n_S1
  clear n_S1
  clear T0
  have T0 := n_T0
  clear n_T0
  clear T1
  have T1 := n_T1
  clear n_T1
  clear B5
  have B5 := n_B5
  clear n_B5
  clear B7
  have B7 := n_B7
  clear n_B7
  clear B9
  have B9 := n_B9
  clear n_B9
  clear BS
  have BS := n_BS
  clear n_BS
  clear B11
  have B11 := n_B11
  clear n_B11
  clear HT
  have HT := n_HT
  clear n_HT
  clear HB
  go_wp2_with fail
  refine (cell_Scalar.calls (d.length : Int) y1 y2 _ HP.out.2.2.2.2.2.2.2.2.2.1).mono ?_
  rintro e W16 ⟨vU0, vU1, rfl, hU0, hU1, HB⟩
  have n_P0 := Aside0.mk (OI.step P0.out HB)
  have n_P1 := Aside0.mk (OI.step P1.out HB)
  have n_Q0 := Aside0.mk (OI.step Q0.out HB)
  have n_Q1 := Aside0.mk (OI.step Q1.out HB)
  have n_S0 := Aside0.mk (OI.step S0.out HB)
  have n_S1 := Aside0.mk (OI.step S1.out HB)
  have n_T0 := Aside0.mk (OI.step T0.out HB)
  have n_T1 := Aside0.mk (OI.step T1.out HB)
  have n_B5 := Aside0.mk (blk_below B5.out HB)
  have n_B7 := Aside0.mk (blk_below B7.out HB)
  have n_B9 := Aside0.mk (blk_below B9.out HB)
  have n_BS := Aside0.mk (blk_below BS.out HB)
  have n_B11 := Aside0.mk (blk_below B11.out HB)
  have n_HT := Aside0.mk (below_step HT.out HB)
  clear P0
  have P0 := n_P0
  clear n_P0
  clear P1
  have P1 := n_P1
  clear n_P1
  clear Q0
  have Q0 := n_Q0
  clear n_Q0
  clear Q1
  have Q1 := n_Q1
  clear n_Q1
  clear S0
  have S0 := n_S0
  clear n_S0
  clear S1
  have S1 := n_S1
  clear n_S1
  clear T0
  have T0 := n_T0
  clear n_T0
  clear T1
  have T1 := n_T1
  clear n_T1
  clear B5
  have B5 := n_B5
  clear n_B5
  clear B7
  have B7 := n_B7
  clear n_B7
  clear B9
  have B9 := n_B9
  clear n_B9
  clear BS
  have BS := n_BS
  clear n_BS
  clear B11
  have B11 := n_B11
  clear n_B11
  clear HT
  have HT := n_HT
  clear n_HT
  clear HB
  obtain ⟨AU0, cU0, rfl⟩ := Kd.R_slice hU0
  have U0 : Aside0 (OI 3 W16 AU0 cU0 y1) := Aside0.mk (OI.of hU0)
  clear hU0
  obtain ⟨AU1, cU1, rfl⟩ := Kd.R_slice hU1
  have U1 : Aside0 (OI 2 W16 AU1 cU1 y2) := Aside0.mk (OI.of hU1)
  clear hU1
  go_wp2_with fail
  refine (riffleref03_Scalar.calls (d.length : Int) y1 y2 _ HP.out.2.2.2.2.2.2.2.2.2.2.1).mono ?_
  rintro e W17 ⟨vY0, vY1, rfl, hY0, hY1, HB⟩
  have n_P0 := Aside0.mk (OI.step P0.out HB)
  have n_P1 := Aside0.mk (OI.step P1.out HB)
  have n_Q0 := Aside0.mk (OI.step Q0.out HB)
  have n_Q1 := Aside0.mk (OI.step Q1.out HB)
  have n_S0 := Aside0.mk (OI.step S0.out HB)
  have n_S1 := Aside0.mk (OI.step S1.out HB)
  have n_T0 := Aside0.mk (OI.step T0.out HB)
  have n_T1 := Aside0.mk (OI.step T1.out HB)
  have n_U0 := Aside0.mk (OI.step U0.out HB)
  have n_U1 := Aside0.mk (OI.step U1.out HB)
  have n_B5 := Aside0.mk (blk_below B5.out HB)
  have n_B7 := Aside0.mk (blk_below B7.out HB)
  have n_B9 := Aside0.mk (blk_below B9.out HB)
  have n_BS := Aside0.mk (blk_below BS.out HB)
  have n_B11 := Aside0.mk (blk_below B11.out HB)
  have n_HT := Aside0.mk (below_step HT.out HB)
  clear P0
  have P0 := n_P0
  clear n_P0
  clear P1
  have P1 := n_P1
  clear n_P1
  clear Q0
  have Q0 := n_Q0
  clear n_Q0
  clear Q1
  have Q1 := n_Q1
  clear n_Q1
  clear S0
  have S0 := n_S0
  clear n_S0
  clear S1
  have S1 := n_S1
  clear n_S1
  clear T0
  have T0 := n_T0
  clear n_T0
  clear T1
  have T1 := n_T1
  clear n_T1
  clear U0
  have U0 := n_U0
  clear n_U0
  clear U1
  have U1 := n_U1
  clear n_U1
  clear B5
  have B5 := n_B5
  clear n_B5
  clear B7
  have B7 := n_B7
  clear n_B7
  clear B9
  have B9 := n_B9
  clear n_B9
  clear BS
  have BS := n_BS
  clear n_BS
  clear B11
  have B11 := n_B11
  clear n_B11
  clear HT
  have HT := n_HT
  clear n_HT
  clear HB
  obtain ⟨AY0, cY0, rfl⟩ := Kd.R_slice hY0
  have Y0 : Aside0 (OI 3 W17 AY0 cY0 y1) := Aside0.mk (OI.of hY0)
  clear hY0
  obtain ⟨AY1, cY1, rfl⟩ := Kd.R_slice hY1
  have Y1 : Aside0 (OI 2 W17 AY1 cY1 y2) := Aside0.mk (OI.of hY1)
  clear hY1
  go_wp2_with fail
  refine (riffleref03_Same.calls 1000 AU0 cU0 y1 AU1 cU1 y2 AY0 cY0 y1 AY1 cY1 y2 true _ (OI.li U0.out).2 (OI.li U0.out).1 (OI.li U1.out).2 (OI.li U1.out).1 (OI.li Y0.out).2 (OI.li Y0.out).1 (OI.li Y1.out).2 (OI.li Y1.out).1 HP.out.2.2.2.2.2.2.2.2.2.2.2.1).mono ?_
  rintro e W18 ⟨rfl, HB⟩
  have n_P0 := Aside0.mk (OI.step P0.out HB)
  have n_P1 := Aside0.mk (OI.step P1.out HB)
  have n_Q0 := Aside0.mk (OI.step Q0.out HB)
  have n_Q1 := Aside0.mk (OI.step Q1.out HB)
  have n_S0 := Aside0.mk (OI.step S0.out HB)
  have n_S1 := Aside0.mk (OI.step S1.out HB)
  have n_T0 := Aside0.mk (OI.step T0.out HB)
  have n_T1 := Aside0.mk (OI.step T1.out HB)
  have n_U0 := Aside0.mk (OI.step U0.out HB)
  have n_U1 := Aside0.mk (OI.step U1.out HB)
  have n_Y0 := Aside0.mk (OI.step Y0.out HB)
  have n_Y1 := Aside0.mk (OI.step Y1.out HB)
  have n_B5 := Aside0.mk (blk_below B5.out HB)
  have n_B7 := Aside0.mk (blk_below B7.out HB)
  have n_B9 := Aside0.mk (blk_below B9.out HB)
  have n_BS := Aside0.mk (blk_below BS.out HB)
  have n_B11 := Aside0.mk (blk_below B11.out HB)
  have n_HT := Aside0.mk (below_step HT.out HB)
  clear P0
  have P0 := n_P0
  clear n_P0
  clear P1
  have P1 := n_P1
  clear n_P1
  clear Q0
  have Q0 := n_Q0
  clear n_Q0
  clear Q1
  have Q1 := n_Q1
  clear n_Q1
  clear S0
  have S0 := n_S0
  clear n_S0
  clear S1
  have S1 := n_S1
  clear n_S1
  clear T0
  have T0 := n_T0
  clear n_T0
  clear T1
  have T1 := n_T1
  clear n_T1
  clear U0
  have U0 := n_U0
  clear n_U0
  clear U1
  have U1 := n_U1
  clear n_U1
  clear Y0
  have Y0 := n_Y0
  clear n_Y0
  clear Y1
  have Y1 := n_Y1
  clear n_Y1
  clear B5
  have B5 := n_B5
  clear n_B5
  clear B7
  have B7 := n_B7
  clear n_B7
  clear B9
  have B9 := n_B9
  clear n_B9
  clear BS
  have BS := n_BS
  clear n_BS
  clear B11
  have B11 := n_B11
  clear n_B11
  clear HT
  have HT := n_HT
  clear n_HT
  clear HB
  go_wp2_with fail
  refine (rifflelaw03_lives.calls 1000 true _ HP.out.2.2.2.2.2.2.2.2.2.2.2.2).mono ?_
  rintro e W19 ⟨rfl, HB⟩
  have n_P0 := Aside0.mk (OI.step P0.out HB)
  have n_P1 := Aside0.mk (OI.step P1.out HB)
  have n_Q0 := Aside0.mk (OI.step Q0.out HB)
  have n_Q1 := Aside0.mk (OI.step Q1.out HB)
  have n_S0 := Aside0.mk (OI.step S0.out HB)
  have n_S1 := Aside0.mk (OI.step S1.out HB)
  have n_T0 := Aside0.mk (OI.step T0.out HB)
  have n_T1 := Aside0.mk (OI.step T1.out HB)
  have n_U0 := Aside0.mk (OI.step U0.out HB)
  have n_U1 := Aside0.mk (OI.step U1.out HB)
  have n_Y0 := Aside0.mk (OI.step Y0.out HB)
  have n_Y1 := Aside0.mk (OI.step Y1.out HB)
  have n_B5 := Aside0.mk (blk_below B5.out HB)
  have n_B7 := Aside0.mk (blk_below B7.out HB)
  have n_B9 := Aside0.mk (blk_below B9.out HB)
  have n_BS := Aside0.mk (blk_below BS.out HB)
  have n_B11 := Aside0.mk (blk_below B11.out HB)
  have n_HT := Aside0.mk (below_step HT.out HB)
  clear P0
  have P0 := n_P0
  clear n_P0
  clear P1
  have P1 := n_P1
  clear n_P1
  clear Q0
  have Q0 := n_Q0
  clear n_Q0
  clear Q1
  have Q1 := n_Q1
  clear n_Q1
  clear S0
  have S0 := n_S0
  clear n_S0
  clear S1
  have S1 := n_S1
  clear n_S1
  clear T0
  have T0 := n_T0
  clear n_T0
  clear T1
  have T1 := n_T1
  clear n_T1
  clear U0
  have U0 := n_U0
  clear n_U0
  clear U1
  have U1 := n_U1
  clear n_U1
  clear Y0
  have Y0 := n_Y0
  clear n_Y0
  clear Y1
  have Y1 := n_Y1
  clear n_Y1
  clear B5
  have B5 := n_B5
  clear n_B5
  clear B7
  have B7 := n_B7
  clear n_B7
  clear B9
  have B9 := n_B9
  clear n_B9
  clear BS
  have BS := n_BS
  clear n_BS
  clear B11
  have B11 := n_B11
  clear n_B11
  clear HT
  have HT := n_HT
  clear n_HT
  clear HB
  go_wp2
  go_ret
  exact ⟨rfl, HT.out⟩
theorem makes_big (w : World) (A : Option Addr) (c : Nat) (d : List Int) (B : Option Addr) (c' : Nat) (v : List Int) (h : 10 < d.length ∨ 200 < v.length) :
    Calls Try.prog 7 #[.slice A d.length c, .slice B v.length c'] w fun e w' => e = .returned (.bool true) ∧ Below w.heap.size w w' := by
  have hlv := Aside0.mk (Pure.lives03_at (k := 1000) (by omega))
  by_cases h1 : 10 < (d.length : Int)
  · go_enter Try.func7, Try.ntmps7
    go_wp2_with fail
    refine (rifflelaw03_lives.calls 1000 true _ hlv.out).mono ?_
    rintro e w10 ⟨rfl, HB⟩
    go_wp2
    go_ret
    exact ⟨rfl, HB⟩
  · have h2 : 200 < (v.length : Int) := by omega
    go_enter Try.func7, Try.ntmps7
    go_wp2_with fail
    refine (rifflelaw03_lives.calls 1000 true _ hlv.out).mono ?_
    rintro e w10 ⟨rfl, HB⟩
    go_wp2
    go_ret
    exact ⟨rfl, HB⟩
theorem cellMakes (w : World) (A : Option Addr) (c : Nat) (d : List Int) (hl : d.length ≤ c) (hC : (Kd.int .i64).C w A d.length d) (_hw : ∀ x ∈ d, I64wf x) (B : Option Addr) (c' : Nat) (v : List Int) (hl' : v.length ≤ c') (hC' : (Kd.int .i64).C w B v.length v) (_hw' : ∀ x ∈ v, I64wf x) :
    Calls Try.prog 7 #[.slice A d.length c, .slice B v.length c'] w fun e w' => e = .returned (.bool true) ∧ Below w.heap.size w w' := by
  by_cases hb : 10 < d.length ∨ 200 < v.length
  · exact makes_big w A c d B c' v hb
  · have HC : Aside0 (LI w A c d) := ⟨hl, hC⟩
    have HV : Aside0 (LI w B c' v) := ⟨hl', hC'⟩
    have e1 := Pure.refRight_eq d 1000 (by omega)
    have e2 := Pure.refSize_eq d 1000 (by omega)
    have e3 := Pure.of_eq d v (by omega)
    have e4 := Pure.list_eq v (by omega)
    have e7 := Pure.zero_eq d
    have e8 := Pure.rZero_eq d (by omega) 1000 (by omega)
    have hz1 : (Pure.zeroF d).1.length ≤ 64 ∧ (Pure.zeroF d).2.length ≤ 64 := by
      unfold Pure.zeroF
      have := Pure.size_nonneg d
      split
      · rename_i hr; have := (Pure.rightB_ok hr).1; simp; omega
      · simp
    have e9 := Pure.rSame_self (Pure.zeroF d).1 (Pure.zeroF d).2 (by omega) (by omega) 1000 (by omega)
    have e10 : cell_Scalar.f (d.length : Int) = some ([], [(d.length : Int)]) := rfl
    have e11 : riffleref03_Scalar.f (d.length : Int) = some ([], [(d.length : Int)]) := rfl
    have e12 := Pure.rSame_self [] [(d.length : Int)] (by simp) (by simp) 1000 (by simp)
    have e13 := Pure.lives03_at (k := 1000) (by omega)
    have s0 := Pure.rSame_self [] [] (by simp) (by simp) 1000 (by simp)
    have s1 := Pure.rSame_self d v (by omega) (by omega) 1000 (by omega)
    have s2 := Pure.rSame_self [(v.length : Int)] v (by simp) (by omega) 1000 (by simp; omega)
    have g1 : ¬ (10 < (d.length : Int)) := by omega
    have g2 : ¬ (200 < (v.length : Int)) := by omega
    by_cases g3 : 64 < (v.length : Int)
    · rw [if_pos g3] at e4
      by_cases hr : rightB d = true
      · have hne : ¬ (v.length : Int) = sizeF d := by have := Pure.size_nonneg d; omega
        rw [if_pos hr, if_neg hne] at e3
        rw [hr] at e1
        exact makes_rb w A c d B c' v HC HV (sizeF d) _ _ _ _ _ _ _ _ g1 g2 g3 (by simpa using hne) ⟨e1, e2, e3, e4, s0, s0, e7, e8, e9, e10, e11, e12, e13⟩
      · rw [if_neg hr] at e3
        rw [Bool.eq_false_iff.2 hr] at e1
        exact makes_nb w A c d B c' v HC HV (sizeF d) _ _ _ _ _ _ _ _ g1 g2 g3 ⟨e1, e2, e3, e4, s0, s0, e7, e8, e9, e10, e11, e12, e13⟩
    · rw [if_neg g3] at e4
      by_cases hr : rightB d = true
      · rw [hr] at e1
        by_cases hne : (v.length : Int) = sizeF d
        · rw [if_pos hr, if_pos hne] at e3
          exact makes_rl w A c d B c' v HC HV (sizeF d) _ _ _ _ _ _ _ _ g1 g2 g3 (by simpa using hne) ⟨e1, e2, e3, e4, s1, s2, e7, e8, e9, e10, e11, e12, e13⟩
        · rw [if_pos hr, if_neg hne] at e3
          exact makes_r w A c d B c' v HC HV (sizeF d) _ _ _ _ _ _ _ _ g1 g2 g3 (by simpa using hne) ⟨e1, e2, e3, e4, s0, s2, e7, e8, e9, e10, e11, e12, e13⟩
      · rw [if_neg hr] at e3
        rw [Bool.eq_false_iff.2 hr] at e1
        exact makes_n w A c d B c' v HC HV (sizeF d) _ _ _ _ _ _ _ _ g1 g2 g3 ⟨e1, e2, e3, e4, s0, s2, e7, e8, e9, e10, e11, e12, e13⟩
end Go.Proofs.Ytmfgdgmpblkadaa.Laws
