/- ShapeMakes, walked by hand (an array parameter). No condition but that the arguments read. -/
import Derived.Test.YtmfgdgmpblkadaaPureMakes
import Derived.Test.YtmfgdgmpblkadaaPureShapeTells
import Derived.Test.YtmfgdgmpblkadaaOpen2
import Derived.Deep.RegionHeld3
set_option linter.unusedVariables false
set_option linter.unusedSimpArgs false
set_option maxHeartbeats 3200000
set_option maxRecDepth 100000
namespace Go.Proofs.Ytmfgdgmpblkadaa.Laws
open Go.RowKit Go.RK Go.RS Go.Proofs.Ytmfgdgmpblkadaa.PAll Go.Proofs.YtmfgdgmpblkadaaW.PrintWords

/-- what stays: the array in its box, all that was there, both lists -/
structure MH (w W : World) (x0 x1 : Int) (A : Option Addr) (l : List Int) (B : Option Addr) (m : List Int) : Prop where
  below : Below w.heap.size w W
  box : W.heap[w.heap.size]? = some (.cells #[.int .i64 x0, .int .i64 x1] 33 (0, 0))
  l : (Kd.int .i64).C W A l.length l
  m : (Kd.int .i64).C W B m.length m
section
variable {w W W2 : World} {x0 x1 : Int} {A B : Option Addr} {l m : List Int}
theorem MH.step (h : MH w W x0 x1 A l B m) (k : Below W.heap.size W W2) : MH w W2 x0 x1 A l B m :=
  ⟨below_step h.below k, blk_below h.box k, Kd.C_below h.l k, Kd.C_below h.m k⟩
theorem MH.drew (h : MH w W x0 x1 A l B m) : MH w W.drew x0 x1 A l B m := h.step (below_drew1 (Below.refl _ _))
theorem MH.drewN (h : MH w W x0 x1 A l B m) (n : Nat) : MH w (W.drewN n) x0 x1 A l B m := h.step (pw_below_drewN (Below.refl _ _) n)
theorem MH.start (hl : (Kd.int .i64).C w A l.length l) (hm : (Kd.int .i64).C w B m.length m) : MH w (w.alloc (.cells #[.int .i64 x0, .int .i64 x1] 33)) x0 x1 A l B m :=
  ⟨below_alloc (Below.refl _ _) _, blk_new _ _, Kd.C_alloc hl _, Kd.C_alloc hm _⟩
theorem MH.c0 (h : MH w W x0 x1 A l B m) : W.cell? ⟨w.heap.size, 0, none⟩ = some (.int .i64 x0) := (blk_cell h.box 0).trans rfl
theorem MH.c1 (h : MH w W x0 x1 A l B m) : W.cell? ⟨w.heap.size, 1, none⟩ = some (.int .i64 x1) := (blk_cell h.box 1).trans rfl
end
/-- a list made by a call, at a world -/
def LR (W : World) (A : Option Addr) (c : Nat) (xs : List Int) : Prop := xs.length ≤ c ∧ (Kd.int .i64).C W A xs.length xs
theorem LR.step {W W2 : World} {A : Option Addr} {c : Nat} {xs : List Int} (h : LR W A c xs) (k : Below W.heap.size W W2) : LR W2 A c xs := ⟨h.1, Kd.C_below h.2 k⟩
theorem LR.of {W : World} {A : Option Addr} {c b : Nat} {xs : List Int} {e : TypeId} {ok : Nat → Prop} (h : (Kd.int .i64).R e W b ok (.slice A xs.length c) xs) : LR W A c xs := ⟨(Kd.R_reads' h).2.1, (Kd.R_reads' h).2.2⟩

theorem makes_small (w : World) (A : Option Addr) (c : Nat) (l : List Int) (hl : l.length ≤ c) (hC : (Kd.int .i64).C w A l.length l) (B : Option Addr) (c' : Nat) (m : List Int) (hl' : m.length ≤ c') (hC' : (Kd.int .i64).C w B m.length m) (x0 x1 : Int) (h1 : l.length ≤ 100) (h2 : m.length ≤ 100) :
    Calls Try.prog 5 #[.slice A l.length c, .slice B m.length c', .agg #[.int .i64 x0, .int .i64 x1]] w fun e w' => e = .returned (.bool true) ∧ Below w.heap.size w w' := by
  have g1 : ¬ (100 < (l.length : Int)) := by omega
  have g2 : ¬ (100 < (m.length : Int)) := by omega
  have HM := Aside0.mk (MH.start (x0 := x0) (x1 := x1) hC hC')
  obtain ⟨a1, a2⟩ := Pure.without_eq l x0 (by omega) 1000 (by omega)
  obtain ⟨a3, a4⟩ := Pure.with_eq l x0 x1 (by omega) 1000 (by omega)
  have hwo := Pure.woF_length x0 l 0
  have hwi : (withF l x0 x1).length = l.length := by unfold withF; split <;> simp
  have s1 := Pure.refSame_eq (Pure.woF x0 l 0) (Pure.woF x0 l 0) (by omega) 1000 (by omega)
  have s2 := Pure.refSame_eq (withF l x0 x1) (withF l x0 x1) (by omega) 1000 (by omega)
  generalize Pure.woF x0 l 0 = wo at *
  generalize withF l x0 x1 = wi at *
  rw [decide_eq_true rfl] at s1 s2
  have HS := Aside0.mk (And.intro (And.intro a1 a2) (And.intro (And.intro a3 a4) (And.intro s1 s2)))
  have HL := Aside0.mk (And.intro hl hl')
  have t1 := Pure.turned_eq l (by omega) 1000 (by omega)
  have t2 := Pure.refTurned_eq l (by omega) 1000 (by omega)
  have s3 := Pure.refSame_eq l.reverse l.reverse (by simp; omega) 1000 (by simp; omega)
  have p1 := Pure.perm_eq m (by omega) 1000 (by omega)
  have p2 := Pure.refPerm_eq m (by omega) 30000 (by omega)
  generalize decide (Pure.permOk m) = pb at p1 p2
  obtain ⟨q, q0, q1, q2⟩ := Pure.picked_both l m h1 h2
  have s4 := Pure.refSame_eq q q (by omega) 1000 (by omega)
  rw [decide_eq_true rfl] at s3 s4
  generalize l.reverse = lr at *
  have lv := Pure.lives01_at (k := 1000) (by omega)
  have HP := Aside0.mk (And.intro (And.intro t1 t2) (And.intro (And.intro p1 p2) (And.intro (And.intro q1 q2) (And.intro s3 (And.intro s4 lv)))))
  clear a1 a2 a3 a4 s1 s2 s3 s4 t1 t2 p1 p2 q0 q1 q2 lv hwo hwi h1 h2 hC hC' hl hl'
  go_enter Try.func5, Try.ntmps5
  go_wp2_with fail
  go_region_held3 (fun w' => w'.cell? ⟨w.heap.size, 0, none⟩ = some (.int .i64 x0) ∧ w'.cell? ⟨w.heap.size, 1, none⟩ = some (.int .i64 x1)) (first | exact ⟨HM.out.c0, HM.out.c1⟩ | exact ⟨HM.out.drew.c0, HM.out.drew.c1⟩)
    (first
      | (go_at_call 50; refine (shape_Without.calls 1000 A c l x0 wo _ (by first | exact HM.out.l | exact HM.out.drew.l) HL.out.1 HS.out.1.1).mono ?_; rintro e W2 ⟨v, rfl, HR, HB⟩; obtain ⟨A5, c5, rfl⟩ := Kd.R_slice HR; have R1 := Aside0.mk (LR.of HR); replace HM := Aside0.mk (by first | exact HM.out.step HB | exact HM.out.drew.step HB : MH w W2 x0 x1 A l B m); clear HR HB)
      | (go_at_call 51; refine (riffleref01_Without.calls 1000 A c l x0 wo _ (by first | exact HM.out.l | exact HM.out.drew.l) HL.out.1 HS.out.1.2).mono ?_; rintro e W2 ⟨v, rfl, HR, HB⟩; obtain ⟨A6, c6, rfl⟩ := Kd.R_slice HR; have R2 := Aside0.mk (LR.of HR); replace HM := Aside0.mk (by first | exact HM.out.step HB | exact HM.out.drew.step HB : MH w W2 x0 x1 A l B m); replace R1 := Aside0.mk (LR.step R1.out HB); clear HR HB)
      | (go_at_call 43; refine (riffleref01_Same.calls 1000 _ _ wo _ _ wo true _ R1.out.2 R1.out.1 R2.out.2 R2.out.1 HS.out.2.2.1).mono ?_; rintro e W2 ⟨rfl, HB0⟩; have HB := HB0.below; replace HM := Aside0.mk (HM.out.step HB); clear HB HB0 R1 R2)
      | (go_at_call 52; refine (shape_With.calls A c l x0 x1 wi _ (by first | exact HM.out.l | exact HM.out.drew.l) HL.out.1 HS.out.2.1.1).mono ?_; rintro e W2 ⟨v, rfl, HR, HB⟩; obtain ⟨A7, c7, rfl⟩ := Kd.R_slice HR; have R3 := Aside0.mk (LR.of HR); replace HM := Aside0.mk (by first | exact HM.out.step HB | exact HM.out.drew.step HB : MH w W2 x0 x1 A l B m); clear HR HB)
      | (go_at_call 53; refine (riffleref01_With.calls 1000 A c l x0 x1 wi _ (by first | exact HM.out.l | exact HM.out.drew.l) HL.out.1 HS.out.2.1.2).mono ?_; rintro e W2 ⟨v, rfl, HR, HB⟩; obtain ⟨A8, c8, rfl⟩ := Kd.R_slice HR; have R4 := Aside0.mk (LR.of HR); replace HM := Aside0.mk (by first | exact HM.out.step HB | exact HM.out.drew.step HB : MH w W2 x0 x1 A l B m); replace R3 := Aside0.mk (LR.step R3.out HB); clear HR HB)
      | (go_at_call 43; refine (riffleref01_Same.calls 1000 _ _ wi _ _ wi true _ R3.out.2 R3.out.1 R4.out.2 R4.out.1 HS.out.2.2.2).mono ?_; rintro e W2 ⟨rfl, HB0⟩; have HB := HB0.below; replace HM := Aside0.mk (HM.out.step HB); clear HB HB0 R3 R4))
  rename_i hHeld
  clear hHeld
  go_wp2_with fail
  refine (shape_Turned.calls 1000 A c l lr _ HM.out.l HL.out.1 HP.out.1.1).mono ?_
  rintro e W2 ⟨v, rfl, HR, HB⟩
  obtain ⟨A9, c9, rfl⟩ := Kd.R_slice HR
  have R1 := Aside0.mk (LR.of HR)
  replace HM := Aside0.mk (HM.out.step HB)
  clear HR HB
  go_wp2_with fail
  refine (riffleref01_Turned.calls 1000 A c l lr _ HM.out.l HL.out.1 HP.out.1.2).mono ?_
  rintro e W2 ⟨v, rfl, HR, HB⟩
  obtain ⟨A10, c10, rfl⟩ := Kd.R_slice HR
  have R2 := Aside0.mk (LR.of HR)
  replace HM := Aside0.mk (HM.out.step HB)
  replace R1 := Aside0.mk (LR.step R1.out HB)
  clear HR HB
  go_wp2_with fail
  refine (riffleref01_Same.calls 1000 _ _ lr _ _ lr true _ R1.out.2 R1.out.1 R2.out.2 R2.out.1 HP.out.2.2.2.1).mono ?_
  rintro e W2 ⟨rfl, HB0⟩
  have HB := HB0.below
  replace HM := Aside0.mk (HM.out.step HB)
  clear HB HB0
  clear R1 R2
  go_wp2_with fail
  refine (shape_Perm.calls 1000 B c' m pb _ HM.out.m HL.out.2 HP.out.2.1.1).mono ?_
  rintro e W2 ⟨rfl, HB⟩
  replace HM := Aside0.mk (HM.out.step HB)
  clear HB
  go_wp2_with fail
  refine (riffleref01_Perm.calls 30000 B c' m pb _ HM.out.m HL.out.2 HP.out.2.1.2).mono ?_
  rintro e W2 ⟨rfl, HB0⟩
  have HB : Below _ _ _ := (by first | exact HB0 | exact HB0.below)
  replace HM := Aside0.mk (HM.out.step HB)
  clear HB
  go_wp2_with fail
  refine (shape_Picked.calls 30000 A c l B c' m q _ HM.out.l HL.out.1 HM.out.m HL.out.2 HP.out.2.2.1.1).mono ?_
  rintro e W2 ⟨v, rfl, HR, HB⟩
  obtain ⟨A11, c11, rfl⟩ := Kd.R_slice HR
  have R1 := Aside0.mk (LR.of HR)
  replace HM := Aside0.mk (HM.out.step HB)
  clear HR HB
  go_wp2_with fail
  refine (riffleref01_Picked.calls 30000 A c l B c' m q _ HM.out.l HL.out.1 HM.out.m HL.out.2 HP.out.2.2.1.2).mono ?_
  rintro e W2 ⟨v, rfl, HR, HB⟩
  obtain ⟨A12, c12, rfl⟩ := Kd.R_slice HR
  have R2 := Aside0.mk (LR.of HR)
  replace HM := Aside0.mk (HM.out.step HB)
  replace R1 := Aside0.mk (LR.step R1.out HB)
  clear HR HB
  go_wp2_with fail
  refine (riffleref01_Same.calls 1000 _ _ q _ _ q true _ R1.out.2 R1.out.1 R2.out.2 R2.out.1 HP.out.2.2.2.2.1).mono ?_
  rintro e W2 ⟨rfl, HB0⟩
  have HB := HB0.below
  replace HM := Aside0.mk (HM.out.step HB)
  clear HB HB0
  clear R1 R2
  go_wp2_with fail
  refine (rifflelaw01_lives.calls 1000 true _ HP.out.2.2.2.2.2).mono ?_
  rintro e W2 ⟨rfl, HB⟩
  replace HM := Aside0.mk (HM.out.step HB)
  clear HB
  go_wp2
  go_ret
  exact ⟨rfl, HM.out.below⟩

theorem makes_big (w : World) (A : Option Addr) (c : Nat) (l : List Int) (B : Option Addr) (c' : Nat) (m : List Int) (x0 x1 : Int) (h : 100 < l.length ∨ 100 < m.length) :
    Calls Try.prog 5 #[.slice A l.length c, .slice B m.length c', .agg #[.int .i64 x0, .int .i64 x1]] w fun e w' => e = .returned (.bool true) ∧ Below w.heap.size w w' := by
  have hlv := Aside0.mk (Pure.lives01_at (k := 1000) (by omega))
  have HB0 := Aside0.mk (below_alloc (Below.refl w.heap.size w) (.cells #[.int .i64 x0, .int .i64 x1] 33))
  by_cases h1 : 100 < (l.length : Int)
  · go_enter Try.func5, Try.ntmps5
    go_wp2_with fail
    refine (rifflelaw01_lives.calls 1000 true _ hlv.out).mono ?_
    rintro e w10 ⟨rfl, HB⟩
    replace HB := Aside0.mk (below_step HB0.out HB)
    go_wp2
    go_ret
    exact ⟨rfl, HB.out⟩
  · have h2 : 100 < (m.length : Int) := by omega
    go_enter Try.func5, Try.ntmps5
    go_wp2_with fail
    refine (rifflelaw01_lives.calls 1000 true _ hlv.out).mono ?_
    rintro e w10 ⟨rfl, HB⟩
    replace HB := Aside0.mk (below_step HB0.out HB)
    go_wp2
    go_ret
    exact ⟨rfl, HB.out⟩

theorem shapeMakes (w : World) (A : Option Addr) (c : Nat) (l : List Int) (hl : l.length ≤ c) (hC : (Kd.int .i64).C w A l.length l) (_hw : ∀ x ∈ l, I64wf x) (B : Option Addr) (c' : Nat) (m : List Int) (hl' : m.length ≤ c') (hC' : (Kd.int .i64).C w B m.length m) (_hw' : ∀ x ∈ m, I64wf x) (ds : Array Value) (y : Int × Int) (hy : (Kd.pair (Kd.int .i64) (Kd.int .i64)).K w y (Value.agg ds).cells.toList) (_ : I64wf y.1 ∧ I64wf y.2) :
    Calls Try.prog 5 #[.slice A l.length c, .slice B m.length c', .agg ds] w fun e w' => e = .returned (.bool true) ∧ Below w.heap.size w w' := by
  obtain rfl : ds = #[.int .i64 y.1, .int .i64 y.2] := by
    obtain ⟨a, b, e, ha, hb⟩ := hy
    have ha : a = [Value.int .i64 y.1] := ha
    have hb : b = [Value.int .i64 y.2] := hb
    subst ha hb
    cases ds; simp_all [Value.cells]
  by_cases h : 100 < l.length ∨ 100 < m.length
  · exact makes_big w A c l B c' m y.1 y.2 h
  · exact makes_small w A c l hl hC B c' m hl' hC' y.1 y.2 (by omega) (by omega)

end Go.Proofs.Ytmfgdgmpblkadaa.Laws
