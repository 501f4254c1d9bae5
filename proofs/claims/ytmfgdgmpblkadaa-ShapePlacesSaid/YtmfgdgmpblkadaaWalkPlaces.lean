/- ShapePlaces, walked by hand. No condition but that the arguments read. -/
import Derived.Test.YtmfgdgmpblkadaaPurePlaces3
import Derived.Test.YtmfgdgmpblkadaaPureShapeTells
import Derived.Test.YtmfgdgmpblkadaaPAllx4
import Derived.Test.YtmfgdgmpblkadaaOpen
set_option linter.unusedVariables false
set_option linter.unusedSimpArgs false
set_option maxHeartbeats 1600000
set_option maxRecDepth 100000
namespace Go.Proofs.Ytmfgdgmpblkadaa.Laws
open Go.RowKit Go.RK Go.RS Go.Proofs.Ytmfgdgmpblkadaa.PAll Go.Proofs.YtmfgdgmpblkadaaW.PrintWords

/-- what is read stays: a call by which nothing that was there turned -/
theorem cstep {α : Type} {d : Kd α} {W W2 : World} {A : Option Addr} {n : Nat} {xs : List α} (h : d.C W A n xs) (k : Below W.heap.size W W2) : d.C W2 A n xs := by
  first | exact Kd.C_below h k | exact h.below k


theorem places_small (w : World) (A : Option Addr) (c : Nat) (l : List Int) (hl : l.length ≤ c) (hC : (Kd.int .i64).C w A l.length l) (B : Option Addr) (c' : Nat) (m : List Int) (hl' : m.length ≤ c') (hC' : (Kd.int .i64).C w B m.length m) (i : Int) (h1 : l.length ≤ 100) (h2 : m.length ≤ 100) :
    Calls Try.prog 4 #[.slice A l.length c, .slice B m.length c', .int .i64 i] w fun e w' => e = .returned (.bool true) ∧ Below w.heap.size w w' := by
  have g1 : ¬ (100 < (l.length : Int)) := by omega
  have g2 : ¬ (100 < (m.length : Int)) := by omega
  have hPl := Pure.places_eq l (by omega) 1000 (by omega)
  have hlv := Aside0.mk (Pure.lives01_at (k := 1000) (by omega))
  have hx1 := Pure.index_eq l m 1000 (by omega)
  have hx2 := Pure.refIndex_eq l m (by omega) 1200 (by omega)
  have hst1 := Pure.strides_eq l 1000 (by omega)
  have hst2 := Pure.refStrides_eq l 1000 (by omega)
  have hpi := Pure.place_eq l i 1000 (by omega)
  generalize (if rightB l then indexF l m else -1) = x at hx1 hx2
  have hsl : (if rightB l = true then strL l else []).length ≤ 100 := by
    have : ∀ d : List Int, (strL d).length = d.length := by intro d; induction d with | nil => rfl | cons a d ih => simp [strL, ih]
    split
    · rw [this]; omega
    · simp
  generalize (if rightB l = true then strL l else []) = st at hst1 hst2 hsl
  have hwl : (if 0 ≤ i ∧ i < sizeF l then placeF l i else []).length ≤ 100 := by
    split
    · rw [placeF_length]; omega
    · simp
  have hSw := Pure.refSame_eq (if 0 ≤ i ∧ i < sizeF l then placeF l i else []) (if 0 ≤ i ∧ i < sizeF l then placeF l i else []) (by omega) 1000 (by omega)
  have hSs := Pure.refSame_eq st st (by omega) 1000 (by omega)
  have hpL := Pure.places_length l
  rw [decide_eq_true rfl] at hSw hSs
  replace hx1 := Aside0.mk hx1
  replace hx2 := Aside0.mk hx2
  have hSt1 := Aside0.mk hst1
  have hSt2 := Aside0.mk hst2
  replace hSs := Aside0.mk hSs
  clear hst1 hst2
  go_enter Try.func4, Try.ntmps4
  go_wp2_with fail
  refine (riffleref01_Places.calls 1000 A c l (placesF l) _ hC hl hPl).mono ?_
  rintro e w2 ⟨v2, rfl, HS, HB⟩
  obtain ⟨A2, c2, rfl⟩ := Kd.S_slice HS
  obtain ⟨_, hl2, hC2⟩ := Kd.S_reads' HS
  have HT := Aside0.mk HB
  replace hC := cstep hC HB
  replace hC' := cstep hC' HB
  clear HB HS hPl
  by_cases hi : 0 ≤ i ∧ i < sizeF l
  · have hq : i < ((placesF l).length : Int) := by rw [hpL]; exact hi.2
    have hpg := Pure.places_get l i.toNat (by omega)
    rw [Int.toNat_of_nonneg hi.1] at hpg
    obtain ⟨ad, Aw, cw, e2, hcell, hlw, hCw⟩ := at_L1 hC2 i hi.1 (by exact_mod_cast hq)
    subst e2
    rw [hpg] at hcell hlw hCw
    rw [if_pos hi] at hSw hpi hwl
    generalize placeF l i = want at *
    replace hSw := Aside0.mk hSw
    have hPi := Aside0.mk hpi
    have p1 := hi.1
    clear hpi hpg hpL hi hwl hsl h1 h2 hC2 hl2
    go_wp2_with fail
    refine (shape_Index.calls 1000 A c l B c' m x _ hC hl hC' hl' hx1.out).mono ?_
    rintro e w3 ⟨rfl, HB⟩
    replace hC := cstep hC HB
    replace hC' := cstep hC' HB
    replace hCw := cstep hCw HB
    have HT' := Aside0.mk (below_step HT.out HB)
    clear HT HB
    have HT := HT'
    clear HT'
    go_wp2_with fail
    refine (riffleref01_Index.calls 1200 A c l B c' m x _ hC hl hC' hl' hx2.out).mono ?_
    rintro e w4 ⟨rfl, HB⟩
    replace hC := cstep hC HB
    replace hC' := cstep hC' HB
    replace hCw := cstep hCw HB
    have HT' := Aside0.mk (below_step HT.out HB)
    clear HT HB
    have HT := HT'
    clear HT'
    go_wp2_with fail
    refine (shape_Place.calls 1000 A c l i want _ hC hl hPi.out).mono ?_
    rintro e w5 ⟨v5, rfl, HR5, HB⟩
    obtain ⟨A5, c5, rfl⟩ := Kd.R_slice HR5
    replace hC := cstep hC HB
    replace hC' := cstep hC' HB
    replace hCw := cstep hCw HB
    have HT' := Aside0.mk (below_step HT.out HB)
    clear HT HB
    have HT := HT'
    clear HT'
    obtain ⟨_, hl5, hC5⟩ := Kd.R_reads' HR5
    go_wp2_with fail
    refine (riffleref01_Same.calls 1000 A5 c5 want Aw cw want true _ hC5 hl5 hCw hlw hSw.out).mono ?_
    rintro e w6 ⟨rfl, HB0⟩
    have HB := HB0.below
    clear hC5 HR5 HB0
    replace hC := cstep hC HB
    replace hC' := cstep hC' HB
    replace hCw := cstep hCw HB
    have HT' := Aside0.mk (below_step HT.out HB)
    clear HT HB
    have HT := HT'
    clear HT'
    go_wp2_with fail
    refine (shape_Strides.calls 1000 A c l st _ hC hl hSt1.out).mono ?_
    rintro e w7 ⟨v7, rfl, HR7, HB⟩
    obtain ⟨A7, c7, rfl⟩ := Kd.R_slice HR7
    obtain ⟨_, hl7, hC7⟩ := Kd.R_reads' HR7
    replace hC := cstep hC HB
    replace hC' := cstep hC' HB
    replace hCw := cstep hCw HB
    have HT' := Aside0.mk (below_step HT.out HB)
    clear HT HB
    have HT := HT'
    clear HT'
    go_wp2_with fail
    refine (riffleref01_Strides.calls 1000 A c l st _ hC hl hSt2.out).mono ?_
    rintro e w8 ⟨v8, rfl, HR8, HB⟩
    obtain ⟨A8, c8, rfl⟩ := Kd.R_slice HR8
    obtain ⟨_, hl8, hC8⟩ := Kd.R_reads' HR8
    replace hC7 := cstep hC7 HB
    clear HR7 HR8
    replace hC := cstep hC HB
    replace hC' := cstep hC' HB
    replace hCw := cstep hCw HB
    have HT' := Aside0.mk (below_step HT.out HB)
    clear HT HB
    have HT := HT'
    clear HT'
    go_wp2_with fail
    refine (riffleref01_Same.calls 1000 A7 c7 st A8 c8 st true _ hC7 hl7 hC8 hl8 hSs.out).mono ?_
    rintro e w9 ⟨rfl, HB0⟩
    have HB := HB0.below
    clear hC7 hC8 HB0
    replace hC := cstep hC HB
    replace hC' := cstep hC' HB
    replace hCw := cstep hCw HB
    have HT' := Aside0.mk (below_step HT.out HB)
    clear HT HB
    have HT := HT'
    clear HT'
    go_wp2_with fail
    refine (rifflelaw01_lives.calls 1000 true _ hlv.out).mono ?_
    rintro e w10 ⟨rfl, HB⟩
    replace hC := cstep hC HB
    replace hC' := cstep hC' HB
    replace hCw := cstep hCw HB
    have HT' := Aside0.mk (below_step HT.out HB)
    clear HT HB
    have HT := HT'
    clear HT'
    go_wp2
    go_ret
    exact ⟨rfl, HT.out⟩
  · rw [if_neg hi] at hSw hpi hwl
    have hq : ¬ (0 ≤ i ∧ i < ((placesF l).length : Int)) := by rw [hpL]; exact hi
    have hCw := Kd.C_nil (Kd.int .i64) w2
    have hlw : ([] : List Int).length ≤ 0 := by simp
    replace hSw := Aside0.mk hSw
    have hPi := Aside0.mk hpi
    by_cases hn : 0 ≤ i
    · have hq2 : ((placesF l).length : Int) ≤ i := by omega
      clear hpi hpL hi hwl hsl h1 h2 hC2 hl2 hq
      go_wp2_with fail
      refine (shape_Index.calls 1000 A c l B c' m x _ hC hl hC' hl' hx1.out).mono ?_
      rintro e w3 ⟨rfl, HB⟩
      replace hC := cstep hC HB
      replace hC' := cstep hC' HB
      replace hCw := cstep hCw HB
      have HT' := Aside0.mk (below_step HT.out HB)
      clear HT HB
      have HT := HT'
      clear HT'
      go_wp2_with fail
      refine (riffleref01_Index.calls 1200 A c l B c' m x _ hC hl hC' hl' hx2.out).mono ?_
      rintro e w4 ⟨rfl, HB⟩
      replace hC := cstep hC HB
      replace hC' := cstep hC' HB
      replace hCw := cstep hCw HB
      have HT' := Aside0.mk (below_step HT.out HB)
      clear HT HB
      have HT := HT'
      clear HT'
      go_wp2_with fail
      refine (shape_Place.calls 1000 A c l i [] _ hC hl hPi.out).mono ?_
      rintro e w5 ⟨v5, rfl, HR5, HB⟩
      obtain ⟨A5, c5, rfl⟩ := Kd.R_slice HR5
      replace hC := cstep hC HB
      replace hC' := cstep hC' HB
      replace hCw := cstep hCw HB
      have HT' := Aside0.mk (below_step HT.out HB)
      clear HT HB
      have HT := HT'
      clear HT'
      obtain ⟨_, hl5, hC5⟩ := Kd.R_reads' HR5
      go_wp2_with fail
      refine (riffleref01_Same.calls 1000 A5 c5 [] none 0 [] true _ hC5 hl5 hCw hlw hSw.out).mono ?_
      rintro e w6 ⟨rfl, HB0⟩
      have HB := HB0.below
      clear hC5 HR5 HB0
      replace hC := cstep hC HB
      replace hC' := cstep hC' HB
      replace hCw := cstep hCw HB
      have HT' := Aside0.mk (below_step HT.out HB)
      clear HT HB
      have HT := HT'
      clear HT'
      go_wp2_with fail
      refine (shape_Strides.calls 1000 A c l st _ hC hl hSt1.out).mono ?_
      rintro e w7 ⟨v7, rfl, HR7, HB⟩
      obtain ⟨A7, c7, rfl⟩ := Kd.R_slice HR7
      obtain ⟨_, hl7, hC7⟩ := Kd.R_reads' HR7
      replace hC := cstep hC HB
      replace hC' := cstep hC' HB
      replace hCw := cstep hCw HB
      have HT' := Aside0.mk (below_step HT.out HB)
      clear HT HB
      have HT := HT'
      clear HT'
      go_wp2_with fail
      refine (riffleref01_Strides.calls 1000 A c l st _ hC hl hSt2.out).mono ?_
      rintro e w8 ⟨v8, rfl, HR8, HB⟩
      obtain ⟨A8, c8, rfl⟩ := Kd.R_slice HR8
      obtain ⟨_, hl8, hC8⟩ := Kd.R_reads' HR8
      replace hC7 := cstep hC7 HB
      clear HR7 HR8
      replace hC := cstep hC HB
      replace hC' := cstep hC' HB
      replace hCw := cstep hCw HB
      have HT' := Aside0.mk (below_step HT.out HB)
      clear HT HB
      have HT := HT'
      clear HT'
      go_wp2_with fail
      refine (riffleref01_Same.calls 1000 A7 c7 st A8 c8 st true _ hC7 hl7 hC8 hl8 hSs.out).mono ?_
      rintro e w9 ⟨rfl, HB0⟩
      have HB := HB0.below
      clear hC7 hC8 HB0
      replace hC := cstep hC HB
      replace hC' := cstep hC' HB
      replace hCw := cstep hCw HB
      have HT' := Aside0.mk (below_step HT.out HB)
      clear HT HB
      have HT := HT'
      clear HT'
      go_wp2_with fail
      refine (rifflelaw01_lives.calls 1000 true _ hlv.out).mono ?_
      rintro e w10 ⟨rfl, HB⟩
      replace hC := cstep hC HB
      replace hC' := cstep hC' HB
      replace hCw := cstep hCw HB
      have HT' := Aside0.mk (below_step HT.out HB)
      clear HT HB
      have HT := HT'
      clear HT'
      go_wp2
      go_ret
      exact ⟨rfl, HT.out⟩
    · have hn' : i < 0 := by omega
      clear hpi hpL hi hwl hsl h1 h2 hC2 hl2 hq
      go_wp2_with fail
      refine (shape_Index.calls 1000 A c l B c' m x _ hC hl hC' hl' hx1.out).mono ?_
      rintro e w3 ⟨rfl, HB⟩
      replace hC := cstep hC HB
      replace hC' := cstep hC' HB
      replace hCw := cstep hCw HB
      have HT' := Aside0.mk (below_step HT.out HB)
      clear HT HB
      have HT := HT'
      clear HT'
      go_wp2_with fail
      refine (riffleref01_Index.calls 1200 A c l B c' m x _ hC hl hC' hl' hx2.out).mono ?_
      rintro e w4 ⟨rfl, HB⟩
      replace hC := cstep hC HB
      replace hC' := cstep hC' HB
      replace hCw := cstep hCw HB
      have HT' := Aside0.mk (below_step HT.out HB)
      clear HT HB
      have HT := HT'
      clear HT'
      go_wp2_with fail
      refine (shape_Place.calls 1000 A c l i [] _ hC hl hPi.out).mono ?_
      rintro e w5 ⟨v5, rfl, HR5, HB⟩
      obtain ⟨A5, c5, rfl⟩ := Kd.R_slice HR5
      replace hC := cstep hC HB
      replace hC' := cstep hC' HB
      replace hCw := cstep hCw HB
      have HT' := Aside0.mk (below_step HT.out HB)
      clear HT HB
      have HT := HT'
      clear HT'
      obtain ⟨_, hl5, hC5⟩ := Kd.R_reads' HR5
      go_wp2_with fail
      refine (riffleref01_Same.calls 1000 A5 c5 [] none 0 [] true _ hC5 hl5 hCw hlw hSw.out).mono ?_
      rintro e w6 ⟨rfl, HB0⟩
      have HB := HB0.below
      clear hC5 HR5 HB0
      replace hC := cstep hC HB
      replace hC' := cstep hC' HB
      replace hCw := cstep hCw HB
      have HT' := Aside0.mk (below_step HT.out HB)
      clear HT HB
      have HT := HT'
      clear HT'
      go_wp2_with fail
      refine (shape_Strides.calls 1000 A c l st _ hC hl hSt1.out).mono ?_
      rintro e w7 ⟨v7, rfl, HR7, HB⟩
      obtain ⟨A7, c7, rfl⟩ := Kd.R_slice HR7
      obtain ⟨_, hl7, hC7⟩ := Kd.R_reads' HR7
      replace hC := cstep hC HB
      replace hC' := cstep hC' HB
      replace hCw := cstep hCw HB
      have HT' := Aside0.mk (below_step HT.out HB)
      clear HT HB
      have HT := HT'
      clear HT'
      go_wp2_with fail
      refine (riffleref01_Strides.calls 1000 A c l st _ hC hl hSt2.out).mono ?_
      rintro e w8 ⟨v8, rfl, HR8, HB⟩
      obtain ⟨A8, c8, rfl⟩ := Kd.R_slice HR8
      obtain ⟨_, hl8, hC8⟩ := Kd.R_reads' HR8
      replace hC7 := cstep hC7 HB
      clear HR7 HR8
      replace hC := cstep hC HB
      replace hC' := cstep hC' HB
      replace hCw := cstep hCw HB
      have HT' := Aside0.mk (below_step HT.out HB)
      clear HT HB
      have HT := HT'
      clear HT'
      go_wp2_with fail
      refine (riffleref01_Same.calls 1000 A7 c7 st A8 c8 st true _ hC7 hl7 hC8 hl8 hSs.out).mono ?_
      rintro e w9 ⟨rfl, HB0⟩
      have HB := HB0.below
      clear hC7 hC8 HB0
      replace hC := cstep hC HB
      replace hC' := cstep hC' HB
      replace hCw := cstep hCw HB
      have HT' := Aside0.mk (below_step HT.out HB)
      clear HT HB
      have HT := HT'
      clear HT'
      go_wp2_with fail
      refine (rifflelaw01_lives.calls 1000 true _ hlv.out).mono ?_
      rintro e w10 ⟨rfl, HB⟩
      replace hC := cstep hC HB
      replace hC' := cstep hC' HB
      replace hCw := cstep hCw HB
      have HT' := Aside0.mk (below_step HT.out HB)
      clear HT HB
      have HT := HT'
      clear HT'
      go_wp2
      go_ret
      exact ⟨rfl, HT.out⟩

theorem places_big (w : World) (A : Option Addr) (c : Nat) (l : List Int) (B : Option Addr) (c' : Nat) (m : List Int) (i : Int) (h : 100 < l.length ∨ 100 < m.length) :
    Calls Try.prog 4 #[.slice A l.length c, .slice B m.length c', .int .i64 i] w fun e w' => e = .returned (.bool true) ∧ Below w.heap.size w w' := by
  have hlv := Aside0.mk (Pure.lives01_at (k := 1000) (by omega))
  have HB0 := Below.refl w.heap.size w
  by_cases h1 : 100 < (l.length : Int)
  · go_enter Try.func4, Try.ntmps4
    go_wp2_with fail
    refine (rifflelaw01_lives.calls 1000 true _ hlv.out).mono ?_
    rintro e w10 ⟨rfl, HB⟩
    go_wp2
    go_ret
    exact ⟨rfl, HB⟩
  · have h2 : 100 < (m.length : Int) := by omega
    go_enter Try.func4, Try.ntmps4
    go_wp2_with fail
    refine (rifflelaw01_lives.calls 1000 true _ hlv.out).mono ?_
    rintro e w10 ⟨rfl, HB⟩
    go_wp2
    go_ret
    exact ⟨rfl, HB⟩

theorem shapePlaces (w : World) (A : Option Addr) (c : Nat) (l : List Int) (hl : l.length ≤ c) (hC : (Kd.int .i64).C w A l.length l) (_hw : ∀ x ∈ l, I64wf x) (B : Option Addr) (c' : Nat) (m : List Int) (hl' : m.length ≤ c') (hC' : (Kd.int .i64).C w B m.length m) (_hw' : ∀ x ∈ m, I64wf x) (i : Int) (_ : I64wf i) :
    Calls Try.prog 4 #[.slice A l.length c, .slice B m.length c', .int .i64 i] w fun e w' => e = .returned (.bool true) ∧ Below w.heap.size w w' := by
  by_cases h : 100 < l.length ∨ 100 < m.length
  · exact places_big w A c l B c' m i h
  · exact places_small w A c l hl hC B c' m hl' hC' i (by omega) (by omega)

end Go.Proofs.Ytmfgdgmpblkadaa.Laws
