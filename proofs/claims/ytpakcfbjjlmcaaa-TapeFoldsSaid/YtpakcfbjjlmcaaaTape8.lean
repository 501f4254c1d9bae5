/- Set of the document. No condition. -/
import Derived.Test.YtpakcfbjjlmcaaaTape6
set_option linter.unusedVariables false
set_option linter.unusedSimpArgs false
set_option maxHeartbeats 3200000
set_option maxRecDepth 100000
namespace Go.Proofs.Ytpakcfbjjlmcaaa.Tape
open Go.RowKit Go.RK Go.TP Go.Proofs.YtpakcfbjjlmcaaaW.PrintWords
open Go.Proofs.Ytpakcfbjjlmcaaa.PAll (S142 k142)
variable {W : World} {M Z : Nat → Prop} {g : Nat} {first width : Int} {v : Value} {X : List (List Int)}
theorem ref_set_off {A : Option Addr} {n c : Nat} (o : Int) (r : Value) (hi : ¬ (first ≤ o ∧ o ≤ n)) :
    Calls Try.prog 90 #[.agg #[.slice A n c, .int .i64 first, .int .i64 width], .int .i64 o, r] W fun e w' => e = .returned (.tuple #[.agg #[.slice A n c, .int .i64 first, .int .i64 width], .slice none 0 0, .int .i64 1]) ∧ Below W.heap.size W w' := by
  have H := Aside0.mk (((Cx.startz (W := W) (Z := fun _ => False) (Φ := HP.tt) trivial).alloc (.cells #[.slice A n c, .int .i64 first, .int .i64 width] 102 (0, 0))).alloc1 (.cells #[.slice none 0 0, .int .i64 0, .int .i64 0] 102 (0, 0)))
  have k0 := H.out.cell 0 rfl 0 rfl
  have k1 := H.out.cell 0 rfl 1 rfl
  have k2 := H.out.cell 0 rfl 2 rfl
  have r0 := H.out.cell 1 rfl 0 rfl
  have r1 := H.out.cell 1 rfl 1 rfl
  have r2 := H.out.cell 1 rfl 2 rfl
  have qf := fun j => H.out.unfrozen 1 rfl j
  have hu := Try.underlying102
  by_cases hlt : o < first
  · clear hi
    go_enter Try.func90, Try.ntmps90
    go_wp2
    have F := (((Cx.startz (W := W) (Z := fun _ => False) (Φ := HP.tt) trivial).alloc (.cells #[.slice A n c, .int .i64 first, .int .i64 width] 102 (0, 0))).alloc1 (.cells #[.slice A n c, .int .i64 first, .int .i64 width] 102 (0, 0)))
    exact bodyPost_ret (v := .tuple #[.agg #[.slice A n c, .int .i64 first, .int .i64 width], .slice none 0 0, .int .i64 1]) (by simp [results, Try.results90, go_sem, F.cell 1 rfl 0 rfl, F.cell 1 rfl 1 rfl, F.cell 1 rfl 2 rfl]) rfl ⟨rfl, F.below⟩
  · have hge : (n : Int) < o := by omega
    clear hi
    go_enter Try.func90, Try.ntmps90
    go_wp2
    have F := (((Cx.startz (W := W) (Z := fun _ => False) (Φ := HP.tt) trivial).alloc (.cells #[.slice A n c, .int .i64 first, .int .i64 width] 102 (0, 0))).alloc1 (.cells #[.slice A n c, .int .i64 first, .int .i64 width] 102 (0, 0)))
    exact bodyPost_ret (v := .tuple #[.agg #[.slice A n c, .int .i64 first, .int .i64 width], .slice none 0 0, .int .i64 1]) (by simp [results, Try.results90, go_sem, F.cell 1 rfl 0 rfl, F.cell 1 rfl 1 rfl, F.cell 1 rfl 2 rfl]) rfl ⟨rfl, F.below⟩
theorem ref_set_misfit {A A1 : Option Addr} {c c1 : Nat} {rows : List (List Int)} (o : Int) (hv : (HP.val KR (.slice A X.length c) X).at_ W Z) (hx : (HP.val KR (.slice A1 rows.length c1) rows).at_ W Z) (h1 : first ≤ o) (h2 : o ≤ X.length) (hrl : rows.length ≤ 10000) (hf : rows.all (fun r => decide ((r.length : Int) = width)) = false) :
    Calls Try.prog 90 #[.agg #[.slice A X.length c, .int .i64 first, .int .i64 width], .int .i64 o, .slice A1 rows.length c1] W fun e w' => e = .returned (.tuple #[.agg #[.slice A X.length c, .int .i64 first, .int .i64 width], .slice none 0 0, .int .i64 3]) ∧ Below W.heap.size W w' := by
  obtain ⟨Φ, hΦ⟩ : ∃ Φ : HP, Φ = (HP.val KR (.slice A X.length c) X).and (HP.val KR (.slice A1 rows.length c1) rows) := ⟨_, rfl⟩
  have H := Aside0.mk (((Cx.startz (W := W) (Z := Z) (Φ := Φ) (by rw [hΦ]; exact ⟨hv, hx⟩)).alloc (.cells #[.slice A X.length c, .int .i64 first, .int .i64 width] 102 (0, 0))).alloc1 (.cells #[.slice none 0 0, .int .i64 0, .int .i64 0] 102 (0, 0)))
  have hz0 := Aside0.mk (show ∀ w Z, Φ.at_ w Z → (HP.val KR (.slice A X.length c) X).at_ w Z from fun w Z h => by rw [hΦ] at h; exact h.1)
  have hz1 := Aside0.mk (show ∀ w Z, Φ.at_ w Z → (HP.val KR (.slice A1 rows.length c1) rows).at_ w Z from fun w Z h => by rw [hΦ] at h; exact h.2)
  have k0 := H.out.cell 0 rfl 0 rfl
  have k1 := H.out.cell 0 rfl 1 rfl
  have hu := Try.underlying102
  obtain ⟨b0, hb0⟩ : ∃ b, b = W.heap.size := ⟨_, rfl⟩
  obtain ⟨b1, hb1⟩ : ∃ b, b = W.heap.size + 1 := ⟨_, rfl⟩
  have hb01 : b0 ≠ b1 := by omega
  have H' : Aside0 (Cx (fun _ => False) Z W _ Φ [HP.blk b0 (.cells #[.slice A X.length c, .int .i64 first, .int .i64 width] 102 (0, 0)), HP.blk b1 (.cells #[.slice none 0 0, .int .i64 0, .int .i64 0] 102 (0, 0))]) := ⟨by rw [hb0, hb1]; exact H.out⟩
  replace hΦ := Lib.hid hΦ
  replace hf := Lib.hid hf
  clear hv hx
  go_enter Try.func90, Try.ntmps90
  go_wp2
  rw [← hb1, ← hb0] at *
  go_loopw [9] (fun i wr => ∃ j : Nat, j ≤ rows.length ∧ i = .int .i64 j ∧ Hid (∀ r ∈ rows.take j, (r.length : Int) = width) ∧ Aside0 (Cx (fun _ => False) Z W wr Φ [HP.blk b0 (.cells #[.slice A X.length c, .int .i64 first, .int .i64 width] 102 (0, 0)), HP.blk b1 (.cells #[.slice none 0 0, .int .i64 0, .int .i64 0] 102 (0, 0))])) (fun i _ => rows.length - (intOf i).toNat)
  case atStart => exact ⟨0, by omega, rfl, Lib.hid (by simp), H'⟩
  case round =>
    clear H H' k0 k1
    obtain ⟨j, hj, rfl, hfit, H⟩ := hrel
    by_cases hlt : j < rows.length
    · obtain ⟨Z1, hZ⟩ := H.out.now
      obtain ⟨rb, hrb⟩ : ∃ r, rows[j]? = some r := ⟨_, List.getElem?_eq_getElem (by omega)⟩
      obtain ⟨ad1, B1, d1, rfl, q1, hd1, hv1⟩ := row_len (HP.val_rd (hz1.out _ _ hZ)) hrb
      clear hv1 hZ
      have k2 := H.out.cell 0 rfl 2 rfl
      have hj0 : (0 : Int) ≤ j := by omega
      have hj2 : (j : Int) < rows.length := by omega
      by_cases hl : (rb.length : Int) = width
      · have hl' : ((rb.length : Int) == width) = true := by simpa using hl
        have hfit' : Hid (∀ r ∈ rows.take (j + 1), (r.length : Int) = width) := Lib.hid (by
          intro r hr
          rw [List.take_add_one, hrb] at hr
          rcases List.mem_append.1 hr with hr | hr
          · exact hfit.out r hr
          · rw [show r = rb by simpa using hr]; exact hl)
        replace hrb := Lib.hid hrb
        replace hl := Lib.hid hl
        go_wp2
        go_quiet (fail)
        go_wp2
        exact ⟨⟨j + 1, by omega, by go_num, hfit', ⟨H.out.drewN _⟩⟩, by simp [intOf]; omega⟩
      · have hl' : ((rb.length : Int) == width) = false := by simpa using hl
        have k0 := H.out.cell 0 rfl 0 rfl
        have k1 := H.out.cell 0 rfl 1 rfl
        have qf := fun j => H.out.unfrozen 1 rfl j
        have r0 := H.out.cell 1 rfl 0 rfl
        have r1 := H.out.cell 1 rfl 1 rfl
        have r2 := H.out.cell 1 rfl 2 rfl
        replace hrb := Lib.hid hrb
        replace hl := Lib.hid hl
        go_wp2
        go_quiet (fail)
        go_wp2
        have F := (((H.out.drewN nq).put 1 rfl 0 (.slice A X.length c)).put 1 rfl 1 (.int .i64 first)).put 1 rfl 2 (.int .i64 width)
        exact bodyPost_ret (v := .tuple #[.agg #[.slice A X.length c, .int .i64 first, .int .i64 width], .slice none 0 0, .int .i64 3]) (by simp [results, Try.results90, go_sem, F.cell 1 rfl 0 rfl, F.cell 1 rfl 1 rfl, F.cell 1 rfl 2 rfl]) rfl ⟨rfl, F.below⟩
    · obtain rfl : j = rows.length := by omega
      have hj2 : ¬ (rows.length : Int) < rows.length := by omega
      exfalso
      rw [List.take_length] at hfit
      rw [List.all_eq_true.2 (fun r hr => by simpa using hfit.out r hr)] at hf
      exact Bool.noConfusion hf.out
theorem cells_more {M0 Z0 : Nat → Prop} {W0 w : World} {Φ : HP} {Ψs : List HP} {A : Option Addr} {c : Nat} {L : List (List Int)} (h : Cx M0 Z0 W0 w Φ Ψs) (hz : ∀ Z, Φ.at_ w Z → (HP.val KR (.slice A L.length c) L).at_ w Z) : ∃ cs : List Value, (cs.length = L.length ∧ (∀ u ∈ cs, u.oneCell' = true) ∧ (0 < L.length → ∃ ad, A = some ad ∧ ∀ j u, cs[j]? = some u → w.cell? (ad.add j) = some u)) ∧ Cx M0 Z0 W0 w (Φ.and (HP.reps KR L cs)) Ψs :=
  h.more (fun Z hz' => by
    obtain ⟨cs, h1, h2, h3, h4⟩ := rd_cells (d := KR) rfl (HP.val_rd (hz Z hz'))
    exact ⟨cs, ⟨h1, h3, h4⟩, h2⟩)
theorem ref_set_ok {A A1 : Option Addr} {c c1 : Nat} {rows : List (List Int)} (o : Nat) (hv : (HP.val KR (.slice A X.length c) X).at_ W Z) (hx : (HP.val KR (.slice A1 rows.length c1) rows).at_ W Z) (h1 : first ≤ o) (h2 : (o : Int) ≤ X.length) (hXl : X.length ≤ 10000) (hrl : rows.length ≤ 10000) (hr0 : ∀ r ∈ X, r.length ≤ 100000) (hr1 : ∀ r ∈ rows, r.length ≤ 100000) (hf : rows.all (fun r => decide ((r.length : Int) = width)) = true) :
    Calls Try.prog 90 #[.agg #[.slice A X.length c, .int .i64 first, .int .i64 width], .int .i64 o, .slice A1 rows.length c1] W fun e w' => ∃ v v', e = .returned (.tuple #[.agg #[v, .int .i64 first, .int .i64 width], v', .int .i64 0]) ∧ ((HP.val KR v (X.take o ++ rows)).and (HP.val k142 v' (chg 0 o X (X.take o ++ rows)))).at_ w' (fun k => Z k ∨ W.heap.size ≤ k) ∧ Below W.heap.size W w' := by
  obtain ⟨Φ, hΦ⟩ : ∃ Φ : HP, Φ = (HP.val KR (.slice A X.length c) X).and (HP.val KR (.slice A1 rows.length c1) rows) := ⟨_, rfl⟩
  have hcap := HP.val_le hv
  replace hr0 := Lib.hid hr0
  replace hr1 := Lib.hid hr1
  have hno : ¬ X.length < o := by omega
  have hno1 : ¬ (o : Int) < first := by omega
  have H := Aside0.mk (((Cx.startz (W := W) (Z := Z) (Φ := Φ) (by rw [hΦ]; exact ⟨hv, hx⟩)).alloc (.cells #[.slice A X.length c, .int .i64 first, .int .i64 width] 102 (0, 0))).alloc1 (.cells #[.slice none 0 0, .int .i64 0, .int .i64 0] 102 (0, 0)))
  have hz0 := Aside0.mk (show ∀ w Z, Φ.at_ w Z → (HP.val KR (.slice A X.length c) X).at_ w Z from fun w Z h => by rw [hΦ] at h; exact h.1)
  have hz1 := Aside0.mk (show ∀ w Z, Φ.at_ w Z → (HP.val KR (.slice A1 rows.length c1) rows).at_ w Z from fun w Z h => by rw [hΦ] at h; exact h.2)
  have k0 := H.out.cell 0 rfl 0 rfl
  have k1 := H.out.cell 0 rfl 1 rfl
  have hu := Try.underlying102
  obtain ⟨b0, hb0⟩ : ∃ b, b = W.heap.size := ⟨_, rfl⟩
  obtain ⟨b1, hb1⟩ : ∃ b, b = W.heap.size + 1 := ⟨_, rfl⟩
  have hb01 : b0 ≠ b1 := by omega
  have H' : Aside0 (Cx (fun _ => False) Z W _ Φ [HP.blk b0 (.cells #[.slice A X.length c, .int .i64 first, .int .i64 width] 102 (0, 0)), HP.blk b1 (.cells #[.slice none 0 0, .int .i64 0, .int .i64 0] 102 (0, 0))]) := ⟨by rw [hb0, hb1]; exact H.out⟩
  replace hΦ := Lib.hid hΦ
  replace hf := Lib.hid hf
  clear hv hx
  go_enter Try.func90, Try.ntmps90
  go_wp2
  rw [← hb1, ← hb0] at *
  go_loopw [9] (fun i wr => ∃ j : Nat, j ≤ rows.length ∧ i = .int .i64 j ∧ Hid (∀ r ∈ rows.take j, (r.length : Int) = width) ∧ Aside0 (Cx (fun _ => False) Z W wr Φ [HP.blk b0 (.cells #[.slice A X.length c, .int .i64 first, .int .i64 width] 102 (0, 0)), HP.blk b1 (.cells #[.slice none 0 0, .int .i64 0, .int .i64 0] 102 (0, 0))])) (fun i _ => rows.length - (intOf i).toNat)
  case atStart => exact ⟨0, by omega, rfl, Lib.hid (by simp), H'⟩
  case round =>
    clear H H' k0 k1
    obtain ⟨j, hj, rfl, hfit, H⟩ := hrel
    by_cases hlt : j < rows.length
    · obtain ⟨Z1, hZ⟩ := H.out.now
      obtain ⟨rb, hrb⟩ : ∃ r, rows[j]? = some r := ⟨_, List.getElem?_eq_getElem (by omega)⟩
      obtain ⟨ad1, B1, d1, rfl, q1, hd1, hv1⟩ := row_len (HP.val_rd (hz1.out _ _ hZ)) hrb
      clear hv1 hZ
      have k2 := H.out.cell 0 rfl 2 rfl
      have hj0 : (0 : Int) ≤ j := by omega
      have hj2 : (j : Int) < rows.length := by omega
      by_cases hl : (rb.length : Int) = width
      · have hl' : ((rb.length : Int) == width) = true := by simpa using hl
        have hfit' : Hid (∀ r ∈ rows.take (j + 1), (r.length : Int) = width) := Lib.hid (by
          intro r hr
          rw [List.take_add_one, hrb] at hr
          rcases List.mem_append.1 hr with hr | hr
          · exact hfit.out r hr
          · rw [show r = rb by simpa using hr]; exact hl)
        replace hrb := Lib.hid hrb
        replace hl := Lib.hid hl
        go_wp2
        go_quiet (fail)
        go_wp2
        go_roundw
        case rel => exact ⟨j + 1, by omega, by go_num, hfit', ⟨H.out.drewN _⟩⟩
        case measure => simp [intOf]; omega
      · have hl' : ((rb.length : Int) == width) = false := by simpa using hl
        exfalso
        have := List.all_eq_true.1 hf.out rb (List.mem_of_getElem? hrb)
        exact hl (by simpa using this)
    · obtain rfl : j = rows.length := by omega
      have hj2 : ¬ (rows.length : Int) < rows.length := by omega
      obtain ⟨hcut, hvt⟩ := cut_take (P := Try.prog) (d := KR) 38 22 Try.underlying38 (info_parts infoR).choose_spec.1 A c X (o : Int) (by omega) h2 hcap
      rw [Int.toNat_natCast] at hcut hvt
      have hTl : (X.take o).length ≤ 10000 := by rw [List.length_take]; omega
      have hTr : ∀ r ∈ X.take o ++ rows, r.length ≤ 100000 := fun r hr => by
        rcases List.mem_append.1 hr with hr | hr
        · exact hr0.out r (List.mem_of_mem_take hr)
        · exact hr1.out r hr
      have hoT : o ≤ (X.take o ++ rows).length := by rw [List.length_append, List.length_take]; omega
      generalize hT : X.take o = T at *
      replace hT := Lib.hid hT
      obtain ⟨cT, ⟨hcl, hone, hsrc⟩, H4⟩ := cells_more H.out (A := A) (c := c) (L := T) (fun Z hz => hvt _ _ (hz0.out _ _ hz))
      have H5 := (H4.alloc (.cells #[] 22 (0, 0))).rowed 2 22 rfl H4.size
      obtain ⟨v1, w1, hrun1, H6⟩ := H5.app (P := Try.prog) 2 38 38 22 (.slice none 0 0) 1 24 rfl (Nat.le_refl _) Try.underlying38 infoR rfl (by omega) (by omega) A T.length c cT (by omega) (fun hp => by
        obtain ⟨ad', h1, h2⟩ := hsrc hp
        exact ⟨ad', h1, fun j u hj => cell_al (h2 j u hj) _⟩) hone (by omega)
      simp only [Nat.zero_add, List.nil_append] at H6
      obtain ⟨A5, c5, rfl, _⟩ := HP.raw_form (H6.get 2 rfl).choose_spec
      obtain ⟨cR, ⟨hcl2, hone2, hsrc2⟩, H7⟩ := cells_more H6 (A := A1) (c := c1) (L := rows) (fun Z hz => hz1.out _ _ hz.1)
      obtain ⟨v2, w2, hrun2, H8⟩ := H7.app (P := Try.prog) 2 38 38 22 (.slice none 0 0) 1 24 rfl (Nat.le_refl _) Try.underlying38 infoR rfl (by omega) (by omega) A1 rows.length c1 cR (by omega) hsrc2 hone2 (by omega)
      obtain ⟨A6, c6, rfl, _⟩ := HP.raw_form (H8.get 2 rfl).choose_spec
      have e12 : T.length + rows.length = (T ++ rows).length := by simp
      rw [e12] at H8 hrun2
      have H9 := ((H8.freezeRow 2 rfl (Nat.le_refl _)).imp (Φ' := Φ.and (HP.val KR (.slice A6 (T ++ rows).length c6) (T ++ rows))) (fun Z hz => ⟨hz.1.1.1, HP.val_of (d := KR) hz.2 (HP.reps_append hz.1.1.2 hz.1.2)⟩)).take 2
      generalize hN : T ++ rows = N at *
      replace hN := Lib.hid hN
      have p0 := H.out.cell 0 rfl 0 rfl
      have p0' := (H.out.alloc (.cells #[] 22 (0, 0))).cell 0 rfl 0 rfl
      have q0 := H9.cell 0 rfl 0 rfl
      have H9 := Aside0.mk H9
      replace hrun1 := Aside0.mk hrun1
      replace hrun2 := Aside0.mk hrun2
      replace hTr := Lib.hid hTr
      replace hvt := Lib.hid hvt
      clear H4 H5 H6 H7 H8 hone hsrc hone2 hsrc2 H
      go_wp2_with (first | refine wpList_app (o := ⟨some 44, _, _, _, _, _⟩) rfl rfl rfl rfl hrun1.out ?_ | refine wpList_app (o := ⟨some 46, _, _, _, _, _⟩) rfl rfl rfl rfl hrun2.out ?_)
      refine (H9.out.cvalh (fun Z hZ => ref_changes A A6 _ _ X N o (hz0.out _ _ hZ.1) hZ.2 (by omega) (by omega) (by omega) (by rw [← hN.out, List.length_append]; omega) hr0.out hTr.out)).mono ?_
      rintro e w3 ⟨A3, c3, rfl, H10⟩
      replace H10 := Aside0.mk H10
      generalize hdel : chg 0 o X N = del at *
      replace hdel := Lib.hid hdel
      have k0 := H10.out.cell 0 rfl 0 rfl
      have k1 := H10.out.cell 0 rfl 1 rfl
      have k2 := H10.out.cell 0 rfl 2 rfl
      have kf := fun j => H10.out.unfrozen 0 rfl j
      have H11 := H10.out.put 0 rfl 0 (.slice A6 N.length c6)
      have r0 := H11.cell 1 rfl 0 rfl
      have r1 := H11.cell 1 rfl 1 rfl
      have r2 := H11.cell 1 rfl 2 rfl
      have s0 := H11.cell 0 rfl 0 rfl
      have s1 := H11.cell 0 rfl 1 rfl
      have s2 := H11.cell 0 rfl 2 rfl
      have qf := fun j => H11.unfrozen 1 rfl j
      have H11 := Aside0.mk H11
      clear H9 q0
      go_wp2
      have F := ((H11.out.put 1 rfl 0 (.slice A6 N.length c6)).put 1 rfl 1 (.int .i64 first)).put 1 rfl 2 (.int .i64 width)
      have F2 := (F.imp (Φ' := (HP.val KR (.slice A6 N.length c6) N).and (HP.val k142 (.slice A3 del.length c3) del)) (fun Z hz => ⟨hz.1.2, hz.2⟩)).done0
      exact bodyPost_ret (v := .tuple #[.agg #[.slice A6 N.length c6, .int .i64 first, .int .i64 width], .slice A3 del.length c3, .int .i64 0]) (by simp [results, Try.results90, go_sem, F.cell 1 rfl 0 rfl, F.cell 1 rfl 1 rfl, F.cell 1 rfl 2 rfl]) rfl ⟨_, _, rfl, by rw [hT.out, hN.out, hdel.out]; exact F2.2, F2.1⟩
end Go.Proofs.Ytpakcfbjjlmcaaa.Tape
