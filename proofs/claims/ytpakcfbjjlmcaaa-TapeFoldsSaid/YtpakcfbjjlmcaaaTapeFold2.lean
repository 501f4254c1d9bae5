/- Fold of the document, walked. No condition but that the deltas fit, and the bounds. -/
import Derived.Test.YtpakcfbjjlmcaaaTapeFold
set_option linter.unusedVariables false
set_option linter.unusedSimpArgs false
set_option maxHeartbeats 3200000
set_option maxRecDepth 100000
namespace Go.Proofs.Ytpakcfbjjlmcaaa.Tape
open Go.RowKit Go.RK Go.TP Go.Proofs.YtpakcfbjjlmcaaaW.PrintWords Go.Proofs.Ytpakcfbjjlmcaaa.PAll
variable {W : World} {M Z : Nat → Prop} {g : Nat} {width : Int} {v : Value} {X : List (List Int)}
theorem fold_ok {A A1 : Option Addr} {c c1 : Nat} {rows fin : List (List Int)} {l : List S142} (hv : (HP.val KR (.slice A rows.length c) rows).at_ W Z) (hx : (HP.val k142 (.slice A1 l.length c1) l).at_ W Z) (hb : rows.length ≤ 100000) (hb1 : l.length ≤ 100000) (hbv : ∀ d ∈ l, d.f2.length ≤ 100000) (hf : foldD rows l = some fin) :
    Calls Try.prog 60 #[.slice A rows.length c, .slice A1 l.length c1] W fun e w' => ∃ v, e = .returned (.tuple #[v, .bool true]) ∧ (HP.val KR v fin).at_ w' (fun k => Z k ∨ W.heap.size ≤ k) ∧ Below W.heap.size W w' := by
  obtain ⟨Φ, hΦ⟩ : ∃ Φ : HP, Φ = (HP.val KR (.slice A rows.length c) rows).and (HP.val k142 (.slice A1 l.length c1) l) := ⟨_, rfl⟩
  have hz0 := Aside0.mk (show ∀ w Z, Φ.at_ w Z → (HP.val KR (.slice A rows.length c) rows).at_ w Z from fun w Z h => by rw [hΦ] at h; exact h.1)
  have hz1 := Aside0.mk (show ∀ w Z, Φ.at_ w Z → (HP.rd k142 A1 l).at_ w Z from fun w Z h => by rw [hΦ] at h; exact HP.val_rd h.2)
  have H := Aside0.mk (Cx.startz (W := W) (Z := Z) (Φ := Φ) (by rw [hΦ]; exact ⟨hv, hx⟩))
  obtain ⟨A0, c0, w0, hrun, H1⟩ := Own.start H.out (fun Z hz => hz0.out _ _ hz) (by omega)
  replace hrun := Aside0.mk hrun
  replace H1 := Aside0.mk H1
  replace hΦ := Lib.hid hΦ
  replace hf := Lib.hid hf
  replace hbv := Lib.hid hbv
  have hu := Try.underlying142
  clear hv hx H
  go_enter Try.func60, Try.ntmps60
  go_wp2_with (refine wpList_app rfl rfl rfl rfl hrun.out ?_)
  go_loopw [6, 7] (fun v i wr => ∃ (k : Nat) (out : List (List Int)) (A2 : Option Addr) (c2 : Nat), k ≤ l.length ∧ i = .int .i64 k ∧ v = .slice A2 out.length c2 ∧ Hid (foldD out (l.drop k) = some fin) ∧ Hid (out.length ≤ rows.length + k) ∧ Aside0 (Own (fun _ => False) Z W wr Φ (.slice A2 out.length c2) out)) (fun _ i _ => l.length - (intOf i).toNat)
  case atStart => exact ⟨0, rows, A0, c0, by omega, rfl, rfl, Lib.hid hf.out, Lib.hid (by omega), H1⟩
  case round =>
    clear H1 hrun
    obtain ⟨k, out, A2, c2, hk, rfl, rfl, hfo, hol, H⟩ := hrel
    by_cases hlt : k < l.length
    · obtain ⟨d, hd⟩ : ∃ d, l[k]? = some d := ⟨_, List.getElem?_eq_getElem (by omega)⟩
      have hdrop : l.drop k = d :: l.drop (k + 1) := by
        obtain ⟨_, rfl⟩ := List.getElem?_eq_some_iff.1 hd
        exact List.drop_eq_getElem_cons hlt
      have hst := hfo.out
      rw [hdrop] at hst
      simp only [foldD] at hst
      obtain ⟨o, ho, hrest⟩ := Option.bind_eq_some_iff.1 hst
      have hol2 : out.length ≤ 200000 := by have := hol.out; omega
      obtain ⟨⟨ad, B, b⟩, ⟨rfl, q0, q1, q2⟩, H1⟩ := H.out.more (fun Z hz => delta_at (hz1.out _ _ hz) k hd)
      simp only at q0 q1 q2 H1
      obtain ⟨f0, f1, f2⟩ := d
      simp only at q0 q1 q2 H1
      have H2 := Aside0.mk (H1.allocF (.cells #[.int .i64 f0, .int .i64 f1, .slice B f2.length b] 142 (0, 0)))
      have hk0 : (0 : Int) ≤ k := by omega
      have hk2 : (k : Int) < l.length := by omega
      have p0 := cell_blk (H2.out.now.choose_spec.2.1) (j := 0) rfl
      have p1 := cell_blk (H2.out.now.choose_spec.2.1) (j := 1) rfl
      have p2 := cell_blk (H2.out.now.choose_spec.2.1) (j := 2) rfl
      replace hd := Lib.hid hd
      replace hdrop := Lib.hid hdrop
      replace hst := Lib.hid hst
      clear H H1
      unfold foldS at ho
      simp only at ho
      by_cases e1 : f0 = 1
      · subst e1
        rw [if_pos rfl] at ho
        split at ho
        · rename_i e2
          subst e2
          injection ho with ho
          subst ho
          obtain ⟨A4, c4, w4, hrun, H5⟩ := H2.out.snoc f2 B b (fun Z hz => hz.1.2) (by omega)
          have hk' : Hid (foldD (out ++ [f2]) (l.drop (k + 1)) = some fin) := Lib.hid hrest
          have hbo : Hid ((out ++ [f2]).length ≤ rows.length + (k + 1)) := Lib.hid (by have := hol.out; rw [List.length_append]; simp; omega)
          have H6 := Aside0.mk (H5.imp (Φ' := Φ) (fun Z hz => hz.1.1))
          simp only [hp_alloc_size] at hrun
          replace hrun := Aside0.mk hrun
          generalize hO : out ++ [f2] = o' at *
          replace hO := Lib.hid hO
          replace hrest := Lib.hid hrest
          clear H5
          go_wp2_with (refine wpList_app rfl rfl rfl rfl hrun.out ?_)
          go_roundw
          case rel => exact ⟨k + 1, o', A4, c4, by omega, by go_num, rfl, hk', hbo, H6⟩
          case measure => simp [intOf]; omega
        · cases ho
      · rw [if_neg e1] at ho
        by_cases e2 : f0 = 2
        · subst e2
          rw [if_pos rfl] at ho
          split at ho
          · rename_i e3
            obtain ⟨j, rfl⟩ : ∃ j : Nat, f1 = j := ⟨f1.toNat, by omega⟩
            rw [Int.toNat_natCast] at ho
            injection ho with ho
            subst ho
            have hj : j < out.length := by omega
            obtain ⟨gb, rfl, ⟨old, hold⟩, hfr, H5⟩ := H2.out.set j hj f2 B b (fun Z hz => hz.1.2)
            have hk' : Hid (foldD (out.set j f2) (l.drop (k + 1)) = some fin) := Lib.hid hrest
            have hbo : Hid ((out.set j f2).length ≤ rows.length + (k + 1)) := Lib.hid (by have := hol.out; rw [List.length_set]; omega)
            have H6 := Aside0.mk (H5.imp (Φ' := Φ) (fun Z hz => hz.1.1))
            have hls : (out.set j f2).length = out.length := List.length_set
            generalize hO : out.set j f2 = o' at *
            have hj0 : (0 : Int) ≤ j := by omega
            have hj1 : (j : Int) < out.length := by omega
            replace hO := Lib.hid hO
            replace hrest := Lib.hid hrest
            have hls' := Lib.hid hls
            clear H5 hls e3
            go_wp2
            exact ⟨⟨k + 1, o', some ⟨gb, 0, none⟩, c2, by omega, by go_num, by rw [hls'.out], hk', hbo, H6⟩, by simp [intOf]; omega⟩
          · cases ho
        · rw [if_neg e2] at ho
          by_cases e3 : f0 = 3
          · subst e3
            rw [if_pos rfl] at ho
            split at ho
            · rename_i e4
              obtain ⟨h41, h42, rfl⟩ := e4
              obtain ⟨m, rfl⟩ : ∃ m : Nat, f1 = m := ⟨f1.toNat, by omega⟩
              rw [Int.toNat_natCast] at ho
              injection ho with ho
              subst ho
              have hm : m ≤ out.length := by omega
              obtain ⟨hcut, A4, c4, w4, hrun, H5⟩ := H2.out.cut m hm (by omega)
              have hk' : Hid (foldD (out.take m) (l.drop (k + 1)) = some fin) := Lib.hid hrest
              have hbo : Hid ((out.take m).length ≤ rows.length + (k + 1)) := Lib.hid (by have := hol.out; rw [List.length_take]; omega)
              have H6 := Aside0.mk (H5.imp (Φ' := Φ) (fun Z hz => hz.1.1))
              have hw : IntKind.i64.wrap ((out.length : Int) - 1) = (m : Int) := by rw [IntWalk.i64_in _ (by omega)]; omega
              have hj0 : (0 : Int) ≤ m := by omega
              simp only [hp_alloc_size] at hrun
              replace hrun := Aside0.mk hrun
              generalize hO : out.take m = o' at *
              replace hO := Lib.hid hO
              replace hrest := Lib.hid hrest
              clear H5
              replace h42 := Lib.hid h42
              go_wp2_with (refine wpList_app rfl rfl rfl rfl hrun.out ?_)
              exact ⟨⟨k + 1, o', A4, c4, by omega, by go_num, rfl, hk', hbo, H6⟩, by simp [intOf]; omega⟩
            · cases ho
          · rw [if_neg e3] at ho; cases ho
    · obtain rfl : k = l.length := by omega
      have hk2 : ¬ (l.length : Int) < l.length := by omega
      have hfin := hfo.out
      rw [List.drop_length] at hfin
      simp only [foldD, Option.some.injEq] at hfin
      subst hfin
      go_wp2
      go_ret2
      have h := H.out.done
      exact ⟨_, rfl, h.2, h.1⟩
end Go.Proofs.Ytpakcfbjjlmcaaa.Tape
