/- Drop, Best, Kept and Clone of a window's best. No condition. -/
import Derived.Test.YtpakcfbjjlmcaaaDeque3
set_option linter.unusedVariables false
set_option linter.unusedSimpArgs false
set_option maxHeartbeats 3200000
set_option maxRecDepth 100000
namespace Go.Proofs.Ytpakcfbjjlmcaaa.Deque
open Go.RowKit Go.RK Go.DQ Go.Proofs.YtpakcfbjjlmcaaaW.PrintWords
variable {W : World} {M Z : Nat → Prop} {g : Nat} {least : Bool} {most p : Int} {L : List Int}
theorem drop_nil : Calls Try.prog 50 #[.pointer none] W fun e w' => e = .returned (.bool false) ∧ w' = W := by
  go_enter Try.func50, Try.ntmps50
  go_wp2_with fail
  refine len_nil.mono ?_
  rintro e w1 ⟨rfl, rfl⟩
  go_wp2
  go_ret
  exact ⟨rfl, rfl⟩
theorem drop_none (h : (DqH g least most p []).at_ W M) (hZ : ∀ k, Z k → ¬ M k) (hp : 0 ≤ p) (h2 : p ≤ 1000000) :
    Calls Try.prog 50 #[.pointer (some ⟨g, 0, none⟩)] W fun e w' => e = .returned (.bool false) ∧ Does W M Z HP.tt (DqH g least most p []) w' := by
  have H1 := Aside0.mk (Cx.start (Φ := HP.tt) h trivial hZ)
  clear h
  go_enter Try.func50, Try.ntmps50
  go_wp2_with fail
  refine (H1.out.cread 0 rfl (fun M hM => len_dq hM hp (by simp; omega))).mono ?_
  rintro e w1 ⟨rfl, H2⟩
  replace H2 := Aside0.mk H2
  go_wp2
  go_ret
  exact ⟨rfl, H2.out.done 0 rfl⟩
theorem drop_ok (x : Int) (xs : List Int) (h : (DqH g least most p (x :: xs)).at_ W M) (hZ : ∀ k, Z k → ¬ M k) (hp : 0 ≤ p) (h2 : p + (x :: xs).length ≤ 1000000) (hl : (x :: xs).length ≤ 1000) :
    Calls Try.prog 50 #[.pointer (some ⟨g, 0, none⟩)] W fun e w' => e = .returned (.bool true) ∧ Does W M Z HP.tt (DqH g least most (p + 1) xs) w' := by
  obtain ⟨A, c, ha⟩ := DqH.opn h
  have hkl := kept_len least p (x :: xs)
  have hkd := kept_drop (least := least) p x xs
  have hcm : Hid (p + ((x :: xs).length : Int) = p + 1 + (xs.length : Int)) := Lib.hid (by simp; omega)
  generalize hE : kept least p (x :: xs) = E at *
  have hcl : Hid (p + ((x :: xs).length : Int) - p = ((x :: xs).length : Int)) := Lib.hid (by omega)
  have hL0 : (((x :: xs).length : Int) == 0) = false := by rw [beq_eq_false_iff_ne]; simp; omega
  have hL1 : 0 < (x :: xs).length := by simp
  generalize hL : ((x :: xs).length) = n at *
  generalize hC : p + (n : Int) = cm at *
  have H1 := Aside0.mk (start2 (Φ := HP.tt) ha trivial hZ)
  have hw : IntKind.i64.wrap (p + 1) = p + 1 := IntWalk.i64_in _ (by omega)
  have hpc : p ≤ cm := by omega
  replace hE := Lib.hid hE
  replace hL := Lib.hid hL
  replace hC := Lib.hid hC
  replace hkd := Lib.hid hkd
  clear h ha
  have tail : ∀ (E' : List (Int × Int)) (e : Hid (kept least (p + 1) xs = E')) {W' : World} {v' : Value}, Cx M Z W W' HP.tt [HP.blk g (.cells #[v', .bool least, .int .i64 most, .int .i64 cm, .int .i64 p] 132 (0, 0)), HP.raw 0 139 2 v' E'.length (ecs E')] → Does W M Z HP.tt (DqH g least most (p + 1) xs) (W'.setCell ⟨g, 4, none⟩ (.int .i64 (p + 1))) := by
    intro E' e W' v' H
    exact done2 (rest := []) (H.put 0 rfl 4 (.int .i64 (p + 1))) (by rw [e.out]) (by rw [e.out]) hcm.out rfl
  replace tail := Aside0.mk @tail
  by_cases hh : ∃ e, E.head? = some e ∧ e.2 = p
  · obtain ⟨⟨n1, q1⟩, he, hq⟩ := id hh
    simp only at hq
    subst hq
    obtain ⟨T, hET⟩ : ∃ T, E = (n1, q1) :: T := by
      cases E with
      | nil => simp at he
      | cons z T => simp at he; exact ⟨T, by rw [he]⟩
    have hkT : Hid (kept least (q1 + 1) xs = T) := Lib.hid (by rw [hkd.out, if_pos hh, hET]; rfl)
    replace hET := Lib.hid hET
    clear he hh
    go_enter Try.func50, Try.ntmps50
    go_wp2_with fail
    refine (H1.out.cread 0 rfl (fun M hM => len_blk (n : Int) hM.1 hcl hp (by omega) h2)).mono ?_
    rintro e w1 ⟨rfl, H2⟩
    replace H1 := Aside0.mk H2
    clear H2
    go_upto_region 3 with (fail)
    go_region_held3 (fun w' => w'.cell? ⟨g, 4, none⟩ = some (.int .i64 q1)) (exact H1.out.cell 0 rfl 4 rfl)
      (first | (go_at_call 82; refine (gone_hit n1 q1 T hET.out (by omega) ⟨H1.out.drew⟩).mono ?_; rintro e Wh ⟨rfl, v2, H2⟩; replace H1 := Aside0.mk H2; clear H2))
    rename_i hHeld
    clear hHeld
    have k4 := H1.out.cell 0 rfl 4 rfl
    have kf := fun j => H1.out.unfrozen 0 rfl j
    go_wp2
    go_ret
    exact ⟨rfl, tail.out T hkT H1.out⟩
  · have hkT : Hid (kept least (p + 1) xs = E) := Lib.hid (by rw [hkd.out, if_neg hh])
    have hne : Hid (∀ e, E.head? = some e → e.2 ≠ p) := Lib.hid (fun e he hq => hh ⟨e, he, hq⟩)
    clear hh
    go_enter Try.func50, Try.ntmps50
    go_wp2_with fail
    refine (H1.out.cread 0 rfl (fun M hM => len_blk (n : Int) hM.1 hcl hp (by omega) h2)).mono ?_
    rintro e w1 ⟨rfl, H2⟩
    replace H1 := Aside0.mk H2
    clear H2
    go_upto_region 3 with (fail)
    go_region_held3 (fun w' => w'.cell? ⟨g, 4, none⟩ = some (.int .i64 p)) (exact H1.out.cell 0 rfl 4 rfl)
      (first | (go_at_call 82; refine (gone_miss p hne.out (by omega) ⟨H1.out.drew⟩).mono ?_; rintro e Wh ⟨rfl, H2⟩; replace H1 := Aside0.mk H2; clear H2))
    rename_i hHeld
    clear hHeld
    have k4 := H1.out.cell 0 rfl 4 rfl
    have kf := fun j => H1.out.unfrozen 0 rfl j
    go_wp2
    go_ret
    exact ⟨rfl, tail.out E hkT H1.out⟩
theorem best_nil : Calls Try.prog 52 #[.pointer none] W fun e w' => e = .returned (.tuple #[.int .i64 0, .bool false]) ∧ w' = W := by
  go_enter Try.func52, Try.ntmps52
  go_wp2_with fail
  refine len_nil.mono ?_
  rintro e w1 ⟨rfl, rfl⟩
  go_wp2
  go_ret2
  exact ⟨rfl, rfl⟩
theorem best_none (h : (DqH g least most p []).at_ W M) (hp : 0 ≤ p) (h2 : p ≤ 1000000) :
    Calls Try.prog 52 #[.pointer (some ⟨g, 0, none⟩)] W fun e w' => e = .returned (.tuple #[.int .i64 0, .bool false]) ∧ Below W.heap.size W w' := by
  replace h := Aside0.mk h
  go_enter Try.func52, Try.ntmps52
  go_wp2_with fail
  refine (len_dq h.out hp (by simp; omega)).mono ?_
  rintro e w1 ⟨rfl, hb⟩
  go_wp2
  go_ret2
  exact ⟨rfl, hb⟩
theorem best_ok (n q : Int) (T : List (Int × Int)) (hK : kept least p L = (n, q) :: T) (h : (DqH g least most p L).at_ W M) (hp : 0 ≤ p) (h2 : p + L.length ≤ 1000000) :
    Calls Try.prog 52 #[.pointer (some ⟨g, 0, none⟩)] W fun e w' => e = .returned (.tuple #[.int .i64 n, .bool true]) ∧ Below W.heap.size W w' := by
  have hkl := kept_len least p L
  have hL0 : ((L.length : Int) == 0) = false := by rw [beq_eq_false_iff_ne]; rw [hK] at hkl; simp at hkl; omega
  have hL1 : 0 < L.length := by rw [hK] at hkl; simp at hkl; omega
  have hrd : ∀ {W : World} {M : Nat → Prop}, (DqH g least most p L).at_ W M → ∃ gb c nn, 0 < nn ∧ nn ≤ c ∧ W.cell? ⟨g, 0, none⟩ = some (.slice (some ⟨gb, 0, none⟩) nn c) ∧ W.cell? ⟨gb, 0, none⟩ = some (.int .i64 n) := by
    intro W M h
    obtain ⟨v, a, b, h0, h1, _⟩ := h
    rw [hK] at h1
    obtain ⟨gb, c, rfl, hc, hcell⟩ := raw_blk h1 (by simp)
    exact ⟨gb, c, _, by simp, hc, cell_blk h0.1 rfl, hcell 0 _ rfl⟩
  replace hrd := Aside0.mk @hrd
  have H := Aside0.mk (Cx.start (Φ := HP.tt) (Z := fun _ => False) h trivial (fun k hk => hk.elim))
  replace h := Aside0.mk h
  replace hK := Lib.hid hK
  go_enter Try.func52, Try.ntmps52
  go_wp2_with fail
  refine (len_dq h.out hp h2).mono ?_
  rintro e w1 ⟨rfl, hb⟩
  obtain ⟨gb, c, nn, hn0, hnc, k0, kb⟩ := hrd.out (H.out.skip hb |>.get 0 rfl).choose_spec
  replace hb := Aside0.mk hb
  have hn1 : (0 : Int) < nn := by omega
  go_wp2
  go_ret2
  exact ⟨rfl, hb.out⟩
theorem kept_nil : Calls Try.prog 53 #[.pointer none] W fun e w' => e = .returned (.slice none 0 0) ∧ w' = W := by
  go_enter Try.func53, Try.ntmps53
  go_wp2
  go_ret
  exact ⟨rfl, rfl⟩
theorem kept_dq (h : (DqH g least most p L).at_ W M) (hl : L.length ≤ 1000) :
    Calls Try.prog 53 #[.pointer (some ⟨g, 0, none⟩)] W fun e w' => ∃ v, e = .returned v ∧ (HP.val (Kd.int .i64) v ((kept least p L).map (·.1))).at_ w' (fun k => Z k ∨ W.heap.size ≤ k) ∧ Below W.heap.size W w' := by
  have hkl := kept_len least p L
  obtain ⟨A, c, ha⟩ := DqH.opn h
  have hcells : ∀ (W : World) (M : Nat → Prop), (Dq g least most (p + L.length) p (.slice A (kept least p L).length c) (kept least p L)).at_ W M → W.heap[g]? = some (.cells #[.slice A (kept least p L).length c, .bool least, .int .i64 most, .int .i64 (p + L.length), .int .i64 p] 132 (0, 0)) ∧ ∀ j u, (ecs (kept least p L))[j]? = some u → ∃ gb, A = some ⟨gb, 0, none⟩ ∧ W.cell? ⟨gb, j, none⟩ = some u := by
    intro W M h
    obtain ⟨a, b, h0, h1, _⟩ := h
    refine ⟨h0.1, fun j u hj => ?_⟩
    have hpos : 0 < (kept least p L).length := by
      rcases Nat.eq_zero_or_pos (kept least p L).length with h0 | h0
      · rw [List.eq_nil_of_length_eq_zero h0] at hj; simp [ecs] at hj
      · exact h0
    obtain ⟨gb, c', he, hc, hcell⟩ := raw_blk h1 hpos
    injection he with he _ _
    exact ⟨gb, he, hcell j u hj⟩
  have H := Aside0.mk ((Cx.startz (W := W) ha).add (HP.raw_nil W.heap.size 2 1 W _))
  generalize hP : Dq g least most (p + L.length) p (.slice A (kept least p L).length c) (kept least p L) = P at *
  generalize hE : kept least p L = E at *
  replace hP := Lib.hid hP
  replace hE := Lib.hid hE
  replace hcells := Aside0.mk hcells
  clear h ha
  have k0 := H.out.cellF (fun Z h => (hcells.out _ Z h).1) 0 rfl
  go_enter Try.func53, Try.ntmps53
  go_wp2
  clear k0
  go_loopw [3, 14] (fun v i wr => ∃ k : Nat, k ≤ E.length ∧ i = .int .i64 k ∧ Aside0 (Cx (fun _ => False) M W wr P [HP.raw W.heap.size 2 1 v k ((E.take k).map (fun e => .int .i64 e.1))])) (fun _ i _ => E.length - (intOf i).toNat)
  case atStart => exact ⟨0, by omega, rfl, H⟩
  case round =>
    clear H
    obtain ⟨k, hk, rfl, H⟩ := hrel
    by_cases hlt : k < E.length
    · obtain ⟨e, he⟩ : ∃ e, E[k]? = some e := ⟨_, List.getElem?_eq_getElem hlt⟩
      obtain ⟨Z, hZ⟩ := H.out.now
      obtain ⟨gb, rfl, d0⟩ := (hcells.out _ Z hZ).2 (k * 2) _ (ecs_at k E e he).1
      obtain ⟨gb', hgb, d1⟩ := (hcells.out _ Z hZ).2 (k * 2 + 1) _ (ecs_at k E e he).2
      injection hgb with hgb
      injection hgb with hgb
      subst hgb
      have htk : Hid ((E.take (k + 1)).map (fun e => Value.int .i64 e.1) = (E.take k).map (fun e => Value.int .i64 e.1) ++ [.int .i64 e.1]) := Lib.hid (by rw [List.take_add_one, he, List.map_append]; rfl)
      replace he := Lib.hid he
      clear hZ
      obtain ⟨v1, w1, hrun, H2⟩ := (H.out.junk (.cells #[.int .i64 e.1, .int .i64 e.2] 139 (0, 0))).app1 (P := Try.prog) 0 22 22 2 (.int .i64 0) 1 8 rfl (Nat.le_refl _) Try.underlying22 infoN rfl (by omega) (by omega) [.int .i64 e.1] rfl (by intro u hu; rw [List.mem_singleton.1 hu]; rfl) (by omega)
      simp only [hp_alloc_size] at hrun
      replace hrun := Aside0.mk hrun
      replace H2 := Aside0.mk H2
      go_wp2_with (refine wpList_app rfl rfl rfl rfl hrun.out ?_)
      go_roundw
      case rel => exact ⟨k + 1, by omega, by go_num, ⟨by rw [htk.out]; exact H2.out⟩⟩
      case measure => simp [intOf]; omega
    · obtain rfl : k = E.length := by omega
      go_wp2
      go_ret
      have h := (H.out.freezeRow 0 rfl (Nat.le_refl _)).done0
      refine ⟨_, rfl, ?_, h.1⟩
      have h2 := h.2.2
      rw [List.take_length] at h2
      have hE' : E.length = (E.map (·.1)).length := by simp
      rw [hE'] at h2
      have h3 : (HP.raw W.heap.size 2 1 _ (E.map (·.1)).length (E.map (fun e => Value.int .i64 e.1))).at_ _ (fun k => W.heap.size ≤ k) := ⟨h2.1, fun k hk => own_base h2.1 k hk⟩
      exact HP.mono (HP.val_of (d := Kd.int .i64) h3 (HP.reps_scalar (enc := Value.int .i64) (h1 := fun _ => rfl) _ _ (by simp))) (fun k hk _ => .inr hk)

theorem clone_nil : Calls Try.prog 55 #[.pointer none] W fun e w' => e = .returned (.pointer none) ∧ w' = W := by
  go_enter Try.func55, Try.ntmps55
  go_wp2
  go_ret
  exact ⟨rfl, rfl⟩
theorem clone_dq (h : (DqH g least most p L).at_ W M) (hl : L.length ≤ 1000) :
    Calls Try.prog 55 #[.pointer (some ⟨g, 0, none⟩)] W fun e w' => ∃ g', e = .returned (.pointer (some ⟨g', 0, none⟩)) ∧ Below W.heap.size W w' ∧ (DqH g' least most p L).at_ w' (fun k => W.heap.size ≤ k) := by
  have hkl := kept_len least p L
  obtain ⟨A, c, ha⟩ := DqH.opn h
  have hcells : ∀ (W : World) (M : Nat → Prop), (Dq g least most (p + L.length) p (.slice A (kept least p L).length c) (kept least p L)).at_ W M → W.heap[g]? = some (.cells #[.slice A (kept least p L).length c, .bool least, .int .i64 most, .int .i64 (p + L.length), .int .i64 p] 132 (0, 0)) ∧ dE.C W A (kept least p L).length (kept least p L) := by
    intro W M h
    obtain ⟨a, b, h0, h1, _⟩ := h
    exact ⟨h0.1, HP.val_C (HP.val_of h1 (reps_ecs _))⟩
  have H := Aside0.mk (Cx.startz (W := W) ha)
  generalize hcm : p + (L.length : Int) = cm at *
  generalize hP : Dq g least most cm p (.slice A (kept least p L).length c) (kept least p L) = P at *
  generalize hE : kept least p L = E at *
  replace hP := Lib.hid hP
  replace hE := Lib.hid hE
  replace hcm := Lib.hid hcm
  replace hcells := Aside0.mk hcells
  clear h ha
  have k0 := H.out.cellF (fun Z h => (hcells.out _ Z h).1) 0 rfl
  have k1 := H.out.cellF (fun Z h => (hcells.out _ Z h).1) 1 rfl
  have k2 := H.out.cellF (fun Z h => (hcells.out _ Z h).1) 2 rfl
  have k3 := H.out.cellF (fun Z h => (hcells.out _ Z h).1) 3 rfl
  have k4 := H.out.cellF (fun Z h => (hcells.out _ Z h).1) 4 rfl
  have H1 := Aside0.mk (H.out.alloc (.cells #[.slice A E.length c, .bool least, .int .i64 most, .int .i64 cm, .int .i64 p] 132 (0, 0)))
  have k0' := H1.out.cellF (fun Z h => (hcells.out _ Z h).1) 0 rfl
  go_enter Try.func55, Try.ntmps55
  go_wp2_with fail
  obtain ⟨Z, hZ⟩ := H1.out.now
  refine (clone_cx H1.out (hcells.out _ Z hZ).2 (by omega)).mono ?_
  clear hZ
  rintro e w1 ⟨A1, c1, rfl, H2⟩
  replace H2 := Aside0.mk H2
  have q0 := H2.out.cell 0 rfl 0 rfl
  have qf := fun j => H2.out.unfrozen 0 rfl j
  go_wp2
  go_ret
  have hf := (H2.out.put 0 rfl 0 (.slice A1 E.length c1)).glue 0 1 (by decide) rfl rfl
  obtain ⟨hb, M1, h3, _, h4⟩ := hf.doneNew 0 rfl
  exact ⟨_, rfl, hb, HP.mono (A := DqH W.heap.size least most p L) (M := M1) ⟨.slice A1 E.length c1, by unfold Dq; rw [hE.out, hcm.out]; exact h3⟩ (fun k hk _ => h4 k hk)⟩
end Go.Proofs.Ytpakcfbjjlmcaaa.Deque
