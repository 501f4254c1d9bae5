/- RingApart, walked. No condition but that the arguments read. -/
import Derived.Test.YtpakcfbjjlmcaaaRingPlays
set_option linter.unusedVariables false
set_option linter.unusedSimpArgs false
set_option maxHeartbeats 1600000
set_option maxRecDepth 100000
namespace Go.Proofs.Ytpakcfbjjlmcaaa.Ring
open Go.RowKit Go.RK Go.RL Go.Proofs.YtpakcfbjjlmcaaaW.PrintWords Go.Proofs.Ytpakcfbjjlmcaaa.PAll
variable {W : World} {M Z : Nat → Prop} {g : Nat} {rows width : Int} {L : List (List Int)}
theorem push_nil (v : Value) : Calls Try.prog 19 #[.pointer none, v] W fun e w' => e = .returned (.int .i64 1) ∧ w' = W := by
  go_enter Try.func19, Try.ntmps19
  go_wp2
  go_ret
  exact ⟨rfl, rfl⟩
section
variable (A : Option Addr) (c : Nat) (l : List S42) (hl : l.length ≤ c) (hC : k42.C W A l.length l) (A2 : Option Addr) (c2 : Nat) (x : S42) (hl2 : x.f2.length ≤ c2) (hC2 : (Kd.int .i64).C W A2 x.f2.length x.f2)
include hl hC hl2 hC2
theorem apart_great (hg : rifflelaw11_Great.f 1000 l = some true) :
    Calls Try.prog 5 #[.slice A l.length c, .agg #[.int .i64 x.f0, .int .i64 x.f1, .slice A2 x.f2.length c2]] W fun e w' => e = .returned (.bool true) ∧ Below W.heap.size W w' := by
  have _hl2 := hl2
  have H0 := Aside0.mk ((Cx.start0 (Φ := (HP.rd k42 A l).and (HP.rd (Kd.int .i64) A2 x.f2)) ⟨Kd.C_F heap42 hC, Kd.C_F (Kd.heap_int _) hC2⟩).alloc (.cells #[.int .i64 x.f0, .int .i64 x.f1, .slice A2 x.f2.length c2] 42 (0, 0)))
  replace hg := Aside0.mk hg
  have d1 := H0.out.cell 0 rfl 1 rfl
  have d2 := H0.out.cell 0 rfl 2 rfl
  clear hC hC2
  go_enter Try.func5, Try.ntmps5
  go_wp2_with fail
  refine pop_nil.mono ?_
  rintro e w1 ⟨rfl, rfl⟩
  go_wp2_with fail
  refine (at_nil _).mono ?_
  rintro e w1 ⟨rfl, rfl⟩
  go_wp2_with fail
  refine rows_nil.mono ?_
  rintro e w1 ⟨rfl, rfl⟩
  go_wp2_with fail
  refine len_nil.mono ?_
  rintro e w1 ⟨rfl, rfl⟩
  go_wp2_with fail
  refine words_nil.mono ?_
  rintro e w1 ⟨rfl, rfl⟩
  go_wp2_with fail
  refine (push_nil _).mono ?_
  rintro e w1 ⟨rfl, rfl⟩
  go_wp2_with fail
  refine clone_nil.mono ?_
  rintro e w1 ⟨rfl, rfl⟩
  go_wp2_with fail
  refine (H0.out.cskip (fun Z hZ => Cx.toBelow (rifflelaw11_Great.calls 1000 A c l true _ (HP.rd_now hZ.1) hl hg.out))).mono ?_
  rintro e w2 ⟨rfl, H1⟩
  replace H1 := Aside0.mk H1
  clear H0 d1 d2
  go_wp2_with fail
  refine (lives_ok _).mono ?_
  rintro e wl ⟨rfl, hb⟩
  replace H1 := Aside0.mk (H1.out.skip hb)
  clear hb
  go_wp2
  go_ret
  exact ⟨rfl, H1.out.below⟩
theorem apart_long (hg : rifflelaw11_Great.f 1000 l = some false) (hx : 100 < x.f2.length) :
    Calls Try.prog 5 #[.slice A l.length c, .agg #[.int .i64 x.f0, .int .i64 x.f1, .slice A2 x.f2.length c2]] W fun e w' => e = .returned (.bool true) ∧ Below W.heap.size W w' := by
  have _hl2 := hl2
  have H0 := Aside0.mk ((Cx.start0 (Φ := (HP.rd k42 A l).and (HP.rd (Kd.int .i64) A2 x.f2)) ⟨Kd.C_F heap42 hC, Kd.C_F (Kd.heap_int _) hC2⟩).alloc (.cells #[.int .i64 x.f0, .int .i64 x.f1, .slice A2 x.f2.length c2] 42 (0, 0)))
  replace hg := Aside0.mk hg
  have d1 := H0.out.cell 0 rfl 1 rfl
  have d2 := H0.out.cell 0 rfl 2 rfl
  clear hC hC2
  go_enter Try.func5, Try.ntmps5
  go_wp2_with fail
  refine pop_nil.mono ?_
  rintro e w1 ⟨rfl, rfl⟩
  go_wp2_with fail
  refine (at_nil _).mono ?_
  rintro e w1 ⟨rfl, rfl⟩
  go_wp2_with fail
  refine rows_nil.mono ?_
  rintro e w1 ⟨rfl, rfl⟩
  go_wp2_with fail
  refine len_nil.mono ?_
  rintro e w1 ⟨rfl, rfl⟩
  go_wp2_with fail
  refine words_nil.mono ?_
  rintro e w1 ⟨rfl, rfl⟩
  go_wp2_with fail
  refine (push_nil _).mono ?_
  rintro e w1 ⟨rfl, rfl⟩
  go_wp2_with fail
  refine clone_nil.mono ?_
  rintro e w1 ⟨rfl, rfl⟩
  go_wp2_with fail
  refine (H0.out.cskip (fun Z hZ => Cx.toBelow (rifflelaw11_Great.calls 1000 A c l false _ (HP.rd_now hZ.1) hl hg.out))).mono ?_
  rintro e w2 ⟨rfl, H1⟩
  replace H1 := Aside0.mk H1
  clear H0 d1 d2
  have d2 := H1.out.cell 0 rfl 2 rfl
  go_wp2_with fail
  refine (lives_ok _).mono ?_
  rintro e wl ⟨rfl, hb⟩
  replace H1 := Aside0.mk (H1.out.skip hb)
  clear hb
  go_wp2
  go_ret
  exact ⟨rfl, H1.out.below⟩
theorem apart_small (hg : rifflelaw11_Great.f 1000 l = some false) (hs : l.length ≤ 80 ∧ ∀ j : Nat, j < l.length → (rd_T42 l (j : Int)).f2.length ≤ 100) (hx : x.f2.length ≤ 100) :
    Calls Try.prog 5 #[.slice A l.length c, .agg #[.int .i64 x.f0, .int .i64 x.f1, .slice A2 x.f2.length c2]] W fun e w' => e = .returned (.bool true) ∧ Below W.heap.size W w' := by
  have hlen := hs.1
  have hrows := Lib.hid hs.2
  clear hs
  have H0 := Aside0.mk ((Cx.start0 (Φ := (HP.rd k42 A l).and (HP.rd (Kd.int .i64) A2 x.f2)) ⟨Kd.C_F heap42 hC, Kd.C_F (Kd.heap_int _) hC2⟩).alloc (.cells #[.int .i64 x.f0, .int .i64 x.f1, .slice A2 x.f2.length c2] 42 (0, 0)))
  replace hg := Aside0.mk hg
  have d1 := H0.out.cell 0 rfl 1 rfl
  have d2 := H0.out.cell 0 rfl 2 rfl
  clear hC hC2
  go_enter Try.func5, Try.ntmps5
  go_wp2_with fail
  refine pop_nil.mono ?_
  rintro e w1 ⟨rfl, rfl⟩
  go_wp2_with fail
  refine (at_nil _).mono ?_
  rintro e w1 ⟨rfl, rfl⟩
  go_wp2_with fail
  refine rows_nil.mono ?_
  rintro e w1 ⟨rfl, rfl⟩
  go_wp2_with fail
  refine len_nil.mono ?_
  rintro e w1 ⟨rfl, rfl⟩
  go_wp2_with fail
  refine words_nil.mono ?_
  rintro e w1 ⟨rfl, rfl⟩
  go_wp2_with fail
  refine (push_nil _).mono ?_
  rintro e w1 ⟨rfl, rfl⟩
  go_wp2_with fail
  refine clone_nil.mono ?_
  rintro e w1 ⟨rfl, rfl⟩
  go_wp2_with fail
  refine (H0.out.cskip (fun Z hZ => Cx.toBelow (rifflelaw11_Great.calls 1000 A c l false _ (HP.rd_now hZ.1) hl hg.out))).mono ?_
  rintro e w2 ⟨rfl, H1⟩
  replace H1 := Aside0.mk H1
  clear H0 d1 d2
  have d2 := H1.out.cell 0 rfl 2 rfl
  go_wp2_with fail
  clear d2
  refine (H1.out.cnew (new_made (rows := 3) (width := 2) (by omega) (by omega) (by omega) (by omega))).mono ?_
  rintro e w3 ⟨g, rfl, H2⟩
  replace H2 := Aside0.mk (H2.alloc (.cells #[.slice none 0 0, .int .i64 3, .int .i64 2] 40 (0, 0)))
  clear H1
  go_wp2
  go_loopw [82] (fun i wr => ∃ (k : Nat) (L : List (List Int)) (A1 : Option Addr) (c1 : Nat), k ≤ l.length ∧ i = .int .i64 k ∧ Aside0 (Cx (fun _ => False) (fun k => k < W.heap.size) W wr (((HP.rd k42 A l).and (HP.rd (Kd.int .i64) A2 x.f2)).and (HP.val KR (.slice A1 L.length c1) L)) [HP.blk W.heap.size (.cells #[.int .i64 x.f0, .int .i64 x.f1, .slice A2 x.f2.length c2] 42 (0, 0)), RingH g 3 2 L, HP.blk w3.heap.size (.cells #[.slice A1 L.length c1, .int .i64 3, .int .i64 2] 40 (0, 0))])) (fun i _ => l.length - (intOf i).toNat)
  case atStart => exact ⟨0, [], none, 0, by omega, rfl, ⟨H2.out.imp (fun Z hZ => ⟨hZ, HP.val_nil _ _ _⟩)⟩⟩
  case round =>
    clear H2
    obtain ⟨k, L, A1, c1, hk, rfl, H⟩ := hrel
    have hL : L.length ≤ 64 := by obtain ⟨M, gn, h, _⟩ := H.out.get 1 rfl; have := h.bd; omega
    by_cases hlt : k < l.length
    · have hrow := hrows.out k hlt
      obtain ⟨⟨ad, A3, c3, y⟩, ⟨rfl, hy, d0, d1, d2, hle⟩, H1⟩ := H.out.more (fun Z hZ => deed_at hZ.1.1 k hlt)
      simp only at hy d0 d1 d2 hle H1
      rw [hy] at hrow
      replace H1 := Aside0.mk H1
      clear H hy
      have e0 := cell_al (H1.out.cell 2 rfl 0 rfl)
      have e1 := cell_al (H1.out.cell 2 rfl 1 rfl)
      have e2 := cell_al (H1.out.cell 2 rfl 2 rfl)
      go_wp2_with fail
      refine ((H1.out.junk _).cuval 1 rfl (fun M Z hM hZ hd => does_any hM _ hZ.1.2 A3 c3 y.f2 hZ.2 hle hd hL hrow _ _)).mono ?_
      rintro e w4 ⟨A4, c4, rfl, H4⟩
      generalize hS : stepF 3 2 L y.f0 y.f2 = L' at *
      replace H4 := Aside0.mk H4
      replace hS := Lib.hid hS
      clear H1 d0 d1 d2 e0 e1 e2
      have e0 := H4.out.cell 2 rfl 0 rfl
      have e1 := H4.out.cell 2 rfl 1 rfl
      have e2 := H4.out.cell 2 rfl 2 rfl
      have ef := fun j => H4.out.unfrozen 2 rfl j
      go_wp2
      go_roundw
      case rel => exact ⟨k + 1, L', A4, c4, by omega, by go_num, ⟨(((H4.out.put 2 rfl 0 (.slice A4 L'.length c4)).put 2 rfl 1 (.int .i64 3)).put 2 rfl 2 (.int .i64 2)).imp (Φ' := ((HP.rd k42 (some ad) l).and (HP.rd (Kd.int .i64) A2 x.f2)).and (HP.val KR (.slice A4 L'.length c4) L')) (fun Z hZ => ⟨hZ.1.1.1, hZ.2⟩)⟩⟩
      case measure => simp [intOf]; omega
    · have hsm := Aside0.mk (ring_self (H.out.get 1 rfl).choose_spec)
      go_wp2_with fail
      obtain ⟨M, hM⟩ := H.out.get 1 rfl
      refine (H.out.cnew (clone_made hM)).mono ?_
      clear hM
      rintro e w4 ⟨g', rfl, H1⟩
      replace H1 := Aside0.mk H1
      clear H
      have e0 := H1.out.cell 2 rfl 0 rfl
      have e1 := H1.out.cell 2 rfl 1 rfl
      have e2 := H1.out.cell 2 rfl 2 rfl
      go_wp2_with fail
      refine (H1.out.cobj 3 rfl (fun M Z hM hZ hd => same_ok hM _ hZ.2 hd hsm)).mono ?_
      rintro e w5 ⟨rfl, H2⟩
      replace H2 := Aside0.mk H2
      clear H1 e0 e1 e2
      have e0 := H2.out.cell 2 rfl 0 rfl
      have e1 := H2.out.cell 2 rfl 1 rfl
      have e2 := H2.out.cell 2 rfl 2 rfl
      have d0 := H2.out.cell 0 rfl 0 rfl
      have d1 := H2.out.cell 0 rfl 1 rfl
      have d2 := H2.out.cell 0 rfl 2 rfl
      go_wp2_with fail
      refine (H2.out.cuval 3 rfl (fun M Z hM hZ hd => does_any hM _ hZ.2 A2 c2 x.f2 hZ.1.2 hl2 hd hL hx _ _)).mono ?_
      rintro e w6 ⟨A4, c4, rfl, H3⟩
      have hsm2 := Aside0.mk (ring_self (H3.get 3 rfl).choose_spec)
      generalize hS : stepF 3 2 L x.f0 x.f2 = L' at *
      replace H3 := Aside0.mk (H3.alloc (.cells #[.slice A4 L'.length c4, .int .i64 3, .int .i64 2] 40 (0, 0)))
      replace hS := Lib.hid hS
      clear H2 e0 e1 e2 d0 d1 d2
      have e0 := H3.out.cell 2 rfl 0 rfl
      have e1 := H3.out.cell 2 rfl 1 rfl
      have e2 := H3.out.cell 2 rfl 2 rfl
      go_wp2_with fail
      refine (H3.out.cobj 3 rfl (fun M Z hM hZ hd => same_ok hM _ hZ.2 hd hsm2)).mono ?_
      rintro e w7 ⟨rfl, H4⟩
      replace H4 := Aside0.mk H4
      clear H3 e0 e1 e2
      have e0 := H4.out.cell 2 rfl 0 rfl
      have e1 := H4.out.cell 2 rfl 1 rfl
      have e2 := H4.out.cell 2 rfl 2 rfl
      go_wp2_with fail
      refine (H4.out.cobj 1 rfl (fun M Z hM hZ hd => same_ok hM _ hZ.1.2 hd hsm)).mono ?_
      rintro e w8 ⟨rfl, H5⟩
      replace H5 := Aside0.mk H5
      clear H4 e0 e1 e2
      go_wp2_with fail
      refine (lives_ok _).mono ?_
      rintro e wl ⟨rfl, hb⟩
      replace H1 := Aside0.mk (H5.out.skip hb)
      clear hb
      go_wp2
      go_ret
      exact ⟨rfl, H1.out.below⟩
end
theorem apart_walk (w : World) (A : Option Addr) (c : Nat) (l : List S42) (hl : l.length ≤ c) (hC : k42.C w A l.length l) (_hw : ∀ x ∈ l, I64wf x.f0 ∧ I64wf x.f1 ∧ ∀ y ∈ x.f2, I64wf y) (cs : Array Value) (x : S42) (hk : k42.K w x (Value.agg cs).cells.toList) (_hw2 : I64wf x.f0 ∧ I64wf x.f1 ∧ ∀ y ∈ x.f2, I64wf y) :
    Calls Try.prog 5 #[.slice A l.length c, .agg cs] w fun e w' => e = .returned (.bool true) ∧ Below w.heap.size w w' := by
  obtain ⟨A2, c2, he, hl2, hC2⟩ := k42_open hk
  obtain rfl : cs = #[.int .i64 x.f0, .int .i64 x.f1, .slice A2 x.f2.length c2] := by
    have : cs.toList = _ := he
    rw [← Array.toList_inj, this]
  obtain ⟨r, hr, hx⟩ := RPure.great_any l hC.2.1
  cases r with
  | true => exact apart_great A c l hl hC A2 c2 x hl2 hC2 hr
  | false =>
    by_cases hlong : 100 < x.f2.length
    · exact apart_long A c l hl hC A2 c2 x hl2 hC2 hr hlong
    · exact apart_small A c l hl hC A2 c2 x hl2 hC2 hr (hx rfl) (by omega)
end Go.Proofs.Ytpakcfbjjlmcaaa.Ring
