/- DequeApart, walked. No condition but that the arguments read. -/
import Derived.Test.YtpakcfbjjlmcaaaDequePlays
set_option linter.unusedVariables false
set_option linter.unusedSimpArgs false
set_option maxHeartbeats 1600000
set_option maxRecDepth 100000
namespace Go.Proofs.Ytpakcfbjjlmcaaa.Deque
open Go.RowKit Go.RK Go.DQ Go.Proofs.YtpakcfbjjlmcaaaW.PrintWords Go.Proofs.Ytpakcfbjjlmcaaa.PAll
variable {W : World} {M Z : Nat → Prop} {g n : Nat} {least : Bool} {most p : Int} {L : List Int}
section
variable (A : Option Addr) (c : Nat) (l : List (Bool × Int)) (hl : l.length ≤ c) (hC : KD.C W A l.length l) (x : Bool × Int)
include hl hC
theorem apart_great (hg : 100 < l.length) :
    Calls Try.prog 11 #[.bool least, .slice A l.length c, .agg #[.bool x.1, .int .i64 x.2]] W fun e w' => e = .returned (.bool true) ∧ Below W.heap.size W w' := by
  have _h := hl
  have H0 := Aside0.mk ((Cx.start0 (Φ := HP.rd KD A l) (Kd.C_F heapD hC)).alloc (box x.1 x.2))
  clear hC
  go_enter Try.func11, Try.ntmps11
  go_wp2_with fail
  refine best_nil.mono ?_
  rintro e w1 ⟨rfl, rfl⟩
  go_wp2_with fail
  refine drop_nil.mono ?_
  rintro e w1 ⟨rfl, rfl⟩
  go_wp2_with fail
  refine len_nil.mono ?_
  rintro e w1 ⟨rfl, rfl⟩
  go_wp2_with fail
  refine kept_nil.mono ?_
  rintro e w1 ⟨rfl, rfl⟩
  go_wp2_with fail
  refine (H0.out.cskip (fun Z hZ => push_nil _)).mono ?_
  rintro e w2 ⟨rfl, H1⟩
  replace H1 := Aside0.mk H1
  clear H0
  go_wp2_with fail
  refine clone_nil.mono ?_
  rintro e w1 ⟨rfl, rfl⟩
  go_wp2_with fail
  refine lives_ok.mono ?_
  rintro e wl ⟨rfl, hb⟩
  have HL := Aside0.mk (H1.out.skip hb)
  clear hb
  go_wp2
  go_ret
  exact ⟨rfl, HL.out.below⟩
theorem apart_small (hlen : l.length ≤ 100) :
    Calls Try.prog 11 #[.bool least, .slice A l.length c, .agg #[.bool x.1, .int .i64 x.2]] W fun e w' => e = .returned (.bool true) ∧ Below W.heap.size W w' := by
  have _h := hl
  have H0 := Aside0.mk ((Cx.start0 (Φ := HP.rd KD A l) (Kd.C_F heapD hC)).alloc (box x.1 x.2))
  clear hC
  go_enter Try.func11, Try.ntmps11
  go_wp2_with fail
  refine best_nil.mono ?_
  rintro e w1 ⟨rfl, rfl⟩
  go_wp2_with fail
  refine drop_nil.mono ?_
  rintro e w1 ⟨rfl, rfl⟩
  go_wp2_with fail
  refine len_nil.mono ?_
  rintro e w1 ⟨rfl, rfl⟩
  go_wp2_with fail
  refine kept_nil.mono ?_
  rintro e w1 ⟨rfl, rfl⟩
  go_wp2_with fail
  refine (H0.out.cskip (fun Z hZ => push_nil _)).mono ?_
  rintro e w2 ⟨rfl, H1⟩
  replace H1 := Aside0.mk H1
  clear H0
  go_wp2_with fail
  refine clone_nil.mono ?_
  rintro e w1 ⟨rfl, rfl⟩
  go_wp2_with fail
  refine (H1.out.cnew (new_win (least := least) 6 (by omega) (by omega))).mono ?_
  rintro e w3 ⟨g, rfl, H2⟩
  replace H2 := Aside0.mk H2
  clear H1
  go_wp2
  go_loopw [12, 66] (fun v i wr => ∃ (k : Nat) (L : List Int) (A1 : Option Addr) (c1 : Nat), k ≤ l.length ∧ i = .int .i64 k ∧ v = .slice A1 L.length c1 ∧ (L.length : Int) ≤ 6 ∧ Aside0 (Cx (fun _ => False) (fun k => k < W.heap.size) W wr ((HP.rd KD A l).and (HP.val KI (.slice A1 L.length c1) L)) [HP.blk W.heap.size (box x.1 x.2), Win k g least 6 L])) (fun _ i _ => l.length - (intOf i).toNat)
  case atStart => exact ⟨0, [], none, 0, by omega, rfl, rfl, by simp, ⟨H2.out.imp (fun Z hZ => ⟨hZ, HP.val_nil _ _ _⟩)⟩⟩
  case round =>
    clear H2
    obtain ⟨k, L, A1, c1, hk, rfl, rfl, hL, H⟩ := hrel
    by_cases hlt : k < l.length
    · obtain ⟨Z, hZ⟩ := H.out.now
      obtain ⟨ad, b, y, rfl, _, d0, d1⟩ := at_D hZ.1 k hlt
      clear hZ
      go_wp2_with fail
      refine ((H.out.junk _).cuval 1 rfl (fun M Z hM hZ hd => does_any hM _ hZ.2 hd (by omega) (by omega) b y)).mono ?_
      rintro e w4 ⟨A4, c4, rfl, H4⟩
      have hL4 := step_len (b := b) (x := y) hL
      generalize hS : stepF 6 L b y = L' at *
      replace H4 := Aside0.mk H4
      replace hS := Lib.hid hS
      clear d0 d1
      go_wp2
      go_roundw
      case rel => exact ⟨k + 1, L', A4, c4, by omega, by go_num, rfl, hL4, ⟨H4.out.imp (Φ' := (HP.rd KD (some ad) l).and (HP.val KI (.slice A4 L'.length c4) L')) (fun Z hZ => ⟨hZ.1.1, hZ.2⟩)⟩⟩
      case measure => simp [intOf]; omega
    · go_wp2_with fail
      obtain ⟨M, hM⟩ := H.out.get 1 rfl
      refine (H.out.cnew (win_clone hM (by omega))).mono ?_
      clear hM
      rintro e w4 ⟨g', rfl, H1⟩
      replace H1 := Aside0.mk H1
      clear H
      go_wp2_with fail
      refine (H1.out.cobj 2 rfl (fun M Z hM hZ hd => same_ok hM _ _ hZ.2 hd (by omega) (by omega))).mono ?_
      rintro e w5 ⟨rfl, H2⟩
      replace H2 := Aside0.mk H2
      clear H1
      have d0 := H2.out.cell 0 rfl 0 rfl
      have d1 := H2.out.cell 0 rfl 1 rfl
      go_wp2_with fail
      refine (H2.out.cuval 2 rfl (fun M Z hM hZ hd => does_any hM _ hZ.2 hd (by omega) (by omega) x.1 x.2)).mono ?_
      rintro e w6 ⟨A4, c4, rfl, H3⟩
      have hL4 := step_len (b := x.1) (x := x.2) hL
      generalize hS : stepF 6 L x.1 x.2 = L' at *
      replace H3 := Aside0.mk H3
      replace hS := Lib.hid hS
      clear H2 d0 d1
      go_wp2_with fail
      refine (H3.out.cobj 2 rfl (fun M Z hM hZ hd => same_ok hM _ _ hZ.2 hd (by omega) (by omega))).mono ?_
      rintro e w7 ⟨rfl, H4⟩
      replace H4 := Aside0.mk H4
      clear H3
      go_wp2_with fail
      refine (H4.out.cobj 1 rfl (fun M Z hM hZ hd => same_ok hM _ _ hZ.1.2 hd (by omega) (by omega))).mono ?_
      rintro e w8 ⟨rfl, H5⟩
      replace H5 := Aside0.mk H5
      clear H4
      go_wp2_with fail
      refine lives_ok.mono ?_
      rintro e wl ⟨rfl, hb⟩
      have HL := Aside0.mk (H5.out.skip hb)
      clear hb
      go_wp2
      go_ret
      exact ⟨rfl, HL.out.below⟩
end
theorem apart_walk (w : World) (least : Bool) (A : Option Addr) (c : Nat) (l : List (Bool × Int)) (hl : l.length ≤ c) (hC : KD.C w A l.length l) (_hw : ∀ x ∈ l, True ∧ I64wf x.2) (cs : Array Value) (x : Bool × Int) (hk : KD.K w x (Value.agg cs).cells.toList) (_hx : True ∧ I64wf x.2) :
    Calls Try.prog 11 #[.bool least, .slice A l.length c, .agg cs] w fun e w' => e = .returned (.bool true) ∧ Below w.heap.size w w' := by
  obtain ⟨c1, c2, he, h1, h2⟩ := hk
  have h1 : c1 = [.bool x.1] := h1
  have h2 : c2 = [.int .i64 x.2] := h2
  subst h1 h2
  obtain rfl : cs = #[.bool x.1, .int .i64 x.2] := by
    have : cs.toList = _ := he
    rw [← Array.toList_inj, this]
    rfl
  by_cases h : 100 < l.length
  · exact apart_great A c l hl hC x h
  · exact apart_small A c l hl hC x (by omega)
end Go.Proofs.Ytpakcfbjjlmcaaa.Deque
