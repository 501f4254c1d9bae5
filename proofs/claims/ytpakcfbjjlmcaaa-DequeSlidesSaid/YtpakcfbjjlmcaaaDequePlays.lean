/- DequePlays and DequeApart, walked. No condition but that the arguments read. -/
import Derived.Test.YtpakcfbjjlmcaaaDequeLaw
import Derived.Test.YtpakcfbjjlmcaaaOpen
set_option linter.unusedVariables false
set_option linter.unusedSimpArgs false
set_option maxHeartbeats 1600000
set_option maxRecDepth 100000
namespace Go.Proofs.Ytpakcfbjjlmcaaa.Deque
open Go.RowKit Go.RK Go.DQ Go.Proofs.YtpakcfbjjlmcaaaW.PrintWords Go.Proofs.Ytpakcfbjjlmcaaa.PAll
variable {W : World} {M Z : Nat → Prop} {g n : Nat} {least : Bool} {most p : Int} {L : List Int}
/-- a deed: drop, or push of a number -/
abbrev KD : Kd (Bool × Int) := Kd.pair Kd.bool KI
theorem heapD : Kd.Heap KD := Kd.heap_pair Kd.heap_bool (Kd.heap_int _)
theorem at_D {A : Option Addr} {l : List (Bool × Int)} (h : (HP.rd KD A l).at_ W M) (k : Nat) (hk : k < l.length) : ∃ ad b x, A = some ad ∧ l[k]? = some (b, x) ∧ W.cell? (ad.add (k * 2)) = some (.bool b) ∧ W.cell? ⟨(ad.add (k * 2)).block, (ad.add (k * 2)).off + 1, none⟩ = some (.int .i64 x) := by
  obtain ⟨ad, cs, e, hK, hc⟩ := HP.rd_get h k (List.getElem?_eq_getElem hk)
  obtain ⟨c1, c2, rfl, h1, h2⟩ := HP.foot_now hK
  have h1 : c1 = [.bool l[k].1] := h1
  have h2 : c2 = [.int .i64 l[k].2] := h2
  subst h1 h2
  refine ⟨ad, l[k].1, l[k].2, e, List.getElem?_eq_getElem hk, ?_, ?_⟩
  · exact hc 0 _ rfl
  · rw [← add_field _ _ 1 (by omega)]; exact hc 1 _ rfl
theorem step_len {b : Bool} {x : Int} (hl : (L.length : Int) ≤ most) : ((stepF most L b x).length : Int) ≤ most := by
  unfold stepF
  split
  · rw [List.length_tail]; omega
  · split
    · exact hl
    · simp; omega
theorem lives_ok : Calls Try.prog 47 #[] W fun e w' => e = .returned (.bool true) ∧ Below W.heap.size W w' := by
  have H0 := Aside0.mk (Cx.startz (W := W) (Φ := HP.tt) (Z := fun _ => False) trivial)
  have hK : Hid (riffleref13_Kept.f 2001000 [5, 3, 4] false = some [5, 4]) := Lib.hid (DQL.refKept _ _ (by simp) (by omega) false 0)
  have hB : Hid (riffleref13_Best.f 2001000 [3, 4] false = some (4, true)) := Lib.hid (DQL.refBest_cons _ 3 [4] (by simp) (by omega) false)
  have hN := Aside0.mk (RPure.nums_self [5, 4] (by simp) 2000 (by simp))
  generalize hKK : ([5, 4] : List Int) = K at hK hN
  have hKl : K.length = 2 := by rw [← hKK]; rfl
  have hcells : ∀ {W : World} {g : Nat} {M : Nat → Prop}, (HP.blk g (.cells #[.int .i64 5, .int .i64 4] 2 (0, 0))).at_ W M → KI.C W (some ⟨g, 0, none⟩) K.length K ∧ K.length ≤ 2 := by
    intro W g M h
    have hv : (HP.val KI (.slice (some ⟨g, 0, none⟩) K.length 2) K).at_ W M := by
      have h1 := raw_lit (base := 0) h (Nat.zero_le _) (n := 2) rfl (by omega)
      rw [← hKK]
      exact HP.val_of (d := KI) (xs := [5, 4]) h1 (HP.reps_scalar _ _ rfl)
    exact ⟨HP.val_C hv, HP.val_le hv⟩
  rw [hKl] at hcells
  replace hcells := Aside0.mk @hcells
  replace hKK := Lib.hid hKK
  go_enter Try.func47, Try.ntmps47
  go_wp2_with fail
  refine (H0.out.cnew (new_win (least := false) 5 (by omega) (by omega))).mono ?_
  rintro e w1 ⟨g, rfl, H1⟩
  replace H1 := Aside0.mk H1
  go_wp2_with fail
  refine (H1.out.cobj 0 rfl (fun M Z hM hZ hd => win_push 5 [5] 0 (Lib.hid ⟨by simp, by simp⟩) hM hd (by omega))).mono ?_
  rintro e w2 ⟨rfl, H2⟩
  replace H2 := Aside0.mk H2
  go_wp2_with fail
  refine (H2.out.cobj 0 rfl (fun M Z hM hZ hd => win_push 3 [5, 3] 0 (Lib.hid ⟨by simp, by simp⟩) hM hd (by omega))).mono ?_
  rintro e w3 ⟨rfl, H3⟩
  replace H3 := Aside0.mk H3
  go_wp2_with fail
  refine (H3.out.cobj 0 rfl (fun M Z hM hZ hd => win_push 4 [5, 3, 4] 0 (Lib.hid ⟨by simp, by simp⟩) hM hd (by omega))).mono ?_
  rintro e w4 ⟨rfl, H4⟩
  replace H4 := Aside0.mk H4
  go_wp2_with fail
  refine (H4.out.crval 0 rfl (fun M hM => win_kept (Z := fun _ => False) K hK hM (by omega))).mono ?_
  rintro e w5 ⟨A5, c5, rfl, H5⟩
  replace H5 := Aside0.mk (H5.allocF (.cells #[.int .i64 5, .int .i64 4] 2 (0, 0)))
  go_wp2_with fail
  have hq := fun (W : World) (A A1 : Option Addr) (c c1 : Nat) (h1 : KI.C W A K.length K) (h2 : K.length ≤ c) (h3 : KI.C W A1 K.length K) (h4 : K.length ≤ c1) => riffleref03_Nums.calls 2000 A c K A1 c1 K true W h1 h2 h3 h4 hN.out
  rw [hKl] at hq
  replace hq := Aside0.mk hq
  refine (H5.out.cskip (fun Z hZ => Cx.toBelow (hq.out _ _ _ _ _ (by have := HP.val_C hZ.1.2; rw [hKl] at this; exact this) (by have := HP.val_le hZ.1.2; rw [hKl] at this; exact this) (hcells.out hZ.2).1 (hcells.out hZ.2).2))).mono ?_
  rintro e w6 ⟨rfl, H6⟩
  replace H6 := Aside0.mk H6
  go_wp2_with fail
  refine (H6.out.cobj 0 rfl (fun M Z hM hZ hd => win_drop [3, 4] true (Lib.hid ⟨rfl, rfl⟩) hM hd (by omega))).mono ?_
  rintro e w7 ⟨rfl, H7⟩
  replace H7 := Aside0.mk H7
  go_wp2_with fail
  refine (H7.out.cread 0 rfl (fun M hM => win_best 4 true hB hM (by omega))).mono ?_
  rintro e w8 ⟨rfl, H8⟩
  replace H8 := Aside0.mk H8
  go_wp2
  go_ret
  exact ⟨rfl, H8.out.below⟩
theorem plays_not (A : Option Addr) (c : Nat) (l : List (Bool × Int)) (h : ¬ (1 ≤ most ∧ most ≤ 64)) :
    Calls Try.prog 9 #[.bool least, .int .i64 most, .slice A l.length c] W fun e w' => e = .returned (.bool true) ∧ Below W.heap.size W w' := by
  have H := Lib.hid h
  by_cases h1 : most < 1
  · clear h
    go_enter Try.func9, Try.ntmps9
    go_wp2_with fail
    refine (new_no most H.out).mono ?_
    rintro e w1 ⟨rfl, rfl⟩
    go_wp2_with fail
    refine lives_ok.mono ?_
    rintro e w3 ⟨rfl, hb⟩
    go_wp2
    go_ret
    exact ⟨rfl, hb⟩
  · have h2 : 64 < most := by omega
    clear h
    go_enter Try.func9, Try.ntmps9
    go_wp2_with fail
    refine (new_no most H.out).mono ?_
    rintro e w1 ⟨rfl, rfl⟩
    go_wp2_with fail
    refine lives_ok.mono ?_
    rintro e w3 ⟨rfl, hb⟩
    go_wp2
    go_ret
    exact ⟨rfl, hb⟩
theorem plays_ok (A : Option Addr) (c : Nat) (l : List (Bool × Int)) (hl : l.length ≤ c) (hC : KD.C W A l.length l) (h : 1 ≤ most ∧ most ≤ 64) :
    Calls Try.prog 9 #[.bool least, .int .i64 most, .slice A l.length c] W fun e w' => e = .returned (.bool true) ∧ Below W.heap.size W w' := by
  have H0 := Aside0.mk (Cx.start0 (Φ := HP.rd KD A l) (Kd.C_F heapD hC))
  have h1 := h.1
  have h2 := h.2
  by_cases hg : 100 < l.length
  · clear hC h
    go_enter Try.func9, Try.ntmps9
    go_wp2_with fail
    refine (H0.out.cnew (new_win (least := least) most h1 h2)).mono ?_
    rintro e w1 ⟨g, rfl, H1⟩
    replace H1 := Aside0.mk H1
    clear H0
    go_wp2_with fail
    refine lives_ok.mono ?_
    rintro e wl ⟨rfl, hb⟩
    have HL := Aside0.mk (H1.out.skip hb)
    clear hb
    go_wp2
    go_ret
    exact ⟨rfl, HL.out.below⟩
  · have hlen : l.length ≤ 100 := by omega
    clear hC h hg
    go_enter Try.func9, Try.ntmps9
    go_wp2_with fail
    refine (H0.out.cnew (new_win (least := least) most h1 h2)).mono ?_
    rintro e w1 ⟨g, rfl, H1⟩
    replace H1 := Aside0.mk H1
    clear H0
    go_wp2
    go_loopw [9, 47] (fun v i wr => ∃ (k : Nat) (L : List Int) (A1 : Option Addr) (c1 : Nat), k ≤ l.length ∧ i = .int .i64 k ∧ v = .slice A1 L.length c1 ∧ (L.length : Int) ≤ most ∧ Aside0 (Cx (fun _ => False) (fun k => k < W.heap.size) W wr ((HP.rd KD A l).and (HP.val KI (.slice A1 L.length c1) L)) [Win k g least most L])) (fun _ i _ => l.length - (intOf i).toNat)
    case atStart => exact ⟨0, [], none, 0, by omega, rfl, rfl, by simp; omega, ⟨H1.out.imp (fun Z hZ => ⟨hZ, HP.val_nil _ _ _⟩)⟩⟩
    case round =>
      clear H1
      obtain ⟨k, L, A1, c1, hk, rfl, rfl, hL, H⟩ := hrel
      by_cases hlt : k < l.length
      · obtain ⟨Z, hZ⟩ := H.out.now
        obtain ⟨ad, b, x, rfl, _, d0, d1⟩ := at_D hZ.1 k hlt
        clear hZ
        go_wp2_with fail
        refine ((H.out.junk _).cuval 0 rfl (fun M Z hM hZ hd => does_any hM _ hZ.2 hd (by omega) (by omega) b x)).mono ?_
        rintro e w4 ⟨A4, c4, rfl, H4⟩
        have hL4 := step_len (b := b) (x := x) hL
        generalize hS : stepF most L b x = L' at *
        replace H4 := Aside0.mk H4
        replace hS := Lib.hid hS
        clear d0 d1
        go_wp2_with fail
        refine (H4.out.cobj 0 rfl (fun M Z hM hZ hd => same_ok hM _ _ hZ.2 hd (by omega) (by omega))).mono ?_
        rintro e w5 ⟨rfl, H5⟩
        replace H5 := Aside0.mk H5
        go_wp2
        go_roundw
        case rel => exact ⟨k + 1, L', A4, c4, by omega, by go_num, rfl, hL4, ⟨H5.out.imp (Φ' := (HP.rd KD (some ad) l).and (HP.val KI (.slice A4 L'.length c4) L')) (fun Z hZ => ⟨hZ.1.1, hZ.2⟩)⟩⟩
        case measure => simp [intOf]; omega
      · go_wp2_with fail
        refine lives_ok.mono ?_
        rintro e wl ⟨rfl, hb⟩
        have HL := Aside0.mk (H.out.skip hb)
        clear hb
        go_wp2
        go_ret
        exact ⟨rfl, HL.out.below⟩
theorem plays_walk (w : World) (least : Bool) (most : Int) (_h1 : I64wf most) (A : Option Addr) (c : Nat) (l : List (Bool × Int)) (hl : l.length ≤ c) (hC : KD.C w A l.length l) (_hw : ∀ x ∈ l, True ∧ I64wf x.2) :
    Calls Try.prog 9 #[.bool least, .int .i64 most, .slice A l.length c] w fun e w' => e = .returned (.bool true) ∧ Below w.heap.size w w' := by
  by_cases h : 1 ≤ most ∧ most ≤ 64
  · exact plays_ok A c l hl hC h
  · exact plays_not A c l h
end Go.Proofs.Ytpakcfbjjlmcaaa.Deque
