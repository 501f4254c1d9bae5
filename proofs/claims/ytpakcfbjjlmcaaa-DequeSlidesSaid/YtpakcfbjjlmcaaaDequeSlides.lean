/- DequeSlides, walked. No condition but that the arguments read. -/
import Derived.Test.YtpakcfbjjlmcaaaDequePlays
import Derived.Test.YtpakcfbjjlmcaaaDequeSlidesPure
set_option linter.unusedVariables false
set_option linter.unusedSimpArgs false
set_option maxHeartbeats 16000000
set_option maxRecDepth 100000
namespace Go.Proofs.Ytpakcfbjjlmcaaa.Deque
open Go.RowKit Go.RK Go.DQ Go.Proofs.YtpakcfbjjlmcaaaW.PrintWords Go.Proofs.Ytpakcfbjjlmcaaa.PAll Go.Proofs.Ytpakcfbjjlmcaaa.DQL
variable {W : World} {M Z : Nat → Prop} {g n : Nat} {least : Bool} {most p : Int} {L : List Int}
theorem slides_great (A : Option Addr) (c : Nat) (l : List Int) (u : Int) (h : 300 < l.length) :
    Calls Try.prog 10 #[.slice A l.length c, .int .u64 u, .bool least] W fun e w' => e = .returned (.bool true) ∧ Below W.heap.size W w' := by
  go_enter Try.func10, Try.ntmps10
  go_wp2_with fail
  refine lives_ok.mono ?_
  rintro e w1 ⟨rfl, hb⟩
  go_wp2
  go_ret
  exact ⟨rfl, hb⟩
theorem nonempty_of {L : List Int} (h : 0 < L.length) : (!L.isEmpty) = true := by
  cases L with
  | nil => simp at h
  | cons y ys => rfl
/-- what the second loop has seen -/
def seen (l : List Int) (s j : Nat) (b : Int) : Bool := ((l.take j).drop s).any (fun y => y == b)
theorem seen_step (l : List Int) (s j : Nat) (b : Int) (hs : s ≤ j) (hj : j < l.length) : seen l s (j + 1) b = (seen l s j b || l[j] == b) := by
  unfold seen
  rw [List.take_succ_eq_append_getElem hj, List.drop_append_of_le_length (by rw [List.length_take]; omega), List.any_append]
  simp
theorem slides_small (A : Option Addr) (c : Nat) (l : List Int) (u : Int) (hC : (Kd.int .i64).C W A l.length l) (hwf : ∀ x ∈ l, I64wf x) (hu : 0 ≤ u ∧ u ≤ 18446744073709551615) (h : l.length ≤ 300) :
    Calls Try.prog 10 #[.slice A l.length c, .int .u64 u, .bool least] W fun e w' => e = .returned (.bool true) ∧ Below W.heap.size W w' := by
  obtain ⟨u0, u1⟩ := hu
  have H0 := Aside0.mk (Cx.start0 (Φ := HP.rd (Kd.int .i64) A l) (Kd.C_F (Kd.heap_int _) hC))
  have hwf := Lib.hid hwf
  have HU := Aside0.mk u1
  have m0 : 0 ≤ u % 64 := Int.emod_nonneg _ (by omega)
  have m1 : u % 64 < 64 := Int.emod_lt_of_pos _ (by omega)
  clear hC u1
  go_enter Try.func10, Try.ntmps10
  go_wp2_with fail
  obtain ⟨room, hroom⟩ : ∃ room, room = 1 + u % 64 := ⟨_, rfl⟩
  rw [← hroom]
  have r1 : 1 ≤ room := by omega
  have r2 : room ≤ 64 := by omega
  clear hroom m0 m1
  obtain ⟨m, hm⟩ : ∃ m : Nat, (m : Int) = room := ⟨room.toNat, Int.toNat_of_nonneg (by omega)⟩
  replace hm := Lib.hid hm
  refine (H0.out.cnew (new_win (least := least) room r1 r2)).mono ?_
  rintro e w1 ⟨g, rfl, H1⟩
  replace H1 := Aside0.mk H1
  go_wp2
  go_loopw [40] (fun i wr => ∃ k : Nat, k ≤ l.length ∧ i = .int .i64 k ∧ ∃ n ≤ 2 * k, Aside0 (Cx (fun _ => False) (fun k => k < W.heap.size) W wr (HP.rd (Kd.int .i64) A l) [Win n g least room (wn l m k)])) (fun i _ => l.length - (intOf i).toNat)
  case atStart => exact ⟨0, by omega, rfl, 0, by omega, by rw [show wn l m 0 = [] by simp [wn]]; exact H1⟩
  case round =>
    clear H1 H0
    obtain ⟨k, hk, rfl, n, hn, H⟩ := hrel
    by_cases hlt : k < l.length
    · have hlen := wn_len l m k hk
      have hmm := hm.out
      obtain ⟨ad, x, rfl, hx, hcell⟩ := rd_at (C_ints (HP.rd_now (H.out.now).choose_spec)) k hlt
      rw [List.getElem?_eq_getElem hlt] at hx
      injection hx with hx
      by_cases hfull : room ≤ (k : Int)
      · have hpu := wn_drop l m k hlt (by omega) (by omega)
        rw [hx] at hpu
        generalize hL : wn l m k = L at *
        have hne := nonempty_of (L := L) (by omega)
        have htl : L.tail.length = min k m - 1 := by rw [List.length_tail, hlen]
        obtain ⟨T, hLt⟩ : ∃ T, L.tail = T := ⟨_, rfl⟩
        rw [hLt] at hpu htl
        have hTd := Lib.hid (And.intro hLt hne)
        have hTp : Hid ((if (T.length : Int) = room then T else T ++ [x]) = wn l m (k + 1) ∧ (if (T.length : Int) = room then 19 else 0) = (0 : Int)) := Lib.hid ⟨by rw [if_neg (by omega)]; exact hpu, if_neg (by omega)⟩
        replace hpu := Lib.hid hpu
        replace hlen := Lib.hid hlen
        replace htl := Lib.hid htl
        replace hx := Lib.hid hx
        replace hL := Lib.hid hL
        clear hLt hmm hne
        go_wp2_with fail
        refine (H.out.cobj 0 rfl (fun M Z hM hZ hd => win_drop T true hTd hM hd (by omega))).mono ?_
        rintro e w2 ⟨rfl, H2⟩
        replace H2 := Aside0.mk H2
        go_wp2_with fail
        refine (H2.out.cobj 0 rfl (fun M Z hM hZ hd => win_push x _ 0 hTp hM hd (by omega))).mono ?_
        rintro e w3 ⟨rfl, H3⟩
        replace H3 := Aside0.mk H3
        obtain ⟨b, K, d, ht⟩ := told least T x (by rw [hpu.out, wn_len l m (k + 1) (by omega)]; have := hm.out; omega)
        rw [hpu.out] at ht
        have hlen1 := wn_len l m (k + 1) (by omega)
        have hBt := Lib.hid ht.best
        have hKt := Lib.hid ht.kept
        replace hlen1 := Lib.hid hlen1
        replace ht := Lib.hid ht
        have hs0 : IntKind.i64.wrap ((k : Int) - room) = (k : Int) - room := IntWalk.i64_in _ (by omega)
        have hs1 : IntKind.i64.wrap ((k : Int) - room + 1) = (k : Int) - room + 1 := IntWalk.i64_in _ (by omega)
        obtain ⟨s, hs⟩ : ∃ s : Nat, s = k + 1 - m := ⟨_, rfl⟩
        have hsk : s ≤ k := by have := hm.out; omega
        have hsv := Lib.hid (show ((k : Int) - room + 1) = (s : Int) by have := hm.out; omega)
        have hgood : Hid (∀ j, (h : j < l.length) → s ≤ j → j ≤ k → bt least b l[j] = true) := Lib.hid (fun j h h1 h2 => ht.out.good _ (by
          unfold wn
          rw [← hs, List.mem_iff_getElem?]
          exact ⟨j - s, by rw [List.getElem?_drop, List.getElem?_take, if_pos (by omega), show s + (j - s) = j by omega, List.getElem?_eq_getElem h]⟩))
        have hseen : Hid (seen l s (k + 1) b = true) := Lib.hid (by
          unfold seen
          rw [List.any_eq_true]
          refine ⟨b, ?_, by simp⟩
          have := ht.out.is
          unfold wn at this
          rw [hs]
          exact this)
        generalize hL1 : wn l m (k + 1) = L1 at *
        replace hL1 := Lib.hid hL1
        replace hs := Lib.hid hs
        go_wp2_with fail
        refine (H3.out.cread 0 rfl (fun M hM => win_best b true hBt hM (by omega))).mono ?_
        rintro e w4 ⟨rfl, H4⟩
        replace H4 := Aside0.mk H4
        clear H3
        go_wp2_with fail
        go_loop [14, 15] (fun v i => ∃ j : Nat, s ≤ j ∧ j ≤ k + 1 ∧ i = .int .i64 j ∧ v = .bool (seen l s j b)) (fun _ i => k + 1 - (intOf i).toNat)
        case atStart => exact ⟨s, Nat.le_refl _, by omega, by rw [hsv.out], by rw [seen, List.drop_of_length_le (by simp; omega)]; rfl⟩
        case round =>
          obtain ⟨j, hj1, hj2, rfl, rfl⟩ := hrel
          by_cases hjk : j ≤ k
          · have hjl : j < l.length := by omega
            obtain ⟨ad', y, h1, hy, hcy⟩ := rd_at (C_ints (HP.rd_now (H4.out.now).choose_spec)) j hjl
            injection h1 with h1
            subst h1
            rw [List.getElem?_eq_getElem hjl] at hy
            injection hy with hy
            have hst := seen_step l s j b hj1 hjl
            have hg := hgood.out j hjl hj1 hjk
            rw [hy] at hst hg
            generalize hq1 : seen l s (j + 1) b = q1 at *
            generalize hq0 : seen l s j b = q0 at *
            replace hst := Lib.hid hst
            replace hq1 := Lib.hid hq1
            replace hq0 := Lib.hid hq0
            replace hy := Lib.hid hy
            cases least with
            | true =>
              have hyb : b ≤ y := by simpa [DQ.bt] using hg
              cases q0 with
              | true =>
                go_wp2
                go_round
                case rel => exact ⟨j + 1, by omega, by omega, by go_num, by rw [hq1.out, hst.out]; rfl⟩
                case measure => simp [intOf]; omega
              | false =>
                go_wp2
                go_round
                case rel => exact ⟨j + 1, by omega, by omega, by go_num, by rw [hq1.out, hst.out]; rfl⟩
                case measure => simp [intOf]; omega
            | false =>
              have hyb : y ≤ b := by simpa [DQ.bt] using hg
              cases q0 with
              | true =>
                go_wp2
                go_round
                case rel => exact ⟨j + 1, by omega, by omega, by go_num, by rw [hq1.out, hst.out]; rfl⟩
                case measure => simp [intOf]; omega
              | false =>
                go_wp2
                go_round
                case rel => exact ⟨j + 1, by omega, by omega, by go_num, by rw [hq1.out, hst.out]; rfl⟩
                case measure => simp [intOf]; omega
          · obtain rfl : j = k + 1 := by omega
            rw [hseen.out]
            go_wp2_with fail
            refine (H4.out.crval 0 rfl (fun M hM => win_kept (Z := fun _ => False) K hKt hM (by omega))).mono ?_
            rintro e w5 ⟨A5, c5, rfl, H5⟩
            replace H5 := Aside0.mk H5
            clear H4
            have hKl := ht.out.len
            have hKd := ht.out.small
            have hKc := HP.val_C (H5.out.now).choose_spec.2
            obtain ⟨ad5, v0, rfl, hv0, hc0⟩ := rd_at (C_ints hKc) 0 (by omega)
            obtain ⟨ad6, v1, h6, hv1, hc1⟩ := rd_at (C_ints hKc) d (by omega)
            injection h6 with h6
            subst h6
            rw [ht.out.fst] at hv0
            injection hv0 with hv0
            subst hv0
            rw [ht.out.lst] at hv1
            injection hv1 with hv1
            subst hv1
            have hK0 : ((K.length : Int) == 0) = false := by rw [beq_eq_false_iff_ne]; omega
            have hK1 : IntKind.i64.wrap ((K.length : Int) - 1) = (d : Int) := by rw [hKl, IntWalk.i64_in _ (by omega)]; omega
            have hK2 : d < K.length := by omega
            have hK3 : 0 < K.length := by omega
            replace hKl := Lib.hid hKl
            have hc00 : w5.cell? ad5 = some (.int .i64 b) := by rwa [show ad5.add 0 = ad5 by cases ad5; simp [Addr.add]] at hc0
            clear hKc
            go_wp2
            go_loopw [17] (fun i wr => ∃ j q : Nat, Hid (q = j + 1) ∧ j ≤ d ∧ i = .int .i64 q ∧ Aside0 (Cx (fun _ => False) (fun k => k < W.heap.size) W wr ((HP.rd (Kd.int .i64) (some ad) l).and (HP.val KI (.slice (some ad5) K.length c5) K)) [Win (n + 2) g least room L1])) (fun i _ => d + 1 - (intOf i).toNat)
            case atStart => exact ⟨0, 1, Lib.hid rfl, by omega, rfl, H5⟩
            case round =>
              clear H5 hc0 hc00 hc1
              obtain ⟨j, q, hq, hj, rfl, H6⟩ := hrel
              by_cases hjd : j < d
              · obtain ⟨Z6, hz6⟩ := H6.out.now
                have hKc := HP.val_C hz6.2
                obtain ⟨ad7, p1, h7, hp1, hc0⟩ := rd_at (C_ints hKc) j (by omega)
                injection h7 with h7
                subst h7
                obtain ⟨ad7, p2, h7, hp2, hc1⟩ := rd_at (C_ints hKc) q (by have := hq.out; omega)
                injection h7 with h7
                subst h7
                have hup := ht.out.up j p1 p2 hp1 (by rw [← hq.out]; exact hp2)
                have hq1 : IntKind.i64.wrap ((q : Int) - 1) = (j : Int) := by rw [IntWalk.i64_in _ (by have := hq.out; omega)]; have := hq.out; omega
                have hq2 : q < K.length := by have := hq.out; omega
                have hq3 : j < K.length := by omega
                have hq4 : q ≤ 1000 := by have := hq.out; omega
                clear hz6 hKc hp1 hp2
                cases least with
                | true =>
                  have hyb : p1 < p2 := by simpa [DQ.bt] using hup
                  have hz3 : decide (p2 ≤ p1) = false := decide_eq_false (by omega)
                  clear hup hyb
                  go_wp2
                  go_region
                  all_goals
                    go_wp2
                    go_roundw
                    case rel => exact ⟨j + 1, q + 1, Lib.hid (by have := hq.out; omega), by omega, by go_num, ⟨H6.out.drew⟩⟩
                    case measure => have := hq.out; simp [intOf]; omega
                | false =>
                  have hyb : p2 < p1 := by simpa [DQ.bt] using hup
                  have hz3 : decide (p1 ≤ p2) = false := decide_eq_false (by omega)
                  clear hup hyb
                  go_wp2
                  go_region
                  all_goals
                    go_wp2
                    go_roundw
                    case rel => exact ⟨j + 1, q + 1, Lib.hid (by have := hq.out; omega), by omega, by go_num, ⟨H6.out.drew⟩⟩
                    case measure => have := hq.out; simp [intOf]; omega
              · have hq2 : ¬ (q < K.length) := by have := hq.out; have := hKl.out; omega
                go_wp2
                go_roundw
                case rel => exact ⟨k + 1, by omega, by go_num, (n + 2), by omega, by rw [hL1.out]; exact ⟨H6.out.fst⟩⟩
                case measure => simp [intOf]; omega
      · have hpu := wn_push l m k hlt (by omega)
        rw [hx] at hpu
        generalize hL : wn l m k = L at *
        have hTp : Hid ((if (L.length : Int) = room then L else L ++ [x]) = wn l m (k + 1) ∧ (if (L.length : Int) = room then 19 else 0) = (0 : Int)) := Lib.hid ⟨by rw [if_neg (by omega)]; exact hpu, if_neg (by omega)⟩
        replace hpu := Lib.hid hpu
        replace hlen := Lib.hid hlen
        replace hx := Lib.hid hx
        replace hL := Lib.hid hL
        clear hmm
        go_wp2_with fail
        refine (H.out.cobj 0 rfl (fun M Z hM hZ hd => win_push x _ 0 hTp hM hd (by omega))).mono ?_
        rintro e w3 ⟨rfl, H3⟩
        replace H3 := Aside0.mk H3
        obtain ⟨b, K, d, ht⟩ := told least L x (by rw [hpu.out, wn_len l m (k + 1) (by omega)]; have := hm.out; omega)
        rw [hpu.out] at ht
        have hlen1 := wn_len l m (k + 1) (by omega)
        have hBt := Lib.hid ht.best
        have hKt := Lib.hid ht.kept
        replace hlen1 := Lib.hid hlen1
        replace ht := Lib.hid ht
        have hs0 : IntKind.i64.wrap ((k : Int) - room) = (k : Int) - room := IntWalk.i64_in _ (by omega)
        have hs1 : IntKind.i64.wrap ((k : Int) - room + 1) = (k : Int) - room + 1 := IntWalk.i64_in _ (by omega)
        obtain ⟨s, hs⟩ : ∃ s : Nat, s = k + 1 - m := ⟨_, rfl⟩
        have hsk : s ≤ k := by have := hm.out; omega
        have hsv := Lib.hid (show (0 : Int) = (s : Int) by have := hm.out; omega)
        have hgood : Hid (∀ j, (h : j < l.length) → s ≤ j → j ≤ k → bt least b l[j] = true) := Lib.hid (fun j h h1 h2 => ht.out.good _ (by
          unfold wn
          rw [← hs, List.mem_iff_getElem?]
          exact ⟨j - s, by rw [List.getElem?_drop, List.getElem?_take, if_pos (by omega), show s + (j - s) = j by omega, List.getElem?_eq_getElem h]⟩))
        have hseen : Hid (seen l s (k + 1) b = true) := Lib.hid (by
          unfold seen
          rw [List.any_eq_true]
          refine ⟨b, ?_, by simp⟩
          have := ht.out.is
          unfold wn at this
          rw [hs]
          exact this)
        generalize hL1 : wn l m (k + 1) = L1 at *
        replace hL1 := Lib.hid hL1
        replace hs := Lib.hid hs
        go_wp2_with fail
        refine (H3.out.cread 0 rfl (fun M hM => win_best b true hBt hM (by omega))).mono ?_
        rintro e w4 ⟨rfl, H4⟩
        replace H4 := Aside0.mk H4
        clear H3
        go_wp2_with fail
        go_loop [14, 15] (fun v i => ∃ j : Nat, s ≤ j ∧ j ≤ k + 1 ∧ i = .int .i64 j ∧ v = .bool (seen l s j b)) (fun _ i => k + 1 - (intOf i).toNat)
        case atStart => exact ⟨s, Nat.le_refl _, by omega, by rw [hsv.out], by rw [seen, List.drop_of_length_le (by simp; omega)]; rfl⟩
        case round =>
          obtain ⟨j, hj1, hj2, rfl, rfl⟩ := hrel
          by_cases hjk : j ≤ k
          · have hjl : j < l.length := by omega
            obtain ⟨ad', y, h1, hy, hcy⟩ := rd_at (C_ints (HP.rd_now (H4.out.now).choose_spec)) j hjl
            injection h1 with h1
            subst h1
            rw [List.getElem?_eq_getElem hjl] at hy
            injection hy with hy
            have hst := seen_step l s j b hj1 hjl
            have hg := hgood.out j hjl hj1 hjk
            rw [hy] at hst hg
            generalize hq1 : seen l s (j + 1) b = q1 at *
            generalize hq0 : seen l s j b = q0 at *
            replace hst := Lib.hid hst
            replace hq1 := Lib.hid hq1
            replace hq0 := Lib.hid hq0
            replace hy := Lib.hid hy
            cases least with
            | true =>
              have hyb : b ≤ y := by simpa [DQ.bt] using hg
              cases q0 with
              | true =>
                go_wp2
                go_round
                case rel => exact ⟨j + 1, by omega, by omega, by go_num, by rw [hq1.out, hst.out]; rfl⟩
                case measure => simp [intOf]; omega
              | false =>
                go_wp2
                go_round
                case rel => exact ⟨j + 1, by omega, by omega, by go_num, by rw [hq1.out, hst.out]; rfl⟩
                case measure => simp [intOf]; omega
            | false =>
              have hyb : y ≤ b := by simpa [DQ.bt] using hg
              cases q0 with
              | true =>
                go_wp2
                go_round
                case rel => exact ⟨j + 1, by omega, by omega, by go_num, by rw [hq1.out, hst.out]; rfl⟩
                case measure => simp [intOf]; omega
              | false =>
                go_wp2
                go_round
                case rel => exact ⟨j + 1, by omega, by omega, by go_num, by rw [hq1.out, hst.out]; rfl⟩
                case measure => simp [intOf]; omega
          · obtain rfl : j = k + 1 := by omega
            rw [hseen.out]
            go_wp2_with fail
            refine (H4.out.crval 0 rfl (fun M hM => win_kept (Z := fun _ => False) K hKt hM (by omega))).mono ?_
            rintro e w5 ⟨A5, c5, rfl, H5⟩
            replace H5 := Aside0.mk H5
            clear H4
            have hKl := ht.out.len
            have hKd := ht.out.small
            have hKc := HP.val_C (H5.out.now).choose_spec.2
            obtain ⟨ad5, v0, rfl, hv0, hc0⟩ := rd_at (C_ints hKc) 0 (by omega)
            obtain ⟨ad6, v1, h6, hv1, hc1⟩ := rd_at (C_ints hKc) d (by omega)
            injection h6 with h6
            subst h6
            rw [ht.out.fst] at hv0
            injection hv0 with hv0
            subst hv0
            rw [ht.out.lst] at hv1
            injection hv1 with hv1
            subst hv1
            have hK0 : ((K.length : Int) == 0) = false := by rw [beq_eq_false_iff_ne]; omega
            have hK1 : IntKind.i64.wrap ((K.length : Int) - 1) = (d : Int) := by rw [hKl, IntWalk.i64_in _ (by omega)]; omega
            have hK2 : d < K.length := by omega
            have hK3 : 0 < K.length := by omega
            replace hKl := Lib.hid hKl
            have hc00 : w5.cell? ad5 = some (.int .i64 b) := by rwa [show ad5.add 0 = ad5 by cases ad5; simp [Addr.add]] at hc0
            clear hKc
            go_wp2
            go_loopw [17] (fun i wr => ∃ j q : Nat, Hid (q = j + 1) ∧ j ≤ d ∧ i = .int .i64 q ∧ Aside0 (Cx (fun _ => False) (fun k => k < W.heap.size) W wr ((HP.rd (Kd.int .i64) (some ad) l).and (HP.val KI (.slice (some ad5) K.length c5) K)) [Win (n + 1) g least room L1])) (fun i _ => d + 1 - (intOf i).toNat)
            case atStart => exact ⟨0, 1, Lib.hid rfl, by omega, rfl, H5⟩
            case round =>
              clear H5 hc0 hc00 hc1
              obtain ⟨j, q, hq, hj, rfl, H6⟩ := hrel
              by_cases hjd : j < d
              · obtain ⟨Z6, hz6⟩ := H6.out.now
                have hKc := HP.val_C hz6.2
                obtain ⟨ad7, p1, h7, hp1, hc0⟩ := rd_at (C_ints hKc) j (by omega)
                injection h7 with h7
                subst h7
                obtain ⟨ad7, p2, h7, hp2, hc1⟩ := rd_at (C_ints hKc) q (by have := hq.out; omega)
                injection h7 with h7
                subst h7
                have hup := ht.out.up j p1 p2 hp1 (by rw [← hq.out]; exact hp2)
                have hq1 : IntKind.i64.wrap ((q : Int) - 1) = (j : Int) := by rw [IntWalk.i64_in _ (by have := hq.out; omega)]; have := hq.out; omega
                have hq2 : q < K.length := by have := hq.out; omega
                have hq3 : j < K.length := by omega
                have hq4 : q ≤ 1000 := by have := hq.out; omega
                clear hz6 hKc hp1 hp2
                cases least with
                | true =>
                  have hyb : p1 < p2 := by simpa [DQ.bt] using hup
                  have hz3 : decide (p2 ≤ p1) = false := decide_eq_false (by omega)
                  clear hup hyb
                  go_wp2
                  go_region
                  all_goals
                    go_wp2
                    go_roundw
                    case rel => exact ⟨j + 1, q + 1, Lib.hid (by have := hq.out; omega), by omega, by go_num, ⟨H6.out.drew⟩⟩
                    case measure => have := hq.out; simp [intOf]; omega
                | false =>
                  have hyb : p2 < p1 := by simpa [DQ.bt] using hup
                  have hz3 : decide (p1 ≤ p2) = false := decide_eq_false (by omega)
                  clear hup hyb
                  go_wp2
                  go_region
                  all_goals
                    go_wp2
                    go_roundw
                    case rel => exact ⟨j + 1, q + 1, Lib.hid (by have := hq.out; omega), by omega, by go_num, ⟨H6.out.drew⟩⟩
                    case measure => have := hq.out; simp [intOf]; omega
              · have hq2 : ¬ (q < K.length) := by have := hq.out; have := hKl.out; omega
                go_wp2
                go_roundw
                case rel => exact ⟨k + 1, by omega, by go_num, (n + 1), by omega, by rw [hL1.out]; exact ⟨H6.out.fst⟩⟩
                case measure => simp [intOf]; omega
    · go_wp2_with fail
      refine lives_ok.mono ?_
      rintro e wl ⟨rfl, hb⟩
      have HL := Aside0.mk (H.out.skip hb)
      clear hb
      go_wp2
      go_ret
      exact ⟨rfl, HL.out.below⟩
theorem slides_walk (w : World) (A : Option Addr) (c : Nat) (l : List Int) (_hl : l.length ≤ c) (hC : (Kd.int .i64).C w A l.length l) (hw : ∀ x ∈ l, I64wf x) (u : Int) (hu : (Lit.int .u64 u).wf = true) (least : Bool) :
    Calls Try.prog 10 #[.slice A l.length c, .int .u64 u, .bool least] w fun e w' => e = .returned (.bool true) ∧ Below w.heap.size w w' := by
  by_cases h : 300 < l.length
  · exact slides_great A c l u h
  · exact slides_small A c l u hC hw (bounds_u64 hu) (by omega)
end Go.Proofs.Ytpakcfbjjlmcaaa.Deque
