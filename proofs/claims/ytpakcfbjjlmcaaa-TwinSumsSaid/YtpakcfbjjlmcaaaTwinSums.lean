/- TwinSums, walked. No condition but that the numbers read. -/
import Derived.Test.YtpakcfbjjlmcaaaTwinI3
import Derived.Test.YtpakcfbjjlmcaaaTwinPlays
set_option linter.unusedVariables false
set_option linter.unusedSimpArgs false
set_option maxHeartbeats 1600000
set_option maxRecDepth 100000
namespace Go.Proofs.Ytpakcfbjjlmcaaa.TwinI
open Go.RowKit Go.RK Go.TW Go.Proofs.YtpakcfbjjlmcaaaW.PrintWords Go.Proofs.Ytpakcfbjjlmcaaa.PAll
variable {W : World} {M Z : Nat → Prop} {g : Nat} {most : Int} {L : List Int}
abbrev plus : Int → Int → Int := fun a b => wrap64 (a + b)
abbrev sz0 : Int → Nat := fun _ => 0
theorem plus_ok : JoinOk sz0 plus := fun a b W h => Cx.toBelow (rifflelaw12_plus.calls a b (wrap64 (a + b)) W rfl)
theorem plus_assoc (a b c : Int) : plus (plus a b) c = plus a (plus b c) := by simp only [plus, wrap64]; omega
theorem push_of (T : List Int) (n : Int) (x : Int) (hT : Hid ((if (L.length : Int) = most then L else L ++ [x]) = T ∧ (if (L.length : Int) = most then 19 else 0) = n)) (h : (WinH plus g most L).at_ W M) (hZ : ∀ k, Z k → ¬ M k) (hl : L.length ≤ 64) :
    Calls Try.prog 38 #[.pointer (some ⟨g, 0, none⟩), .int .i64 x] W fun e w' => e = .returned (.int .i64 n) ∧ Does W M Z HP.tt (WinH plus g most T) w' := by
  obtain ⟨rfl, rfl⟩ := hT.out
  exact win_push sz0 (fun _ _ => by simp) plus_ok x h hZ hl (fun _ _ => by simp) (by simp)
theorem drop_of (T : List Int) (b : Bool) (hT : Hid (L.tail = T ∧ (!L.isEmpty) = b)) (h : (WinH plus g most L).at_ W M) (hZ : ∀ k, Z k → ¬ M k) (hl : L.length ≤ 64) :
    Calls Try.prog 37 #[.pointer (some ⟨g, 0, none⟩)] W fun e w' => e = .returned (.bool b) ∧ Does W M Z HP.tt (WinH plus g most T) w' := by
  obtain ⟨rfl, rfl⟩ := hT.out
  exact win_drop sz0 (fun _ _ => by simp) plus_ok h hZ hl (fun _ _ => by simp)
theorem all_of (s : Int) (b : Bool) (hT : Hid (all plus 0 L = s ∧ (!L.isEmpty) = b)) (h : (WinH plus g most L).at_ W M) (hl : L.length ≤ 64) :
    Calls Try.prog 39 #[.pointer (some ⟨g, 0, none⟩)] W fun e w' => e = .returned (.tuple #[.int .i64 s, .bool b]) ∧ Below W.heap.size W w' := by
  obtain ⟨rfl, rfl⟩ := hT.out
  exact win_all sz0 (fun _ _ => by simp) plus_ok plus_assoc h hl (fun _ _ => by simp)
theorem new_win (m : Int) (h1 : 1 ≤ m) (h2 : m ≤ 64) : Calls Try.prog 35 #[.int .i64 m, .func (.func 36) #[] #[]] W fun e w' => ∃ g, e = .returned (.tuple #[.pointer (some ⟨g, 0, none⟩), .int .i64 0]) ∧ Below W.heap.size W w' ∧ (WinH plus g m []).at_ w' (fun k => W.heap.size ≤ k) := by
  refine (new_made (jn := plus) m h1 h2).mono ?_
  rintro e w1 ⟨g, rfl, hb, h⟩
  exact ⟨g, rfl, hb, ([], []), h, rfl⟩
/-- what the window holds when k numbers have come -/
def wn (l : List Int) (m k : Nat) : List Int := (l.take k).drop (k - m)
theorem wn_len (l : List Int) (m k : Nat) (hk : k ≤ l.length) : (wn l m k).length = min k m := by
  simp [wn]; omega
theorem wn_push (l : List Int) (m k : Nat) (hk : k < l.length) (hm : k < m) : wn l m k ++ [l[k]] = wn l m (k + 1) := by
  unfold wn
  rw [show k - m = 0 by omega, show k + 1 - m = 0 by omega, List.drop_zero, List.drop_zero, List.take_succ_eq_append_getElem hk]
theorem wn_drop (l : List Int) (m k : Nat) (hk : k < l.length) (h1 : 1 ≤ m) (hm : m ≤ k) : (wn l m k).tail ++ [l[k]] = wn l m (k + 1) := by
  unfold wn
  rw [List.tail_drop, show k + 1 - m = k - m + 1 by omega, List.take_succ_eq_append_getElem hk, List.drop_append_of_le_length (by rw [List.length_take]; omega)]
theorem nonempty_of {L : List Int} (h : 0 < L.length) : (!L.isEmpty) = true := by
  cases L with
  | nil => simp at h
  | cons y ys => rfl
theorem sum_all (l : List Int) (hw : ∀ x ∈ l, I64wf x) : all plus 0 l = l.foldl plus 0 := by
  rcases l with _ | ⟨x, xs⟩
  · rfl
  · have : plus 0 x = x := by have := hw x (by simp); unfold I64wf at this; simp only [plus, wrap64]; omega
    simp only [all, foldL, List.foldl_cons, this]
theorem sums_great (A : Option Addr) (c : Nat) (l : List Int) (u : Int) (h : 300 < l.length) :
    Calls Try.prog 7 #[.slice A l.length c, .int .u64 u] W fun e w' => e = .returned (.bool true) ∧ Below W.heap.size W w' := by
  go_enter Try.func7, Try.ntmps7
  go_wp2_with fail
  refine TwinS.lives_ok.mono ?_
  rintro e w1 ⟨rfl, hb⟩
  go_wp2
  go_ret
  exact ⟨rfl, hb⟩
theorem sums_small (A : Option Addr) (c : Nat) (l : List Int) (u : Int) (hC : (Kd.int .i64).C W A l.length l) (hwf : ∀ x ∈ l, I64wf x) (hu : 0 ≤ u ∧ u ≤ 18446744073709551615) (h : l.length ≤ 300) :
    Calls Try.prog 7 #[.slice A l.length c, .int .u64 u] W fun e w' => e = .returned (.bool true) ∧ Below W.heap.size W w' := by
  obtain ⟨u0, u1⟩ := hu
  have H0 := Aside0.mk (Cx.start0 (Φ := HP.rd (Kd.int .i64) A l) (Kd.C_F (Kd.heap_int _) hC))
  have hwf := Lib.hid hwf
  have HU := Aside0.mk u1
  have m0 : 0 ≤ u % 64 := Int.emod_nonneg _ (by omega)
  have m1 : u % 64 < 64 := Int.emod_lt_of_pos _ (by omega)
  clear hC u1
  go_enter Try.func7, Try.ntmps7
  go_wp2_with fail
  obtain ⟨room, hroom⟩ : ∃ room, room = 1 + u % 64 := ⟨_, rfl⟩
  rw [← hroom]
  have r1 : 1 ≤ room := by omega
  have r2 : room ≤ 64 := by omega
  clear hroom m0 m1
  obtain ⟨m, hm⟩ : ∃ m : Nat, (m : Int) = room := ⟨room.toNat, Int.toNat_of_nonneg (by omega)⟩
  replace hm := Lib.hid hm
  refine (H0.out.cnew (new_win room r1 r2)).mono ?_
  rintro e w1 ⟨g, rfl, H1⟩
  replace H1 := Aside0.mk H1
  go_wp2
  go_loopw [35] (fun i wr => ∃ k : Nat, k ≤ l.length ∧ i = .int .i64 k ∧ Aside0 (Cx (fun _ => False) (fun k => k < W.heap.size) W wr (HP.rd (Kd.int .i64) A l) [WinH plus g room (wn l m k)])) (fun i _ => l.length - (intOf i).toNat)
  case atStart => exact ⟨0, by omega, rfl, by rw [show wn l m 0 = [] by simp [wn]]; exact H1⟩
  case round =>
    clear H1 H0
    obtain ⟨k, hk, rfl, H⟩ := hrel
    by_cases hlt : k < l.length
    · have hlen := wn_len l m k hk
      have hmm := hm.out
      obtain ⟨ad, x, rfl, hx, hcell⟩ := rd_at (C_ints (HP.rd_now (H.out.now).choose_spec)) k hlt
      rw [List.getElem?_eq_getElem hlt] at hx
      injection hx with hx
      by_cases hfull : room ≤ (k : Int)
      · have hpu := wn_drop l m k hlt (by omega) (by omega)
        rw [hx] at hpu
        generalize hL : wn l m k = L at *
        have hne := nonempty_of (L := L) (by omega)
        have hl64 : L.length ≤ 64 := by omega
        have htl : L.tail.length = min k m - 1 := by rw [List.length_tail, hlen]
        obtain ⟨T, hLt⟩ : ∃ T, L.tail = T := ⟨_, rfl⟩
        rw [hLt] at hpu htl
        have hTd := Lib.hid (And.intro hLt hne)
        replace hpu := Lib.hid hpu
        replace hlen := Lib.hid hlen
        replace htl := Lib.hid htl
        replace hx := Lib.hid hx
        replace hL := Lib.hid hL
        clear hLt hmm hne
        go_wp2_with fail
        refine (H.out.cobj 0 rfl (fun M Z hM hZ hd => drop_of T true hTd hM hd hl64)).mono ?_
        rintro e w2 ⟨rfl, H2⟩
        replace H2 := Aside0.mk H2
        go_wp2_with fail
        have hT : Hid ((if (T.length : Int) = room then T else T ++ [x]) = wn l m (k + 1) ∧ (if (T.length : Int) = room then 19 else 0) = (0 : Int)) := (Lib.hid ⟨by rw [if_neg (by have := htl.out; have := hm.out; omega)]; exact hpu.out, if_neg (by have := htl.out; have := hm.out; omega)⟩)
        refine (H2.out.cobj 0 rfl (fun M Z hM hZ hd => push_of _ _ x hT hM hd (by have := htl.out; have := hm.out; omega))).mono ?_
        rintro e w3 ⟨rfl, H3⟩
        replace H3 := Aside0.mk H3
        have hlen1 := wn_len l m (k + 1) (by omega)
        generalize hL1 : wn l m (k + 1) = L1 at *
        have hs0 : IntKind.i64.wrap ((k : Int) - room) = (k : Int) - room := IntWalk.i64_in _ (by omega)
        have hs1 : IntKind.i64.wrap ((k : Int) - room + 1) = (k : Int) - room + 1 := IntWalk.i64_in _ (by omega)
        replace hlen1 := Lib.hid hlen1
        replace hL1 := Lib.hid hL1
        clear hT
        obtain ⟨s, hs⟩ : ∃ s : Nat, s = k + 1 - m := ⟨_, rfl⟩
        have hsk : s ≤ k := by have := hm.out; omega
        have hsv := Lib.hid (show (((k : Int) - room + 1) : Int) = (s : Int) by have := hm.out; omega)
        have hln := Lib.hid (show ((L1.length : Int) == room) = true by have := hm.out; have := hlen1.out; rw [beq_iff_eq]; omega)
        have hl1 : L1.length ≤ 64 := by have := hm.out; have := hlen1.out; omega
        have hne1 := nonempty_of (L := L1) (by have := hm.out; have := hlen1.out; omega)
        have hsa := sum_all L1 (fun y hy => hwf.out y (by rw [← hL1.out] at hy; exact List.mem_of_mem_take (List.mem_of_mem_drop hy)))
        have hL1s : Hid ((l.take (k + 1)).drop s = L1) := by rw [hs]; exact hL1
        replace hs := Lib.hid hs
        replace hsa := Lib.hid hsa
        replace hne1 := Lib.hid hne1
        go_wp2_with fail
        go_loop [10, 11] (fun v i => ∃ j : Nat, s ≤ j ∧ j ≤ k + 1 ∧ i = .int .i64 j ∧ ∃ q, v = .int .i64 q ∧ Hid (((l.take j).drop s).foldl plus 0 = q)) (fun _ i => k + 1 - (intOf i).toNat)
        case atStart => exact ⟨s, Nat.le_refl _, by omega, by rw [hsv.out], 0, rfl, Lib.hid (by rw [List.drop_of_length_le (by simp; omega)]; rfl)⟩
        case round =>
          obtain ⟨j, hj1, hj2, rfl, q, rfl, hq⟩ := hrel
          by_cases hjk : j ≤ k
          · have hjl : j < l.length := by omega
            obtain ⟨ad', y, h1, hy, hcy⟩ := rd_at (C_ints (HP.rd_now (H3.out.now).choose_spec)) j hjl
            injection h1 with h1
            subst h1
            rw [List.getElem?_eq_getElem hjl] at hy
            injection hy with hy
            replace hy := Lib.hid hy
            go_wp2
            go_round
            case rel => exact ⟨j + 1, by omega, by omega, by go_num, _, rfl, Lib.hid (by rw [List.take_succ_eq_append_getElem hjl, List.drop_append_of_le_length (by rw [List.length_take]; omega), List.foldl_append, hq.out, hy.out]; rfl)⟩
            case measure => simp [intOf]; omega
          · obtain rfl : j = k + 1 := by omega
            have hTa : Hid (all plus 0 L1 = q ∧ (!L1.isEmpty) = true) := Lib.hid ⟨by rw [hsa.out, ← hq.out, hL1s.out], hne1.out⟩
            have hqq : (q == q) = true := by simp
            go_wp2_with fail
            refine (H3.out.cread 0 rfl (fun M hM => all_of _ _ hTa hM hl1)).mono ?_
            rintro e w4 ⟨rfl, H4⟩
            replace H4 := Aside0.mk H4
            go_wp2_with fail
            refine (H4.out.cread 0 rfl (fun M hM => win_len hM (by omega))).mono ?_
            rintro e w5 ⟨rfl, H5⟩
            replace H5 := Aside0.mk H5
            have hln' := hln.out
            go_wp2
            go_roundw
            case rel => exact ⟨k + 1, by omega, by go_num, by rw [hL1.out]; exact H5⟩
            case measure => simp [intOf]; omega
      · have hpu := wn_push l m k hlt (by omega)
        rw [hx] at hpu
        generalize hL : wn l m k = L at *
        have hl64 : L.length ≤ 64 := by omega
        replace hpu := Lib.hid hpu
        replace hlen := Lib.hid hlen
        replace hx := Lib.hid hx
        replace hL := Lib.hid hL
        clear hmm
        go_wp2_with fail
        have hT : Hid ((if (L.length : Int) = room then L else L ++ [x]) = wn l m (k + 1) ∧ (if (L.length : Int) = room then 19 else 0) = (0 : Int)) := (Lib.hid ⟨by rw [if_neg (by have := hlen.out; have := hm.out; omega)]; exact hpu.out, if_neg (by have := hlen.out; have := hm.out; omega)⟩)
        refine (H.out.cobj 0 rfl (fun M Z hM hZ hd => push_of _ _ x hT hM hd hl64)).mono ?_
        rintro e w3 ⟨rfl, H3⟩
        replace H3 := Aside0.mk H3
        have hlen1 := wn_len l m (k + 1) (by omega)
        generalize hL1 : wn l m (k + 1) = L1 at *
        have hs0 : IntKind.i64.wrap ((k : Int) - room) = (k : Int) - room := IntWalk.i64_in _ (by omega)
        have hs1 : IntKind.i64.wrap ((k : Int) - room + 1) = (k : Int) - room + 1 := IntWalk.i64_in _ (by omega)
        replace hlen1 := Lib.hid hlen1
        replace hL1 := Lib.hid hL1
        clear hT
        obtain ⟨s, hs⟩ : ∃ s : Nat, s = k + 1 - m := ⟨_, rfl⟩
        have hsk : s ≤ k := by have := hm.out; omega
        have hsv := Lib.hid (show (0 : Int) = (s : Int) by have := hm.out; omega)
        have hln := Lib.hid (show ((L1.length : Int) == ((k : Int) + 1)) = true by have := hm.out; have := hlen1.out; rw [beq_iff_eq]; omega)
        have hl1 : L1.length ≤ 64 := by have := hm.out; have := hlen1.out; omega
        have hne1 := nonempty_of (L := L1) (by have := hm.out; have := hlen1.out; omega)
        have hsa := sum_all L1 (fun y hy => hwf.out y (by rw [← hL1.out] at hy; exact List.mem_of_mem_take (List.mem_of_mem_drop hy)))
        have hL1s : Hid ((l.take (k + 1)).drop s = L1) := by rw [hs]; exact hL1
        replace hs := Lib.hid hs
        replace hsa := Lib.hid hsa
        replace hne1 := Lib.hid hne1
        go_wp2_with fail
        go_loop [10, 11] (fun v i => ∃ j : Nat, s ≤ j ∧ j ≤ k + 1 ∧ i = .int .i64 j ∧ ∃ q, v = .int .i64 q ∧ Hid (((l.take j).drop s).foldl plus 0 = q)) (fun _ i => k + 1 - (intOf i).toNat)
        case atStart => exact ⟨s, Nat.le_refl _, by omega, by rw [hsv.out], 0, rfl, Lib.hid (by rw [List.drop_of_length_le (by simp; omega)]; rfl)⟩
        case round =>
          obtain ⟨j, hj1, hj2, rfl, q, rfl, hq⟩ := hrel
          by_cases hjk : j ≤ k
          · have hjl : j < l.length := by omega
            obtain ⟨ad', y, h1, hy, hcy⟩ := rd_at (C_ints (HP.rd_now (H3.out.now).choose_spec)) j hjl
            injection h1 with h1
            subst h1
            rw [List.getElem?_eq_getElem hjl] at hy
            injection hy with hy
            replace hy := Lib.hid hy
            go_wp2
            go_round
            case rel => exact ⟨j + 1, by omega, by omega, by go_num, _, rfl, Lib.hid (by rw [List.take_succ_eq_append_getElem hjl, List.drop_append_of_le_length (by rw [List.length_take]; omega), List.foldl_append, hq.out, hy.out]; rfl)⟩
            case measure => simp [intOf]; omega
          · obtain rfl : j = k + 1 := by omega
            have hTa : Hid (all plus 0 L1 = q ∧ (!L1.isEmpty) = true) := Lib.hid ⟨by rw [hsa.out, ← hq.out, hL1s.out], hne1.out⟩
            have hqq : (q == q) = true := by simp
            go_wp2_with fail
            refine (H3.out.cread 0 rfl (fun M hM => all_of _ _ hTa hM hl1)).mono ?_
            rintro e w4 ⟨rfl, H4⟩
            replace H4 := Aside0.mk H4
            go_wp2_with fail
            refine (H4.out.cread 0 rfl (fun M hM => win_len hM (by omega))).mono ?_
            rintro e w5 ⟨rfl, H5⟩
            replace H5 := Aside0.mk H5
            have hln' := hln.out
            go_wp2
            go_roundw
            case rel => exact ⟨k + 1, by omega, by go_num, by rw [hL1.out]; exact H5⟩
            case measure => simp [intOf]; omega
    · go_wp2_with fail
      refine TwinS.lives_ok.mono ?_
      rintro e wl ⟨rfl, hb⟩
      have HL := Aside0.mk (H.out.skip hb)
      clear hb
      go_wp2
      go_ret
      exact ⟨rfl, HL.out.below⟩
theorem sums_walk (w : World) (A : Option Addr) (c : Nat) (l : List Int) (_hl : l.length ≤ c) (hC : (Kd.int .i64).C w A l.length l) (hw : ∀ x ∈ l, I64wf x) (u : Int) (hu : (Lit.int .u64 u).wf = true) :
    Calls Try.prog 7 #[.slice A l.length c, .int .u64 u] w fun e w' => e = .returned (.bool true) ∧ Below w.heap.size w w' := by
  by_cases h : 300 < l.length
  · exact sums_great A c l u h
  · exact sums_small A c l u hC hw (bounds_u64 hu) (by omega)
end Go.Proofs.Ytpakcfbjjlmcaaa.TwinI
