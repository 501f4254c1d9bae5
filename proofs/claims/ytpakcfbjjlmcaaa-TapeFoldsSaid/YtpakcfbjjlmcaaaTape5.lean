/- The deltas that lead from rows to others: the tape's own. No condition. -/
import Derived.Test.YtpakcfbjjlmcaaaTape4
import Derived.Test.YtpakcfbjjlmcaaaTapePure
set_option linter.unusedVariables false
set_option linter.unusedSimpArgs false
set_option maxHeartbeats 3200000
set_option maxRecDepth 100000
namespace Go.Proofs.Ytpakcfbjjlmcaaa.Tape
open Go.RowKit Go.RK Go.TP Go.Proofs.YtpakcfbjjlmcaaaW.PrintWords
open Go.Proofs.Ytpakcfbjjlmcaaa.PAll (S142 k142 k142_mk k142_mkF info142 slices_Equal_int64_int64.calls)
variable {W : World} {M Z : Nat → Prop} {g : Nat} {first width : Int} {v : Value} {R : List (List Int)}
section
variable {M0 Z0 : Nat → Prop} {W0 W1 : World} {Φ Φ' : HP}
theorem Ds.know {v : Value} {out : List S142} {x : List Int} {vx : Value} (h : Ds M0 Z0 W0 W Φ v out) (hb : Below W.heap.size W W1) (hx : (HP.val KI vx x).at_ W1 (fun k => W.heap.size ≤ k)) : Ds M0 Z0 W0 W1 (Φ.and (HP.val KI vx x)) v out := by
  obtain ⟨cells, h⟩ := h
  obtain ⟨Z, _, hn⟩ := h.pure
  exact ⟨cells, (hn _ _ hb (HP.mono hx (fun k hk _ => .inr hk))).imp (fun Z hz => ⟨⟨hz.1.1, hz.2⟩, hz.1.2⟩)⟩
theorem Ds.drop {v : Value} {out : List S142} (h : Ds M0 Z0 W0 W (Φ.and Φ') v out) : Ds M0 Z0 W0 W Φ v out := let ⟨cells, h⟩ := h; ⟨cells, h.imp (fun Z hz => ⟨hz.1.1, hz.2⟩)⟩
theorem Ds.imp {v : Value} {out : List S142} (h : Ds M0 Z0 W0 W Φ v out) (hi : ∀ Z, Φ.at_ W Z → Φ'.at_ W Z) : Ds M0 Z0 W0 W Φ' v out := let ⟨cells, h⟩ := h; ⟨cells, h.imp (fun Z hz => ⟨hi _ hz.1, hz.2⟩)⟩
end
theorem clone_row (A : Option Addr) (c : Nat) (xs : List Int) (hr : KI.C W A xs.length xs) (hb : xs.length ≤ 1000000) :
    Calls Try.prog 74 #[.slice A xs.length c] W fun e w' => ∃ A1 c1, e = .returned (.slice A1 xs.length c1) ∧ Below W.heap.size W w' ∧ (HP.val KI (.slice A1 xs.length c1) xs).at_ w' (fun k => W.heap.size ≤ k) := by
  refine (Clones.nums A c xs hr hb).mono ?_
  rintro e w' ⟨v, rfl, hb, hr, _⟩
  obtain ⟨A1, c1, rfl, _⟩ := HP.raw_form hr
  exact ⟨A1, c1, rfl, hb, HP.val_of (d := KI) hr (HP.reps_scalar _ _ rfl)⟩
theorem changes_rows (A0 A1 : Option Addr) (c0 c1 : Nat) (was is : List (List Int)) (o : Int) (hv0 : (HP.val KR (.slice A0 was.length c0) was).at_ W Z) (hv1 : (HP.val KR (.slice A1 is.length c1) is).at_ W Z)
    (ho : 0 ≤ o) (ho2 : o + was.length ≤ 100000) (hl0 : was.length ≤ 100000) (hl1 : is.length ≤ 100000) (hr0 : ∀ r ∈ was, r.length ≤ 100000) (hr1 : ∀ r ∈ is, r.length ≤ 100000) :
    Calls Try.prog 88 #[.int .i64 o, .slice A0 was.length c0, .slice A1 is.length c1] W fun e w' => ∃ v, e = .returned v ∧ (HP.val k142 v (chg o 0 was is)).at_ w' (fun k => Z k ∨ W.heap.size ≤ k) ∧ Below W.heap.size W w' := by
  obtain ⟨Φ, hΦ⟩ : ∃ Φ : HP, Φ = (HP.val KR (.slice A0 was.length c0) was).and (HP.val KR (.slice A1 is.length c1) is) := ⟨_, rfl⟩
  have H := Aside0.mk (Ds.nil (Cx.startz (W := W) (Z := Z) (Φ := Φ) (by rw [hΦ]; exact ⟨hv0, hv1⟩)))
  have hz0 : ∀ w Z, Φ.at_ w Z → (HP.val KR (.slice A0 was.length c0) was).at_ w Z := fun w Z h => by rw [hΦ] at h; exact h.1
  have hz1 : ∀ w Z, Φ.at_ w Z → (HP.val KR (.slice A1 is.length c1) is).at_ w Z := fun w Z h => by rw [hΦ] at h; exact h.2
  replace hz0 := Aside0.mk hz0
  replace hz1 := Aside0.mk hz1
  obtain ⟨both, hboth⟩ : ∃ b, b = min was.length is.length := ⟨_, rfl⟩
  have hmin : ∀ w ty ats, (Builtin.min_ ats ty #[.int .i64 was.length, .int .i64 is.length]).run Try.prog w = .ok (.int .i64 both) w := by
    intro w ty ats
    have e : (if (is.length : Int) < was.length then (is.length : Int) else was.length) = (both : Int) := by split <;> omega
    rw [Go.Proofs.YtpakcfbjjlmcaaaW.PrintMore.min_two, Go.Proofs.YtpakcfbjjlmcaaaW.PrintMore.min2_int, e]
    rfl
  have hb0 : both ≤ was.length := by omega
  have hb1 : both ≤ is.length := by omega
  replace hr0 := Lib.hid hr0
  replace hr1 := Lib.hid hr1
  have hpart : Hid (∀ out, out = ups (repl o was is) 0 both ++ downs (o + was.length) (was.length - both) ++ ups (apnd o is) both (is.length - both) → out = chg o 0 was is) := Lib.hid (by
    intro out h
    rw [h]
    unfold chg
    rw [← hboth, Nat.sub_zero, show was.length - both = was.length - is.length by omega]
    rcases Nat.le_total was.length is.length with h1 | h1
    · rw [show both = was.length by omega]
    · rw [show is.length - both = 0 by omega, show is.length - was.length = 0 by omega]; rfl)
  replace hboth := Lib.hid hboth
  replace hΦ := Lib.hid hΦ
  clear hv0 hv1
  go_enter Try.func88, Try.ntmps88
  go_wp2
  go_loopw [7, 18] (fun v i wr => ∃ (k : Nat) (out : List S142) (A2 : Option Addr) (c2 : Nat), k ≤ both ∧ i = .int .i64 k ∧ v = .slice A2 out.length c2 ∧ Hid (out = ups (repl o was is) 0 k) ∧ Aside0 (Ds (fun _ => False) Z W wr Φ (.slice A2 out.length c2) out)) (fun _ i _ => both - (intOf i).toNat)
  case atStart => exact ⟨0, [], none, 0, by omega, rfl, rfl, Lib.hid rfl, H⟩
  case round =>
    clear H
    obtain ⟨k, out, A2, c2, hk, rfl, rfl, hout, H⟩ := hrel
    by_cases hlt : k < both
    · obtain ⟨Z1, hZ⟩ := H.out.now
      obtain ⟨ra, hra⟩ : ∃ r, was[k]? = some r := ⟨_, List.getElem?_eq_getElem (by omega)⟩
      obtain ⟨rb, hrb⟩ : ∃ r, is[k]? = some r := ⟨_, List.getElem?_eq_getElem (by omega)⟩
      obtain ⟨ad0, B0, d0, rfl, q0, hd0, hv0⟩ := row_len (HP.val_rd (hz0.out _ _ hZ)) hra
      obtain ⟨ad1, B1, d1, rfl, q1, hd1, hv1⟩ := row_len (HP.val_rd (hz1.out _ _ hZ)) hrb
      have hla : ra.length ≤ 100000 := hr0.out ra (List.mem_of_getElem? hra)
      have hlb : rb.length ≤ 100000 := hr1.out rb (List.mem_of_getElem? hrb)
      have hC0 := Aside0.mk (HP.val_C hv0)
      have hC1 := Aside0.mk (HP.val_C hv1)
      clear hv0 hv1 hZ
      have hkk : Hid (ups (repl o was is) 0 (k + 1) = out ++ (if ra = rb then [] else [⟨2, o + k, rb⟩])) := Lib.hid (by simp only [ups]; rw [hout.out, Nat.zero_add]; congr 1; unfold repl; rw [hra, hrb]; simp [List.getD_eq_getElem?_getD, hrb])
      have hol : out.length ≤ 100000 := by have := ups_le _ (repl_le o was is) 0 k; rw [← hout.out] at this; omega
      have hw : IntKind.i64.wrap ((k : Int) + 1) = ((k + 1 : Nat) : Int) := by rw [IntWalk.i64_in _ (by omega)]; omega
      have hwo : IntKind.i64.wrap (o + (k : Int)) = o + (k : Int) := IntWalk.i64_in _ (by omega)
      have hk0 : (0 : Int) ≤ k := by omega
      have hk1 : (k : Int) < was.length := by omega
      have hk2 : (k : Int) < is.length := by omega
      have hk3 : (k : Int) < both := by omega
      obtain ⟨B, hB⟩ : ∃ B, B = decide (ra = rb) := ⟨_, rfl⟩
      have hB' := Lib.hid hB
      clear hB
      replace hra := Lib.hid hra
      replace hrb := Lib.hid hrb
      go_wp2
      go_upto_region 6 with (fail)
      go_region_held3 (fun w' => w'.cell? (ad0.add k) = some (.slice B0 ra.length d0) ∧ w'.cell? (ad1.add k) = some (.slice B1 rb.length d1))
        (first | exact ⟨q0, q1⟩ | exact ⟨pw_cell_below hcl q0, pw_cell_below hcl q1⟩)
        (first | (go_at_call 93; refine (Cx.toBelow (slices_Equal_int64_int64.calls 1000001 B0 d0 ra B1 d1 rb B _ (Kd.C_below hC0.out (below_drew (Below.refl _ _))) hd0 (Kd.C_below hC1.out (below_drew (Below.refl _ _))) hd1 (by rw [equal_pure _ _ (by omega), hB'.out]))).mono ?_; rintro e Wh ⟨rfl, hcl⟩; have H2 := Aside0.mk ((H.out.skip (below_drew (Below.refl _ _))).skip hcl)))
      rename_i hHeld
      have qh := hHeld.2
      clear hHeld
      clear q0 q1 H hC0
      rcases B with _ | _
      · have hne : ra ≠ rb := by have := hB'.out; intro e; simp [e] at this
        have hC2 := Aside0.mk (Kd.C_below (Kd.C_below hC1.out (below_drew (Below.refl _ _))) hcl)
        clear hC1
        go_wp2_with fail
        refine (clone_row B1 d1 rb hC2.out (by omega)).mono ?_
        rintro e w3 ⟨B3, d3, rfl, hb3, hv3⟩
        obtain ⟨A4, c4, w4, hrun, H4⟩ := (H2.out.know hb3 hv3).snoc ⟨2, o + k, rb⟩ B3 d3 (fun Z hz => hz.2) (by omega)
        have hout' : Hid (out ++ [⟨2, o + k, rb⟩] = ups (repl o was is) 0 (k + 1)) := Lib.hid (by rw [hkk.out, if_neg hne])
        generalize hO : out ++ [⟨2, o + k, rb⟩] = out' at *
        replace hO := Lib.hid hO
        replace hrun := Aside0.mk hrun
        have H5 := Aside0.mk H4.drop
        clear H4 H2 hv3
        go_wp2_with (refine wpList_app rfl rfl rfl rfl hrun.out ?_)
        go_roundw
        case rel => exact ⟨k + 1, out', A4, c4, by omega, by go_num, rfl, hout', H5⟩
        case measure => simp [intOf]; omega
      · have he : ra = rb := by have := hB'.out; simpa using this.symm
        have hout' : Hid (out = ups (repl o was is) 0 (k + 1)) := Lib.hid (by rw [hkk.out, if_pos he, List.append_nil])
        go_wp2
        go_roundw
        case rel => exact ⟨k + 1, out, A2, c2, by omega, by go_num, rfl, hout', H2⟩
        case measure => simp [intOf]; omega
    · obtain rfl : k = both := by omega
      have hk3 : ¬ (k : Int) < k := by omega
      have hwl : IntKind.i64.wrap ((was.length : Int) - 1) = (was.length : Int) - 1 := IntWalk.i64_in _ (by omega)
      have hol : Hid (out.length ≤ k) := Lib.hid (by have := ups_le _ (repl_le o was is) 0 k; rwa [← hout.out] at this)
      go_wp2
      go_loopw [7, 10] (fun v i wr => ∃ (n : Nat) (p : Int) (out : List S142) (A2 : Option Addr) (c2 : Nat), n ≤ was.length - k ∧ i = .int .i64 p ∧ Hid (p = (was.length : Int) - 1 - n) ∧ v = .slice A2 out.length c2 ∧ Hid (out = ups (repl o was is) 0 k ++ downs (o + was.length) n) ∧ Aside0 (Ds (fun _ => False) Z W wr Φ (.slice A2 out.length c2) out)) (fun _ i _ => (intOf i + 1 - k).toNat)
      case atStart => exact ⟨0, (was.length : Int) - 1, out, A2, c2, by omega, rfl, Lib.hid (by omega), rfl, Lib.hid (by rw [← hout.out]; simp [downs]), H⟩
      case round =>
        clear H hout
        obtain ⟨n, p, out, A2, c2, hn, rfl, hp, rfl, hout, H⟩ := hrel
        have hol2 : out.length ≤ 300000 := by have h1 := ups_le _ (repl_le o was is) 0 k; have h2 := downs_le (o + was.length) n; rw [hout.out, List.length_append]; omega
        by_cases hlt : n < was.length - k
        · have hp0 : (k : Int) ≤ p := by have := hp.out; omega
          have hp1 : p ≤ 100000 := by have := hp.out; omega
          have hwo : IntKind.i64.wrap (o + p) = o + p := IntWalk.i64_in _ (by omega)
          have hwp : IntKind.i64.wrap (p - 1) = p - 1 := IntWalk.i64_in _ (by omega)
          obtain ⟨A4, c4, w4, hrun, H4⟩ := H.out.snoc ⟨3, o + p, []⟩ none 0 (fun Z hz => HP.val_nil _ _ _) (by omega)
          have hout' : Hid (out ++ [⟨3, o + p, []⟩] = ups (repl o was is) 0 k ++ downs (o + was.length) (n + 1)) := Lib.hid (by rw [hout.out, List.append_assoc, show o + p = o + (was.length : Int) - ((n : Int) + 1) by have := hp.out; omega]; rfl)
          have hp' : Hid (p - 1 = (was.length : Int) - 1 - ((n + 1 : Nat) : Int)) := Lib.hid (by have := hp.out; omega)
          generalize hO : out ++ [⟨3, o + p, []⟩] = out' at *
          replace hO := Lib.hid hO
          replace hrun := Aside0.mk hrun
          have H5 := Aside0.mk H4
          clear H4 H
          go_wp2_with (refine wpList_app rfl rfl rfl rfl hrun.out ?_)
          go_roundw
          case rel => exact ⟨n + 1, p - 1, out', A4, c4, by omega, rfl, hp', rfl, hout', H5⟩
          case measure => simp [intOf]; omega
        · obtain rfl : n = was.length - k := by omega
          have hp0 : ¬ (k : Int) ≤ p := by have := hp.out; omega
          go_wp2
          go_loopw [7, 11] (fun v i wr => ∃ (m : Nat) (out : List S142) (A2 : Option Addr) (c2 : Nat), k + m ≤ is.length ∧ i = .int .i64 ((k + m : Nat) : Int) ∧ v = .slice A2 out.length c2 ∧ Hid (out = ups (repl o was is) 0 k ++ downs (o + was.length) (was.length - k) ++ ups (apnd o is) k m) ∧ Aside0 (Ds (fun _ => False) Z W wr Φ (.slice A2 out.length c2) out)) (fun _ i _ => is.length - (intOf i).toNat)
          case atStart => exact ⟨0, out, A2, c2, by omega, rfl, rfl, Lib.hid (by rw [hout.out]; simp [ups]), H⟩
          case round =>
            clear H hout hol2
            obtain ⟨m, out, A2, c2, hm, rfl, rfl, hout, H⟩ := hrel
            have hol2 : out.length ≤ 400000 := by have h1 := ups_le _ (repl_le o was is) 0 k; have h2 := downs_le (o + was.length) (was.length - k); have h3 := ups_le _ (apnd_le o is) k m; rw [hout.out, List.length_append, List.length_append]; omega
            by_cases hlt : k + m < is.length
            · obtain ⟨Z1, hZ⟩ := H.out.now
              obtain ⟨rb, hrb⟩ : ∃ r, is[k + m]? = some r := ⟨_, List.getElem?_eq_getElem (by omega)⟩
              obtain ⟨ad1, B1, d1, rfl, q1, hd1, hv1⟩ := row_len (HP.val_rd (hz1.out _ _ hZ)) hrb
              have hlb : rb.length ≤ 100000 := hr1.out rb (List.mem_of_getElem? hrb)
              have hC1 := Aside0.mk (HP.val_C hv1)
              clear hv1 hZ
              have hkk : Hid (∀ q, q = o + ((k + m : Nat) : Int) → ups (apnd o is) k (m + 1) = ups (apnd o is) k m ++ [⟨1, q, rb⟩]) := Lib.hid (by intro q hq; simp only [ups, apnd]; rw [hq]; simp [List.getD_eq_getElem?_getD, hrb])
              obtain ⟨j, hj⟩ : ∃ j, j = k + m := ⟨_, rfl⟩
              rw [← hj] at hkk hlt q1 ⊢
              have hjj := Lib.hid hj
              clear hj
              have hw : IntKind.i64.wrap ((j : Int) + 1) = ((j + 1 : Nat) : Int) := by rw [IntWalk.i64_in _ (by omega)]; omega
              have hwo : IntKind.i64.wrap (o + (j : Int)) = o + (j : Int) := IntWalk.i64_in _ (by have := hjj.out; omega)
              have hk0 : (0 : Int) ≤ j := by omega
              have hk2 : (j : Int) < is.length := by omega
              go_wp2_with fail
              refine (clone_row B1 d1 rb hC1.out (by omega)).mono ?_
              rintro e w3 ⟨B3, d3, rfl, hb3, hv3⟩
              obtain ⟨A4, c4, w4, hrun, H4⟩ := (H.out.know hb3 hv3).snoc ⟨1, o + j, rb⟩ B3 d3 (fun Z hz => hz.2) (by omega)
              have hout' : Hid (out ++ [⟨1, o + j, rb⟩] = ups (repl o was is) 0 k ++ downs (o + was.length) (was.length - k) ++ ups (apnd o is) k (m + 1)) := Lib.hid (by rw [hkk.out _ rfl, hout.out, List.append_assoc, List.append_assoc])
              generalize hO : out ++ [⟨1, o + j, rb⟩] = out' at *
              replace hO := Lib.hid hO
              replace hrun := Aside0.mk hrun
              have H5 := Aside0.mk H4.drop
              clear H4 H hv3 q1
              go_wp2_with (refine wpList_app rfl rfl rfl rfl hrun.out ?_)
              go_roundw
              case rel => exact ⟨m + 1, out', A4, c4, by have := hjj.out; omega, by have := hjj.out; go_num, rfl, hout', H5⟩
              case measure => simp [intOf]; omega
            · have hj : ¬ ((k + m : Nat) : Int) < is.length := by omega
              obtain ⟨j, hj2⟩ : ∃ j, j = k + m := ⟨_, rfl⟩
              rw [← hj2] at hj ⊢
              have hje : m = is.length - k := by omega
              replace hj2 := Lib.hid hj2
              go_wp2
              go_ret
              have h := H.out.done
              exact ⟨_, rfl, by rw [← hpart.out out (by rw [hout.out, hje])]; exact h.2, h.1⟩
end Go.Proofs.Ytpakcfbjjlmcaaa.Tape
