/- The deltas that lead from rows to others: the document's own. No condition. -/
import Derived.Test.YtpakcfbjjlmcaaaTape5
import Derived.Test.YtpakcfbjjlmcaaaTapePure
set_option linter.unusedVariables false
set_option linter.unusedSimpArgs false
set_option maxHeartbeats 3200000
set_option maxRecDepth 100000
namespace Go.Proofs.Ytpakcfbjjlmcaaa.Tape
open Go.RowKit Go.RK Go.TP Go.Proofs.YtpakcfbjjlmcaaaW.PrintWords
open Go.Proofs.Ytpakcfbjjlmcaaa.PAll (S142 k142 k142_mk k142_mkF info142 riffleref03_Nums.calls)
variable {W : World} {M Z : Nat → Prop} {g : Nat} {first width : Int} {v : Value} {R : List (List Int)}
theorem ref_changes (A0 A1 : Option Addr) (c0 c1 : Nat) (was is : List (List Int)) (o : Nat) (hv0 : (HP.val KR (.slice A0 was.length c0) was).at_ W Z) (hv1 : (HP.val KR (.slice A1 is.length c1) is).at_ W Z)
    (hoa : o ≤ was.length) (hob : o ≤ is.length) (hl0 : was.length ≤ 100000) (hl1 : is.length ≤ 100000) (hr0 : ∀ r ∈ was, r.length ≤ 100000) (hr1 : ∀ r ∈ is, r.length ≤ 100000) :
    Calls Try.prog 94 #[.slice A0 was.length c0, .slice A1 is.length c1, .int .i64 o] W fun e w' => ∃ v, e = .returned v ∧ (HP.val k142 v (chg 0 o was is)).at_ w' (fun k => Z k ∨ W.heap.size ≤ k) ∧ Below W.heap.size W w' := by
  obtain ⟨Φ, hΦ⟩ : ∃ Φ : HP, Φ = (HP.val KR (.slice A0 was.length c0) was).and (HP.val KR (.slice A1 is.length c1) is) := ⟨_, rfl⟩
  have H := Aside0.mk (Ds.nil (Cx.startz (W := W) (Z := Z) (Φ := Φ) (by rw [hΦ]; exact ⟨hv0, hv1⟩)))
  have hz0 : ∀ w Z, Φ.at_ w Z → (HP.val KR (.slice A0 was.length c0) was).at_ w Z := fun w Z h => by rw [hΦ] at h; exact h.1
  have hz1 : ∀ w Z, Φ.at_ w Z → (HP.val KR (.slice A1 is.length c1) is).at_ w Z := fun w Z h => by rw [hΦ] at h; exact h.2
  replace hz0 := Aside0.mk hz0
  replace hz1 := Aside0.mk hz1
  obtain ⟨both, hboth⟩ : ∃ b, b = min was.length is.length := ⟨_, rfl⟩
  have hb0 : both ≤ was.length := by omega
  have hb1 : both ≤ is.length := by omega
  have hb2 : o ≤ both := by omega
  replace hr0 := Lib.hid hr0
  replace hr1 := Lib.hid hr1
  obtain ⟨base, hbase⟩ : ∃ b, b = ups (repl 0 was is) o (both - o) := ⟨_, rfl⟩
  have hbl : base.length ≤ 100000 := by have := ups_le _ (repl_le 0 was is) o (both - o); rw [← hbase] at this; omega
  have hpart : Hid (∀ out, out = base ++ downs (0 + was.length) (was.length - is.length) ++ ups (apnd 0 is) was.length (is.length - was.length) → out = chg 0 o was is) := Lib.hid (by
    intro out h
    rw [h, hbase]
    unfold chg
    rw [← hboth])
  replace hbase := Lib.hid hbase
  replace hboth := Lib.hid hboth
  replace hΦ := Lib.hid hΦ
  clear hv0 hv1
  go_enter Try.func94, Try.ntmps94
  go_wp2
  go_loopw [7, 8] (fun v i wr => ∃ (j : Nat) (out : List S142) (A2 : Option Addr) (c2 : Nat), o ≤ j ∧ j ≤ both ∧ i = .int .i64 j ∧ v = .slice A2 out.length c2 ∧ Hid (out = ups (repl 0 was is) o (j - o)) ∧ Aside0 (Ds (fun _ => False) Z W wr Φ (.slice A2 out.length c2) out)) (fun _ i _ => both - (intOf i).toNat)
  case atStart => exact ⟨o, [], none, 0, by omega, by omega, rfl, rfl, Lib.hid (by rw [Nat.sub_self]; rfl), H⟩
  case round =>
    clear H
    obtain ⟨k, out, A2, c2, hok, hk, rfl, rfl, hout, H⟩ := hrel
    by_cases hlt : k < both
    · obtain ⟨Z1, hZ⟩ := H.out.now
      obtain ⟨ra, hra⟩ : ∃ r, was[k]? = some r := ⟨_, List.getElem?_eq_getElem (by omega)⟩
      obtain ⟨rb, hrb⟩ : ∃ r, is[k]? = some r := ⟨_, List.getElem?_eq_getElem (by omega)⟩
      obtain ⟨ad0, B0, d0, rfl, q0, hd0, hv0⟩ := row_len (HP.val_rd (hz0.out _ _ hZ)) hra
      obtain ⟨ad1, B1, d1, rfl, q1, hd1, hv1⟩ := row_len (HP.val_rd (hz1.out _ _ hZ)) hrb
      have hla : ra.length ≤ 100000 := hr0.out ra (List.mem_of_getElem? hra)
      have hlb : rb.length ≤ 100000 := hr1.out rb (List.mem_of_getElem? hrb)
      have hC0 := Aside0.mk (HP.val_C hv0)
      have hC1 := Aside0.mk (HP.val_C hv1)
      clear hv0 hv1 hZ
      have hkk : Hid (ups (repl 0 was is) o (k + 1 - o) = out ++ (if ra = rb then [] else [⟨2, k, rb⟩])) := Lib.hid (by rw [show k + 1 - o = (k - o) + 1 by omega]; simp only [ups]; rw [hout.out, show o + (k - o) = k by omega]; congr 1; unfold repl; rw [hra, hrb]; simp [List.getD_eq_getElem?_getD, hrb])
      have hol : out.length ≤ 100000 := by have := ups_le _ (repl_le 0 was is) o (k - o); rw [← hout.out] at this; omega
      have hw : IntKind.i64.wrap ((k : Int) + 1) = ((k + 1 : Nat) : Int) := by rw [IntWalk.i64_in _ (by omega)]; omega
      have hk0 : (0 : Int) ≤ k := by omega
      have hk1 : (k : Int) < was.length := by omega
      have hk2 : (k : Int) < is.length := by omega
      obtain ⟨B, hB⟩ : ∃ B, B = decide (ra = rb) := ⟨_, rfl⟩
      have hB' := Lib.hid hB
      clear hB
      go_wp2
      go_upto_region 5 with (fail)
      go_region_held3 (fun w' => w'.cell? (ad0.add k) = some (.slice B0 ra.length d0) ∧ w'.cell? (ad1.add k) = some (.slice B1 rb.length d1))
        (first | exact ⟨q0, q1⟩ | exact ⟨pw_cell_below hcl q0, pw_cell_below hcl q1⟩)
        (first | (go_at_call 20; refine (Cx.toBelow (riffleref03_Nums.calls 1000001 B0 d0 ra B1 d1 rb B _ (Kd.C_below hC0.out (below_drew (Below.refl _ _))) hd0 (Kd.C_below hC1.out (below_drew (Below.refl _ _))) hd1 (by rw [nums_pure _ _ (by omega), hB'.out]))).mono ?_; rintro e Wh ⟨rfl, hcl⟩; have H2 := Aside0.mk ((H.out.skip (below_drew (Below.refl _ _))).skip hcl)))
      rename_i hHeld
      have qh := hHeld.2
      clear hHeld
      clear q0 q1 H hC0 hC1
      rcases B with _ | _
      · have hne : ra ≠ rb := by have := hB'.out; intro e; simp [e] at this
        obtain ⟨Z2, hZ2⟩ := H2.out.now
        obtain ⟨ad1', B1', d1', e1, q1', _, hv1'⟩ := row_len (HP.val_rd (hz1.out _ _ hZ2)) hrb
        injection e1 with e1
        subst e1
        rw [qh] at q1'
        injection q1' with q1'
        injection q1' with e2 _ e3
        subst e2 e3
        clear hZ2 hv1'
        obtain ⟨A4, c4, w4, hrun, H4⟩ := H2.out.snoc ⟨2, k, rb⟩ B1 d1 (fun Z hz => by
          obtain ⟨ad1', B1', d1', e1, q1', _, hv1'⟩ := row_len (HP.val_rd (hz1.out _ _ hz)) hrb
          injection e1 with e1
          subst e1
          rw [qh] at q1'
          injection q1' with q1'
          injection q1' with e2 _ e3
          subst e2 e3
          exact hv1') (by omega)
        have hout' : Hid (out ++ [⟨2, k, rb⟩] = ups (repl 0 was is) o (k + 1 - o)) := Lib.hid (by rw [hkk.out, if_neg hne])
        generalize hO : out ++ [⟨2, k, rb⟩] = out' at *
        replace hO := Lib.hid hO
        replace hrun := Aside0.mk hrun
        have H5 := Aside0.mk H4
        replace hra := Lib.hid hra
        replace hrb := Lib.hid hrb
        clear H4 H2
        go_wp2_with (refine wpList_app rfl rfl rfl rfl hrun.out ?_)
        go_roundw
        case rel => exact ⟨k + 1, out', A4, c4, by omega, by omega, by go_num, rfl, hout', H5⟩
        case measure => simp [intOf]; omega
      · have he : ra = rb := by have := hB'.out; simpa using this.symm
        have hout' : Hid (out = ups (repl 0 was is) o (k + 1 - o)) := Lib.hid (by rw [hkk.out, if_pos he, List.append_nil])
        replace hra := Lib.hid hra
        replace hrb := Lib.hid hrb
        go_wp2
        go_roundw
        case rel => exact ⟨k + 1, out, A2, c2, by omega, by omega, by go_num, rfl, hout', H2⟩
        case measure => simp [intOf]; omega
    · obtain rfl : k = both := by omega
      obtain rfl : base = out := by rw [hout.out, hbase.out]
      have hwl : IntKind.i64.wrap ((was.length : Int) - 1) = (was.length : Int) - 1 := IntWalk.i64_in _ (by omega)
      by_cases hc : (k : Int) < was.length
      · have hc2 : ¬ (k : Int) < is.length := by have := hboth.out; omega
        go_wp2
        go_loopw [7, 9] (fun v i wr => ∃ (n : Nat) (p : Int) (out : List S142) (A2 : Option Addr) (c2 : Nat), n ≤ was.length - is.length ∧ i = .int .i64 p ∧ Hid (p = (was.length : Int) - 1 - n) ∧ v = .slice A2 out.length c2 ∧ Hid (out = base ++ downs (0 + was.length) n) ∧ Aside0 (Ds (fun _ => False) Z W wr Φ (.slice A2 out.length c2) out)) (fun _ i _ => (intOf i + 1 - is.length).toNat)
        case atStart => exact ⟨0, (was.length : Int) - 1, base, A2, c2, by omega, rfl, Lib.hid (by omega), rfl, Lib.hid (by simp [downs]), H⟩
        case round =>
          clear H hout
          obtain ⟨n, p, out, A2, c2, hn, rfl, hp, rfl, hout, H⟩ := hrel
          have hol2 : out.length ≤ 300000 := by have h2 := downs_le (0 + was.length) n; rw [hout.out, List.length_append]; omega
          by_cases hlt : n < was.length - is.length
          · skip
            have hp0 : (is.length : Int) ≤ p := by have := hp.out; omega
            have hp1 : p ≤ 100000 := by have := hp.out; omega
            have hwp : IntKind.i64.wrap (p - 1) = p - 1 := IntWalk.i64_in _ (by omega)
            obtain ⟨A4, c4, w4, hrun, H4⟩ := H.out.snoc ⟨3, p, []⟩ none 0 (fun Z hz => HP.val_nil _ _ _) (by omega)
            have hout' : Hid (out ++ [⟨3, p, []⟩] = base ++ downs (0 + was.length) (n + 1)) := Lib.hid (by rw [hout.out, List.append_assoc, show p = 0 + (was.length : Int) - ((n : Int) + 1) by have := hp.out; omega]; rfl)
            have hp' : Hid (p - 1 = (was.length : Int) - 1 - ((n + 1 : Nat) : Int)) := Lib.hid (by have := hp.out; omega)
            generalize hO : out ++ [⟨3, p, []⟩] = out' at *
            replace hO := Lib.hid hO
            replace hrun := Aside0.mk hrun
            have H5 := Aside0.mk H4
            clear H4 H
            go_wp2_with (refine wpList_app rfl rfl rfl rfl hrun.out ?_)
            go_roundw
            case rel => exact ⟨n + 1, p - 1, out', A4, c4, by omega, rfl, hp', rfl, hout', H5⟩
            case measure => simp [intOf]; omega
          · obtain rfl : n = was.length - is.length := by omega
            have hp0 : ¬ (is.length : Int) ≤ p := by have := hp.out; omega
            go_wp2
            go_loopw [7, 10] (fun v i wr => ∃ (j m : Nat) (out : List S142) (A2 : Option Addr) (c2 : Nat), m ≤ is.length - was.length ∧ i = .int .i64 (j : Int) ∧ Hid (j = was.length + m) ∧ v = .slice A2 out.length c2 ∧ Hid (out = base ++ downs (0 + was.length) (was.length - is.length) ++ ups (apnd 0 is) was.length m) ∧ Aside0 (Ds (fun _ => False) Z W wr Φ (.slice A2 out.length c2) out)) (fun _ i _ => is.length - (intOf i).toNat)
            case atStart => exact ⟨was.length, 0, out, A2, c2, by omega, rfl, Lib.hid rfl, rfl, Lib.hid (by rw [hout.out]; simp [ups]), H⟩
            case round =>
              clear H hout hol2
              obtain ⟨j, m, out, A2, c2, hm, rfl, hjj, rfl, hout, H⟩ := hrel
              have hol2 : out.length ≤ 400000 := by have h2 := downs_le (0 + was.length) (was.length - is.length); have h3 := ups_le _ (apnd_le 0 is) was.length m; rw [hout.out, List.length_append, List.length_append]; omega
              by_cases hlt : j < is.length
              · obtain ⟨Z1, hZ⟩ := H.out.now
                obtain ⟨rb, hrb⟩ : ∃ r, is[j]? = some r := ⟨_, List.getElem?_eq_getElem (by omega)⟩
                obtain ⟨ad1, B1, d1, rfl, q1, hd1, hv1⟩ := row_len (HP.val_rd (hz1.out _ _ hZ)) hrb
                clear hv1 hZ
                have hkk : Hid (ups (apnd 0 is) was.length (m + 1) = ups (apnd 0 is) was.length m ++ [⟨1, j, rb⟩]) := Lib.hid (by simp only [ups, apnd]; rw [← hjj.out]; simp [List.getD_eq_getElem?_getD, hrb])
                have hw : IntKind.i64.wrap ((j : Int) + 1) = ((j + 1 : Nat) : Int) := by rw [IntWalk.i64_in _ (by omega)]; omega
                have hk0 : (0 : Int) ≤ j := by omega
                have hk2 : (j : Int) < is.length := by omega
                obtain ⟨A4, c4, w4, hrun, H4⟩ := H.out.snoc ⟨1, j, rb⟩ B1 d1 (fun Z hz => by
                  obtain ⟨ad1', B1', d1', e1, q1', _, hv1'⟩ := row_len (HP.val_rd (hz1.out _ _ hz)) hrb
                  injection e1 with e1
                  subst e1
                  rw [q1] at q1'
                  injection q1' with q1'
                  injection q1' with e2 _ e3
                  subst e2 e3
                  exact hv1') (by omega)
                have hout' : Hid (out ++ [⟨1, j, rb⟩] = base ++ downs (0 + was.length) (was.length - is.length) ++ ups (apnd 0 is) was.length (m + 1)) := Lib.hid (by rw [hkk.out, hout.out, List.append_assoc, List.append_assoc])
                generalize hO : out ++ [⟨1, j, rb⟩] = out' at *
                replace hO := Lib.hid hO
                replace hrun := Aside0.mk hrun
                replace hrb := Lib.hid hrb
                have H5 := Aside0.mk H4
                clear H4 H
                go_wp2_with (refine wpList_app rfl rfl rfl rfl hrun.out ?_)
                go_roundw
                case rel => exact ⟨j + 1, m + 1, out', A4, c4, by have := hjj.out; omega, by go_num, Lib.hid (by have := hjj.out; omega), rfl, hout', H5⟩
                case measure => simp [intOf]; omega
              · have hj : ¬ (j : Int) < is.length := by omega
                have hje : Hid (m = is.length - was.length) := Lib.hid (by have := hjj.out; omega)
                go_wp2
                go_ret
                have h := H.out.done
                exact ⟨_, rfl, by rw [← hpart.out out (by rw [hout.out, hje.out])]; exact h.2, h.1⟩
      · skip
        go_wp2
        go_loopw [7, 9] (fun v i wr => ∃ (n : Nat) (p : Int) (out : List S142) (A2 : Option Addr) (c2 : Nat), n ≤ was.length - is.length ∧ i = .int .i64 p ∧ Hid (p = (was.length : Int) - 1 - n) ∧ v = .slice A2 out.length c2 ∧ Hid (out = base ++ downs (0 + was.length) n) ∧ Aside0 (Ds (fun _ => False) Z W wr Φ (.slice A2 out.length c2) out)) (fun _ i _ => (intOf i + 1 - is.length).toNat)
        case atStart => exact ⟨0, (was.length : Int) - 1, base, A2, c2, by omega, rfl, Lib.hid (by omega), rfl, Lib.hid (by simp [downs]), H⟩
        case round =>
          clear H hout
          obtain ⟨n, p, out, A2, c2, hn, rfl, hp, rfl, hout, H⟩ := hrel
          have hol2 : out.length ≤ 300000 := by have h2 := downs_le (0 + was.length) n; rw [hout.out, List.length_append]; omega
          by_cases hlt : n < was.length - is.length
          · skip
            exfalso
            omega
          · obtain rfl : n = was.length - is.length := by omega
            have hp0 : ¬ (is.length : Int) ≤ p := by have := hp.out; omega
            go_wp2
            go_loopw [7, 10] (fun v i wr => ∃ (j m : Nat) (out : List S142) (A2 : Option Addr) (c2 : Nat), m ≤ is.length - was.length ∧ i = .int .i64 (j : Int) ∧ Hid (j = was.length + m) ∧ v = .slice A2 out.length c2 ∧ Hid (out = base ++ downs (0 + was.length) (was.length - is.length) ++ ups (apnd 0 is) was.length m) ∧ Aside0 (Ds (fun _ => False) Z W wr Φ (.slice A2 out.length c2) out)) (fun _ i _ => is.length - (intOf i).toNat)
            case atStart => exact ⟨was.length, 0, out, A2, c2, by omega, rfl, Lib.hid rfl, rfl, Lib.hid (by rw [hout.out]; simp [ups]), H⟩
            case round =>
              clear H hout hol2
              obtain ⟨j, m, out, A2, c2, hm, rfl, hjj, rfl, hout, H⟩ := hrel
              have hol2 : out.length ≤ 400000 := by have h2 := downs_le (0 + was.length) (was.length - is.length); have h3 := ups_le _ (apnd_le 0 is) was.length m; rw [hout.out, List.length_append, List.length_append]; omega
              by_cases hlt : j < is.length
              · obtain ⟨Z1, hZ⟩ := H.out.now
                obtain ⟨rb, hrb⟩ : ∃ r, is[j]? = some r := ⟨_, List.getElem?_eq_getElem (by omega)⟩
                obtain ⟨ad1, B1, d1, rfl, q1, hd1, hv1⟩ := row_len (HP.val_rd (hz1.out _ _ hZ)) hrb
                clear hv1 hZ
                have hkk : Hid (ups (apnd 0 is) was.length (m + 1) = ups (apnd 0 is) was.length m ++ [⟨1, j, rb⟩]) := Lib.hid (by simp only [ups, apnd]; rw [← hjj.out]; simp [List.getD_eq_getElem?_getD, hrb])
                have hw : IntKind.i64.wrap ((j : Int) + 1) = ((j + 1 : Nat) : Int) := by rw [IntWalk.i64_in _ (by omega)]; omega
                have hk0 : (0 : Int) ≤ j := by omega
                have hk2 : (j : Int) < is.length := by omega
                obtain ⟨A4, c4, w4, hrun, H4⟩ := H.out.snoc ⟨1, j, rb⟩ B1 d1 (fun Z hz => by
                  obtain ⟨ad1', B1', d1', e1, q1', _, hv1'⟩ := row_len (HP.val_rd (hz1.out _ _ hz)) hrb
                  injection e1 with e1
                  subst e1
                  rw [q1] at q1'
                  injection q1' with q1'
                  injection q1' with e2 _ e3
                  subst e2 e3
                  exact hv1') (by omega)
                have hout' : Hid (out ++ [⟨1, j, rb⟩] = base ++ downs (0 + was.length) (was.length - is.length) ++ ups (apnd 0 is) was.length (m + 1)) := Lib.hid (by rw [hkk.out, hout.out, List.append_assoc, List.append_assoc])
                generalize hO : out ++ [⟨1, j, rb⟩] = out' at *
                replace hO := Lib.hid hO
                replace hrun := Aside0.mk hrun
                replace hrb := Lib.hid hrb
                have H5 := Aside0.mk H4
                clear H4 H
                go_wp2_with (refine wpList_app rfl rfl rfl rfl hrun.out ?_)
                go_roundw
                case rel => exact ⟨j + 1, m + 1, out', A4, c4, by have := hjj.out; omega, by go_num, Lib.hid (by have := hjj.out; omega), rfl, hout', H5⟩
                case measure => simp [intOf]; omega
              · have hj : ¬ (j : Int) < is.length := by omega
                have hje : Hid (m = is.length - was.length) := Lib.hid (by have := hjj.out; omega)
                go_wp2
                go_ret
                have h := H.out.done
                exact ⟨_, rfl, by rw [← hpart.out out (by rw [hout.out, hje.out])]; exact h.2, h.1⟩
end Go.Proofs.Ytpakcfbjjlmcaaa.Tape
