/- Set of a tape. No condition. -/
import Derived.Test.YtpakcfbjjlmcaaaTape5
set_option linter.unusedVariables false
set_option linter.unusedSimpArgs false
set_option maxHeartbeats 3200000
set_option maxRecDepth 100000
namespace Go.RK
open Go.RowKit
theorem run_slice_kk {P : Program} (t e : TypeId) {i : TypeInfo} (ht : P.underlying t = some (.slice e)) (hi : P.info? e = some i) (A : Option Addr) (n c k : Nat) (hk : k ≤ c) :
    ∀ W : World, (Instr.slice t (.slice A n c) none (some (.int .i64 (k : Int))) (some (.int .i64 (k : Int)))).run P W = .ok (.slice A k k) W := by
  intro W
  have e1 : (k : Int) ≤ c := by omega
  cases A <;> simp [Instr.slice, Instr.sliceBounds, Instr.sliceBound, run_underlying ht, asIntOf, sizeOf, typeInfo, hi, e1, Addr.add] <;> omega
end Go.RK
namespace Go.Proofs.Ytpakcfbjjlmcaaa.Tape
open Go.RowKit Go.RK Go.TP Go.Proofs.YtpakcfbjjlmcaaaW.PrintWords
open Go.Proofs.Ytpakcfbjjlmcaaa.PAll (S142 k142)
variable {W : World} {M Z : Nat → Prop} {g : Nat} {first width : Int} {v : Value} {R : List (List Int)}
theorem set_nil (at_ : Int) (r : Value) : Calls Try.prog 59 #[.pointer none, .int .i64 at_, r] W fun e w' => e = .returned (.tuple #[.slice none 0 0, .int .i64 1]) ∧ w' = W := by
  go_enter Try.func59, Try.ntmps59
  go_wp2
  go_ret2
  exact ⟨rfl, rfl⟩
theorem set_off {A : Option Addr} {n c : Nat} (at_ : Int) (r : Value) (h : (HP.blk g (tp (.slice A n c) first width)).at_ W M) (h1 : 0 ≤ first) (h2 : first + n ≤ 1000000) (hi : ¬ (first ≤ at_ ∧ at_ ≤ first + n)) : Calls Try.prog 59 #[.pointer (some ⟨g, 0, none⟩), .int .i64 at_, r] W fun e w' => e = .returned (.tuple #[.slice none 0 0, .int .i64 1]) ∧ Below W.heap.size W w' := by
  have k1 : W.cell? ⟨g, 1, none⟩ = some (.int .i64 first) := cell_blk h.1 rfl
  have hb := Aside0.mk h.1
  by_cases hlt : at_ < first
  · clear h hi
    go_enter Try.func59, Try.ntmps59
    go_wp2
    go_ret2
    exact ⟨rfl, Below.refl _ _⟩
  · have hge : first + n < at_ := by omega
    clear h hi
    go_enter Try.func59, Try.ntmps59
    go_wp2_with fail
    refine (end_tp hb.out h1 h2).mono ?_
    rintro e w1 ⟨rfl, hb⟩
    go_wp2
    go_ret2
    exact ⟨rfl, hb⟩
theorem set_misfit {A : Option Addr} {n c : Nat} {A1 : Option Addr} {c1 : Nat} {rows : List (List Int)} (at_ : Int) (h : (HP.blk g (tp (.slice A n c) first width)).at_ W M) (hx : (HP.val KR (.slice A1 rows.length c1) rows).at_ W Z) (h1 : 0 ≤ first) (h2 : first + n ≤ 1000000) (hi : first ≤ at_ ∧ at_ ≤ first + n) (hrl : rows.length ≤ 1000000) (hf : rows.all (fun r => decide ((r.length : Int) = width)) = false) :
    Calls Try.prog 59 #[.pointer (some ⟨g, 0, none⟩), .int .i64 at_, .slice A1 rows.length c1] W fun e w' => e = .returned (.tuple #[.slice none 0 0, .int .i64 3]) ∧ Below W.heap.size W w' := by
  have k1 : W.cell? ⟨g, 1, none⟩ = some (.int .i64 first) := cell_blk h.1 rfl
  have H := Aside0.mk (Cx.startz (W := W) (Z := fun _ => True) (Φ := (HP.val KR (.slice A1 rows.length c1) rows).and (HP.blk g (tp (.slice A n c) first width))) ⟨HP.mono hx (fun _ _ _ => trivial), HP.mono h (fun _ _ _ => trivial)⟩)
  obtain ⟨hi1, hi2⟩ := hi
  replace hf := Lib.hid hf
  clear h hx
  go_enter Try.func59, Try.ntmps59
  go_wp2_with fail
  refine (H.out.cskip (fun Z hz => end_tp hz.2.1 h1 h2)).mono ?_
  rintro e w1 ⟨rfl, H1⟩
  replace H1 := Aside0.mk H1
  go_wp2_with fail
  refine (H1.out.cskip (fun Z hz => fits_tp hz.2 (HP.val_rd hz.1) hrl false hf.out.symm)).mono ?_
  rintro e w2 ⟨rfl, H2⟩
  replace H2 := Aside0.mk H2
  go_wp2
  go_ret2
  exact ⟨rfl, H2.out.below⟩
theorem set_ok {A : Option Addr} {c : Nat} {A1 : Option Addr} {c1 : Nat} {rows : List (List Int)} (at_ : Int) (k : Nat) (h : (HP.blk g (tp (.slice A R.length c) first width)).at_ W M) (hv : (HP.val KR (.slice A R.length c) R).at_ W Z) (hx : (HP.val KR (.slice A1 rows.length c1) rows).at_ W Z) (hd : ∀ k, Z k → ¬ M k)
    (h1 : 0 ≤ first) (h2 : first + R.length ≤ 10000) (hat : Hid (at_ = first + k)) (hk : k ≤ R.length) (hrl : rows.length ≤ 10000) (hr0 : ∀ r ∈ R, r.length ≤ 10000) (hr1 : ∀ r ∈ rows, r.length ≤ 10000) (hf : rows.all (fun r => decide ((r.length : Int) = width)) = true) :
    Calls Try.prog 59 #[.pointer (some ⟨g, 0, none⟩), .int .i64 at_, .slice A1 rows.length c1] W fun e w' => ∃ v v', e = .returned (.tuple #[v', .int .i64 0]) ∧ Does W M Z ((HP.val KR v (R.take k ++ rows)).and (HP.val k142 v' (chg at_ 0 (R.drop k) rows))) (HP.blk g (tp v first width)) w' := by
  have k1 : W.cell? ⟨g, 1, none⟩ = some (.int .i64 first) := cell_blk h.1 rfl
  have H := Aside0.mk (Cx.start (Φ := (HP.val KR (.slice A1 rows.length c1) rows).and (HP.val KR (.slice A R.length c) R)) h ⟨hx, hv⟩ hd)
  have hi1 : first ≤ at_ := by have := hat.out; omega
  have hi2 : at_ ≤ first + R.length := by have := hat.out; omega
  have hcap := HP.val_le hv
  obtain ⟨D, hD⟩ : ∃ D, D = R.drop k := ⟨_, rfl⟩
  obtain ⟨T, hT⟩ : ∃ T, T = R.take k := ⟨_, rfl⟩
  have hTl : T.length = k := by rw [hT, List.length_take]; omega
  have hDl : at_ + D.length ≤ 10000 := by have := hat.out; rw [hD, List.length_drop]; omega
  have hDr : ∀ r ∈ D, r.length ≤ 100000 := fun r hr => by have := hr0 r (List.mem_of_mem_drop (hD ▸ hr)); omega
  have hr1' : ∀ r ∈ rows, r.length ≤ 100000 := fun r hr => by have := hr1 r hr; omega
  obtain ⟨A2, hcut, hval⟩ := cut_drop (P := Try.prog) (d := KR) 38 22 Try.underlying38 (info_parts infoR).choose_spec.1 (info_parts infoR).choose_spec.2.2.1 A c R (k : Int) (by omega) (by omega) hcap
  have hcut3 := run_slice_kk (P := Try.prog) 38 22 Try.underlying38 (info_parts infoR).choose_spec.1 A R.length c k (by omega)
  rw [Int.toNat_natCast] at hcut hval
  rw [← hD] at hcut hval ⊢
  have hval3 : ∀ W M, (HP.val KR (.slice A R.length c) R).at_ W M → (HP.val KR (.slice A T.length T.length) T).at_ W M := fun W M h => by
    refine ⟨_, _, rfl, Nat.le_refl _, ?_⟩
    have := Kd.F_take (Kd.V_at (e := 0) (base := 0) h).2.2 (by omega : k ≤ R.length)
    rw [← hT] at this
    exact this
  rw [← hT]
  have hwk : IntKind.i64.wrap (at_ - first) = (k : Int) := by rw [IntWalk.i64_in _ (by omega)]; have := hat.out; omega
  replace hf := Lib.hid hf
  replace hr0 := Lib.hid hr0
  replace hr1 := Lib.hid hr1
  replace hr1' := Lib.hid hr1'
  replace hDr := Lib.hid hDr
  replace hD := Lib.hid hD
  replace hT := Lib.hid hT
  replace hTl := Lib.hid hTl
  have hval0 := Aside0.mk hval
  have hval30 := Aside0.mk hval3
  clear h hv hx hd hval hval3
  go_enter Try.func59, Try.ntmps59
  go_wp2_with fail
  refine (H.out.cread 0 rfl (fun M hm => end_tp hm.1 h1 (by omega))).mono ?_
  rintro e w1 ⟨rfl, H1⟩
  replace H1 := Aside0.mk H1
  go_wp2_with fail
  obtain ⟨Zq, hZq⟩ := H1.out.now
  refine (H1.out.cread 0 rfl (fun M hm => fits_tp hm (HP.val_rd hZq.1) (by omega) true hf.out.symm)).mono ?_
  rintro e w2 ⟨rfl, H2⟩
  replace H2 := Aside0.mk H2
  have p0 := H2.out.cell 0 rfl 0 rfl
  have p1 := H2.out.cell 0 rfl 1 rfl
  clear hZq k1 H H1
  go_wp2
  go_quiet (fail)
  have H3 := Aside0.mk (H2.out.drewN nq)
  clear p0 p1 H2
  go_wp2_with fail
  refine (H3.out.cvalh (fun Z hZ => changes_rows A2 A1 _ _ D rows at_ (hval0.out _ _ hZ.2) hZ.1 (by omega) (by omega) (by omega) (by omega) hDr.out hr1'.out)).mono ?_
  rintro e w3 ⟨A3, c3, rfl, H4⟩
  replace H4 := Aside0.mk H4
  generalize hdel : chg at_ 0 D rows = del at *
  replace hdel := Lib.hid hdel
  have p0 := H4.out.cell 0 rfl 0 rfl
  have p1 := H4.out.cell 0 rfl 1 rfl
  clear H3
  go_wp2
  go_quiet (fail)
  have H5 := Aside0.mk (H4.out.drewN nq)
  clear p0 p1 H4
  obtain ⟨Φ, hΦ⟩ : ∃ Φ : HP, Φ = ((HP.val KR (.slice A1 rows.length c1) rows).and (HP.val KR (.slice A R.length c) R)).and (HP.val k142 (.slice A3 del.length c3) del) := ⟨_, rfl⟩
  rw [← hΦ] at H5
  have hz1 := Aside0.mk (show ∀ w Z, Φ.at_ w Z → (HP.val KR (.slice A1 rows.length c1) rows).at_ w Z from fun w Z h => by rw [hΦ] at h; exact h.1.1)
  have hz0 := Aside0.mk (show ∀ w Z, Φ.at_ w Z → (HP.val KR (.slice A R.length c) R).at_ w Z from fun w Z h => by rw [hΦ] at h; exact h.1.2)
  have hz2 := Aside0.mk (show ∀ w Z, Φ.at_ w Z → (HP.val k142 (.slice A3 del.length c3) del).at_ w Z from fun w Z h => by rw [hΦ] at h; exact h.2)
  replace hΦ := Lib.hid hΦ
  have H6 : Aside0 (Kept M Z W _ Φ [HP.blk g (tp (.slice A R.length c) first width)] (.slice A T.length T.length) T) := ⟨.inl ⟨A, rfl, H5.out.imp (fun Z hz => ⟨hz, hval30.out _ _ (hz0.out _ _ hz)⟩)⟩⟩
  clear H5
  go_wp2
  go_loopw [10, 67] (fun v i wr => ∃ (j : Nat) (L : List (List Int)) (A5 : Option Addr) (c5 : Nat), j ≤ rows.length ∧ i = .int .i64 j ∧ v = .slice A5 L.length c5 ∧ Hid (L = T ++ rows.take j) ∧ Aside0 (Kept M Z W wr Φ [HP.blk g (tp (.slice A R.length c) first width)] (.slice A5 L.length c5) L)) (fun _ i _ => rows.length - (intOf i).toNat)
  case atStart => exact ⟨0, T, A, T.length, by omega, rfl, by rw [hTl.out], Lib.hid (by simp), H6⟩
  case round =>
    clear H6
    obtain ⟨j, L, A5, c5, hj, rfl, rfl, hL, H⟩ := hrel
    have hLl : L.length ≤ 20000 := by have h1 := hTl.out; rw [hL.out, List.length_append, List.length_take]; omega
    by_cases hlt : j < rows.length
    · obtain ⟨Z1, hZ⟩ := H.out.now
      obtain ⟨rb, hrb⟩ : ∃ r, rows[j]? = some r := ⟨_, List.getElem?_eq_getElem (by omega)⟩
      obtain ⟨ad1, B1, d1, rfl, q1, hd1, hv1⟩ := row_len (HP.val_rd (hz1.out _ _ hZ)) hrb
      have hlb : rb.length ≤ 100000 := hr1'.out rb (List.mem_of_getElem? hrb)
      have hC1 := Aside0.mk (HP.val_C hv1)
      have hL' : Hid (L ++ [rb] = T ++ rows.take (j + 1)) := Lib.hid (by rw [hL.out, List.take_add_one, hrb, List.append_assoc]; rfl)
      clear hv1 hZ
      replace hrb := Lib.hid hrb
      have hj2 : (j : Int) < rows.length := by omega
      go_wp2_with fail
      refine (clone_row B1 d1 rb hC1.out (by omega)).mono ?_
      rintro e w4 ⟨B3, d3, rfl, hb3, hv3⟩
      obtain ⟨A6, c6, w6, hrun, H7⟩ := (H.out.know hb3 hv3).snoc rb B3 d3 (fun Z hz => hz.2) (by omega)
      have H8 := Aside0.mk H7.drop
      replace hrun := Aside0.mk hrun
      generalize hO : L ++ [rb] = L' at *
      replace hO := Lib.hid hO
      clear H7 H hv3 hb3
      go_wp2_with (refine wpList_app rfl rfl rfl rfl hrun.out ?_)
      go_roundw
      case rel => exact ⟨j + 1, L', A6, c6, by omega, by go_num, rfl, hL', H8⟩
      case measure => simp [intOf]; omega
    · obtain rfl : j = rows.length := by omega
      have hj2 : ¬ (rows.length : Int) < rows.length := by omega
      have H8 := Aside0.mk H.out.cx
      have q0 := H8.out.cell 0 rfl 0 rfl
      have qf := fun j => H8.out.unfrozen 0 rfl j
      clear H
      go_wp2
      go_ret2
      have hL2 : T ++ rows = L := by rw [hL.out, List.take_length]
      rw [hL2, hdel.out]
      exact ⟨_, _, rfl, ((H8.out.imp (Φ' := (HP.val KR (.slice A5 L.length c5) L).and (HP.val k142 (.slice A3 del.length c3) del)) (fun Z hz => ⟨hz.2, hz2.out _ _ hz.1⟩)).put 0 rfl 0 (.slice A5 L.length c5)).done 0 rfl⟩
end Go.Proofs.Ytpakcfbjjlmcaaa.Tape
