/- The law's own 'same': both have the same. No condition but the bounds. -/
import Derived.Test.YtpakcfbjjlmcaaaTape9
set_option linter.unusedVariables false
set_option linter.unusedSimpArgs false
set_option maxHeartbeats 3200000
set_option maxRecDepth 100000
namespace Go.Proofs.Ytpakcfbjjlmcaaa.Tape
open Go.RowKit Go.RK Go.TP Go.Proofs.YtpakcfbjjlmcaaaW.PrintWords
open Go.Proofs.Ytpakcfbjjlmcaaa.PAll (S142 k142 riffleref03_Nums.calls)
variable {W : World} {M Z : Nat → Prop} {g : Nat} {width : Int} {v : Value} {X : List (List Int)}
/-- what same reads -/
abbrev RO (g : Nat) (v : Value) (F : Nat) (width : Int) (X : List (List Int)) (A : Option Addr) (c : Nat) : HP := ((HP.blk g (tp v F width)).and (HP.val KR v (X.drop F))).and (HP.val KR (.slice A X.length c) X)
theorem row_any {v : Value} (i : Int) (F : Nat) (x : List Int) (b : Bool) (h : (HP.blk g (tp v F width)).at_ W M) (hv : (HP.val KR v (X.drop F)).at_ W Z) (hF : F ≤ X.length) (hX : X.length ≤ 10000) (hr : ∀ r ∈ X, r.length ≤ 10000) (hb : b = decide ((F : Int) ≤ i ∧ i < X.length)) (hx : x = if b then X.getD i.toNat [] else []) :
    Calls Try.prog 62 #[.pointer (some ⟨g, 0, none⟩), .int .i64 i] W fun e w' => ∃ v', e = .returned (.tuple #[v', .bool b]) ∧ (HP.val KI v' x).at_ w' (fun k => Z k ∨ W.heap.size ≤ k) ∧ Below W.heap.size W w' := by
  have hl : ((X.drop F).length : Int) = X.length - F := by rw [List.length_drop]; omega
  obtain ⟨A, c, rfl, _⟩ := HP.val_now hv
  by_cases hi : (F : Int) ≤ i ∧ i < X.length
  · rw [decide_eq_true hi] at hb
    subst hb
    have hj : (X.drop F)[(i - F).toNat]? = some x := by
      rw [List.getElem?_drop, show F + (i - F).toNat = i.toNat by omega, List.getElem?_eq_getElem (by omega), hx]
      simp [List.getD_eq_getElem?_getD, List.getElem?_eq_getElem (show i.toNat < X.length by omega)]
    exact row_hit i (i - F).toNat x h hv (by omega) (by omega) (Lib.hid (by omega)) hj (by have := hr x (List.mem_of_mem_drop (List.mem_of_getElem? hj)); omega)
  · rw [decide_eq_false hi] at hb
    subst hb
    simp only [Bool.false_eq_true, if_false] at hx
    subst hx
    refine (row_miss i h (by omega) (by omega) (fun h => hi ⟨h.1, by omega⟩)).mono ?_
    rintro e w' ⟨rfl, hb⟩
    exact ⟨_, rfl, HP.val_nil _ _ _, hb⟩
theorem end_any {v : Value} (F : Nat) (h : (HP.blk g (tp v F width)).at_ W M) (hv : (HP.val KR v (X.drop F)).at_ W Z) (hF : F ≤ X.length) (hX : X.length ≤ 10000) :
    Calls Try.prog 61 #[.pointer (some ⟨g, 0, none⟩)] W fun e w' => e = .returned (.int .i64 X.length) ∧ Below W.heap.size W w' := by
  have hl : ((X.drop F).length : Int) = X.length - F := by rw [List.length_drop]; omega
  obtain ⟨A, c, rfl, _⟩ := HP.val_now hv
  have e : (X.length : Int) = F + (X.drop F).length := by omega
  rw [e]
  exact end_tp h.1 (by omega) (by omega)
theorem words_any {v : Value} (F : Nat) (q : Int) (h : (HP.blk g (tp v F width)).at_ W M) (hv : (HP.val KR v (X.drop F)).at_ W Z) (hF : F ≤ X.length) (hX : X.length ≤ 10000) (hw : 0 ≤ width ∧ width ≤ 64) (hq : Hid (((X.length : Int) - F) * width = q)) :
    Calls Try.prog 67 #[.pointer (some ⟨g, 0, none⟩)] W fun e w' => e = .returned (.int .i64 q) ∧ Below W.heap.size W w' := by
  have hl : ((X.drop F).length : Int) = X.length - F := by rw [List.length_drop]; omega
  obtain ⟨A, c, rfl, _⟩ := HP.val_now hv
  have e : ((X.drop F).length : Int) * width = q := by rw [hl]; exact hq.out
  have h1 : 0 ≤ ((X.drop F).length : Int) * width := Int.mul_nonneg (by omega) hw.1
  have h2 : ((X.drop F).length : Int) * width ≤ 10000 * 64 := Int.mul_le_mul (by omega) hw.2 hw.1 (by omega)
  exact words_tp h.1 q (Lib.hid e) (by omega) (by omega)
theorem first_q {F : Nat} (h : W.heap[g]? = some (tp v F width)) : Calls Try.prog 66 #[.pointer (some ⟨g, 0, none⟩)] W fun e w' => e = .returned (.int .i64 F) ∧ ∃ m, w' = W.drewN m := by
  have c1 : W.cell? ⟨g, 1, none⟩ = some (.int .i64 F) := cell_blk h rfl
  clear h
  go_enter Try.func66, Try.ntmps66
  go_wp2
  go_ret
  exact ⟨rfl, 0, rfl⟩
theorem end_q {F : Nat} {A : Option Addr} {n c : Nat} (h : W.heap[g]? = some (tp (.slice A n c) F width)) (X : Nat) (hX : Hid ((F : Int) + n = X)) (h2 : X ≤ 1000000) : Calls Try.prog 61 #[.pointer (some ⟨g, 0, none⟩)] W fun e w' => e = .returned (.int .i64 X) ∧ ∃ m, w' = W.drewN m := by
  have c0 : W.cell? ⟨g, 0, none⟩ = some (.slice A n c) := cell_blk h rfl
  have c1 : W.cell? ⟨g, 1, none⟩ = some (.int .i64 F) := cell_blk h rfl
  have hw : IntKind.i64.wrap ((F : Int) + n) = X := by rw [hX.out]; exact IntWalk.i64_in _ (by omega)
  clear h
  go_enter Try.func61, Try.ntmps61
  go_wp2
  go_quiet (fail)
  go_wp2
  go_ret
  exact ⟨rfl, _, rfl⟩
theorem words_q {F : Nat} {A : Option Addr} {n c : Nat} (h : W.heap[g]? = some (tp (.slice A n c) F width)) (q : Int) (hq : Hid (n * width = q)) (h1 : 0 ≤ q) (h2 : q ≤ 1000000) : Calls Try.prog 67 #[.pointer (some ⟨g, 0, none⟩)] W fun e w' => e = .returned (.int .i64 q) ∧ ∃ m, w' = W.drewN m := by
  have c0 : W.cell? ⟨g, 0, none⟩ = some (.slice A n c) := cell_blk h rfl
  have c2 : W.cell? ⟨g, 2, none⟩ = some (.int .i64 width) := cell_blk h rfl
  have hw : IntKind.i64.wrap (n * width) = q := by rw [hq.out]; exact IntWalk.i64_in _ (by omega)
  clear h
  go_enter Try.func67, Try.ntmps67
  go_wp2
  go_quiet (fail)
  go_wp2
  go_ret
  exact ⟨rfl, _, rfl⟩
theorem nums_same (A B : Option Addr) (c c' : Nat) (xs : List Int) (hl : xs.length ≤ 100000) (hx : (HP.val KI (.slice A xs.length c) xs).at_ W M) (hy : (HP.val KI (.slice B xs.length c') xs).at_ W Z) :
    Calls Try.prog 20 #[.slice A xs.length c, .slice B xs.length c'] W fun e w' => e = .returned (.bool true) ∧ Below W.heap.size W w' :=
  Cx.toBelow (riffleref03_Nums.calls 1000001 A c xs B c' xs true W (HP.val_C hx) (HP.val_le hx) (HP.val_C hy) (HP.val_le hy) (by rw [nums_pure _ _ (by omega)]; simp))
theorem same_any {v : Value} {A : Option Addr} {c : Nat} (at_ : Int) (F n : Nat) (h : (HP.blk g (tp v F width)).at_ W M) (hv : (HP.val KR v (X.drop F)).at_ W Z) (hx : (HP.val KR (.slice A X.length c) X).at_ W Z) (hok : okT n width (X, F)) (hn : n ≤ 1000) (hw : 0 ≤ width ∧ width ≤ 64) :
    Calls Try.prog 64 #[.pointer (some ⟨g, 0, none⟩), .agg #[.slice A X.length c, .int .i64 F, .int .i64 width], .int .i64 at_] W fun e w' => e = .returned (.bool true) ∧ Below W.heap.size W w' := by
  obtain ⟨hok1, hF, _, hok4⟩ := hok
  simp only at hok1 hF hok4
  have hr10 : ∀ r ∈ X, r.length ≤ 10000 := fun r hr => by have := hok4 r hr; omega
  have H := Aside0.mk ((Cx.startz (W := W) (Z := fun _ => True) (Φ := RO g v F width X A c) ⟨⟨HP.mono h (fun _ _ _ => trivial), HP.mono hv (fun _ _ _ => trivial)⟩, HP.mono hx (fun _ _ _ => trivial)⟩).alloc (.cells #[.slice A X.length c, .int .i64 F, .int .i64 width] 102 (0, 0)))
  replace hr10 := Lib.hid hr10
  replace hok4 := Lib.hid hok4
  have hu := Try.underlying102
  obtain ⟨b4, hb4⟩ : ∃ b, b = W.heap.size := ⟨_, rfl⟩
  have H' : Aside0 (Cx (fun _ => False) (fun _ => True) W _ (RO g v F width X A c) [HP.blk b4 (.cells #[.slice A X.length c, .int .i64 F, .int .i64 width] 102 (0, 0))]) := ⟨by rw [hb4]; exact H.out⟩
  clear h hv hx
  obtain ⟨q0, hq0⟩ : ∃ q : Int, q = (X.length : Int) - F := ⟨_, rfl⟩
  obtain ⟨q, hq⟩ : ∃ q : Int, q0 * width = q := ⟨_, rfl⟩
  have hq1 : 0 ≤ q := by rw [← hq]; exact Int.mul_nonneg (by omega) hw.1
  have hq2 : q ≤ 10000 * 64 := by rw [← hq]; exact Int.mul_le_mul (by omega) hw.2 hw.1 (by omega)
  have hw0 : IntKind.i64.wrap ((X.length : Int) - F) = q0 := by rw [hq0]; exact IntWalk.i64_in _ (by omega)
  have hw1 : IntKind.i64.wrap (q0 * width) = q := by rw [hq]; exact IntWalk.i64_in _ (by omega)
  replace hq := Lib.hid hq
  replace hq0 := Lib.hid hq0
  go_enter Try.func64, Try.ntmps64
  go_wp2
  rw [← hb4] at *
  go_loopw [7] (fun i wr => ∃ p : Int, -1 ≤ p ∧ p ≤ X.length + 1 ∧ i = .int .i64 p ∧ Aside0 (Cx (fun _ => False) (fun _ => True) W wr (RO g v F width X A c) [HP.blk b4 (.cells #[.slice A X.length c, .int .i64 F, .int .i64 width] 102 (0, 0))])) (fun i _ => (X.length + 1 - intOf i).toNat)
  case atStart => exact ⟨-1, by omega, by omega, rfl, H'⟩
  case round =>
    clear H H'
    obtain ⟨p, hp0, hp1, rfl, H⟩ := hrel
    have k0 := H.out.cell 0 rfl 0 rfl
    have k1 := H.out.cell 0 rfl 1 rfl
    by_cases hlt : p ≤ X.length
    · have hwp : IntKind.i64.wrap (p + 1) = p + 1 := IntWalk.i64_in _ (by omega)
      by_cases hF1 : (F : Int) ≤ p
      · by_cases hX1 : p < X.length
        · obtain ⟨j, rfl⟩ : ∃ j : Nat, p = j := ⟨p.toNat, by omega⟩
          obtain ⟨x, hx⟩ : ∃ r, X[j]? = some r := ⟨_, List.getElem?_eq_getElem (by omega)⟩
          have hxl : x.length ≤ 10000 := hr10.out x (List.mem_of_getElem? hx)
          have hgd : Hid (x = if true then X.getD ((j : Int)).toNat [] else []) := Lib.hid (by rw [if_pos rfl, Int.toNat_natCast, List.getD_eq_getElem?_getD, hx]; rfl)
          have hj0 : (0 : Int) ≤ j := by omega
          have hj3 : (j : Int) ≤ X.length := hlt
          go_wp2_with fail
          refine (H.out.cvalh (fun Z hZ => row_any j F x true hZ.1.1 hZ.1.2 hF (by omega) hr10.out (by simp; omega) hgd.out)).mono ?_
          rintro e w2 ⟨A2, c2, rfl, H2⟩
          obtain ⟨ad1, B1, d1, rfl, q1, hd1, hv1⟩ := row_len (HP.val_rd H2.now.choose_spec.1.2) hx
          replace H2 := Aside0.mk H2
          have k0' := H2.out.cell 0 rfl 0 rfl
          have k1' := H2.out.cell 0 rfl 1 rfl
          replace hx := Lib.hid hx
          have hv1' := Aside0.mk hv1
          clear H k0 k1 hv1
          go_wp2_with fail
          refine (H2.out.cskip (fun Z hZ => nums_same _ _ _ _ _ (by omega) hZ.2 hv1'.out)).mono ?_
          rintro e w3 ⟨rfl, H3⟩
          replace H3 := Aside0.mk H3
          clear H2 k0' k1' q1 hv1'
          go_wp2
          go_roundw
          case rel => exact ⟨(j : Int) + 1, by omega, by omega, by go_num, ⟨H3.out.fst⟩⟩
          case measure => simp [intOf]; omega
        · --
          go_wp2_with fail
          refine (H.out.cvalh (fun Z hZ => row_any p F [] false hZ.1.1 hZ.1.2 hF (by omega) hr10.out (by simp; omega) rfl)).mono ?_
          rintro e w2 ⟨A2, c2, rfl, H2⟩
          replace H2 := Aside0.mk H2
          have k0' := H2.out.cell 0 rfl 0 rfl
          have k1' := H2.out.cell 0 rfl 1 rfl
          clear H k0 k1
          go_wp2
          go_roundw
          case rel => exact ⟨p + 1, by omega, by omega, by go_num, ⟨H2.out.fst⟩⟩
          case measure => simp [intOf]; omega
      · --
        go_wp2_with fail
        refine (H.out.cvalh (fun Z hZ => row_any p F [] false hZ.1.1 hZ.1.2 hF (by omega) hr10.out (by simp; omega) rfl)).mono ?_
        rintro e w2 ⟨A2, c2, rfl, H2⟩
        replace H2 := Aside0.mk H2
        have k0' := H2.out.cell 0 rfl 0 rfl
        have k1' := H2.out.cell 0 rfl 1 rfl
        clear H k0 k1
        go_wp2
        go_roundw
        case rel => exact ⟨p + 1, by omega, by omega, by go_num, ⟨H2.out.fst⟩⟩
        case measure => simp [intOf]; omega
    · have hx2 : X.length < p := by omega
      obtain ⟨b, hb⟩ : ∃ b, b = decide ((F : Int) ≤ at_ ∧ at_ < X.length) := ⟨_, rfl⟩
      obtain ⟨y, hy⟩ : ∃ y, y = if b then X.getD at_.toNat [] else [] := ⟨_, rfl⟩
      by_cases hF1 : (F : Int) ≤ at_
      · by_cases hX1 : at_ < X.length
        · obtain rfl : b = true := by rw [hb]; simp; omega
          replace hy := Lib.hid hy
          replace hb := Lib.hid hb
          go_wp2_with fail
          refine (H.out.cvalh (fun Z hZ => row_any at_ F y true hZ.1.1 hZ.1.2 hF (by omega) hr10.out hb.out hy.out)).mono ?_
          rintro e w2 ⟨A2, c2, rfl, H2⟩
          replace H2 := Aside0.mk H2
          have k0 := H2.out.cell 0 rfl 0 rfl
          have k1 := H2.out.cell 0 rfl 1 rfl
          have k2 := H2.out.cell 0 rfl 2 rfl
          clear H
          have hff : ((F : Int) == F) = true := beq_self_eq_true _
          have hxx : ((X.length : Int) == X.length) = true := beq_self_eq_true _
          have hqq : (q == q) = true := beq_self_eq_true _
          go_wp2
          have hD1 : decide ((F : Int) ≤ at_) = true := decide_eq_true hF1
          have hD2 : decide (at_ < (X.length : Int)) = true := decide_eq_true hX1
          obtain ⟨A9, c9, hv9, _⟩ := HP.val_now H2.out.now.choose_spec.1.1.2
          have hb9 := H2.out.now.choose_spec.1.1.1.1
          rw [hv9] at hb9
          have hl9 : ((X.drop F).length : Int) = X.length - F := by rw [List.length_drop]; omega
          have hX9 : Hid ((F : Int) + (X.drop F).length = X.length) := Lib.hid (by omega)
          have hq9 : Hid ((X.drop F).length * width = q) := Lib.hid (by rw [hl9, ← hq0.out]; exact hq.out)
          have hXl9 : X.length ≤ 1000000 := by omega
          have hql9 : q ≤ 1000000 := by omega
          replace hl9 := Lib.hid hl9
          replace hv9 := Lib.hid hv9
          have hb9 := Aside0.mk hb9
          go_quiet (first | (go_at_call 66; exact Calls.quiet_of (first_q (W := w2.drewN _) hb9.out)) | (go_at_call 61; exact Calls.quiet_of (end_q (W := w2.drewN _) hb9.out X.length hX9 hXl9)) | (go_at_call 67; exact Calls.quiet_of (words_q (W := w2.drewN _) hb9.out q hq9 hq1 hql9)))
          go_wp2
          go_ret
          exact ⟨rfl, by first | exact H2.out.below | exact pw_below_drewN H2.out.below _⟩
        · obtain rfl : b = false := by rw [hb]; simp; omega
          replace hy := Lib.hid hy
          replace hb := Lib.hid hb
          go_wp2_with fail
          refine (H.out.cvalh (fun Z hZ => row_any at_ F y false hZ.1.1 hZ.1.2 hF (by omega) hr10.out hb.out hy.out)).mono ?_
          rintro e w2 ⟨A2, c2, rfl, H2⟩
          replace H2 := Aside0.mk H2
          have k0 := H2.out.cell 0 rfl 0 rfl
          have k1 := H2.out.cell 0 rfl 1 rfl
          have k2 := H2.out.cell 0 rfl 2 rfl
          clear H
          have hff : ((F : Int) == F) = true := beq_self_eq_true _
          have hxx : ((X.length : Int) == X.length) = true := beq_self_eq_true _
          have hqq : (q == q) = true := beq_self_eq_true _
          go_wp2
          have hD1 : decide ((F : Int) ≤ at_) = true := decide_eq_true hF1
          have hD2 : decide (at_ < (X.length : Int)) = false := decide_eq_false (by omega)
          obtain ⟨A9, c9, hv9, _⟩ := HP.val_now H2.out.now.choose_spec.1.1.2
          have hb9 := H2.out.now.choose_spec.1.1.1.1
          rw [hv9] at hb9
          have hl9 : ((X.drop F).length : Int) = X.length - F := by rw [List.length_drop]; omega
          have hX9 : Hid ((F : Int) + (X.drop F).length = X.length) := Lib.hid (by omega)
          have hq9 : Hid ((X.drop F).length * width = q) := Lib.hid (by rw [hl9, ← hq0.out]; exact hq.out)
          have hXl9 : X.length ≤ 1000000 := by omega
          have hql9 : q ≤ 1000000 := by omega
          replace hl9 := Lib.hid hl9
          replace hv9 := Lib.hid hv9
          have hb9 := Aside0.mk hb9
          go_quiet (first | (go_at_call 66; exact Calls.quiet_of (first_q (W := w2.drewN _) hb9.out)) | (go_at_call 61; exact Calls.quiet_of (end_q (W := w2.drewN _) hb9.out X.length hX9 hXl9)) | (go_at_call 67; exact Calls.quiet_of (words_q (W := w2.drewN _) hb9.out q hq9 hq1 hql9)))
          go_wp2
          go_ret
          exact ⟨rfl, by first | exact H2.out.below | exact pw_below_drewN H2.out.below _⟩
      · obtain rfl : b = false := by rw [hb]; simp; omega
        have hF1 : at_ < (F : Int) := by omega
        replace hy := Lib.hid hy
        replace hb := Lib.hid hb
        go_wp2_with fail
        refine (H.out.cvalh (fun Z hZ => row_any at_ F y false hZ.1.1 hZ.1.2 hF (by omega) hr10.out hb.out hy.out)).mono ?_
        rintro e w2 ⟨A2, c2, rfl, H2⟩
        replace H2 := Aside0.mk H2
        have k0 := H2.out.cell 0 rfl 0 rfl
        have k1 := H2.out.cell 0 rfl 1 rfl
        have k2 := H2.out.cell 0 rfl 2 rfl
        clear H
        have hff : ((F : Int) == F) = true := beq_self_eq_true _
        have hxx : ((X.length : Int) == X.length) = true := beq_self_eq_true _
        have hqq : (q == q) = true := beq_self_eq_true _
        go_wp2
        have hD1 : decide ((F : Int) ≤ at_) = false := decide_eq_false (by omega)
        obtain ⟨A9, c9, hv9, _⟩ := HP.val_now H2.out.now.choose_spec.1.1.2
        have hb9 := H2.out.now.choose_spec.1.1.1.1
        rw [hv9] at hb9
        have hl9 : ((X.drop F).length : Int) = X.length - F := by rw [List.length_drop]; omega
        have hX9 : Hid ((F : Int) + (X.drop F).length = X.length) := Lib.hid (by omega)
        have hq9 : Hid ((X.drop F).length * width = q) := Lib.hid (by rw [hl9, ← hq0.out]; exact hq.out)
        have hXl9 : X.length ≤ 1000000 := by omega
        have hql9 : q ≤ 1000000 := by omega
        replace hl9 := Lib.hid hl9
        replace hv9 := Lib.hid hv9
        have hb9 := Aside0.mk hb9
        go_quiet (first | (go_at_call 66; exact Calls.quiet_of (first_q (W := w2.drewN _) hb9.out)) | (go_at_call 61; exact Calls.quiet_of (end_q (W := w2.drewN _) hb9.out X.length hX9 hXl9)) | (go_at_call 67; exact Calls.quiet_of (words_q (W := w2.drewN _) hb9.out q hq9 hq1 hql9)))
        go_wp2
        go_ret
        exact ⟨rfl, by first | exact H2.out.below | exact pw_below_drewN H2.out.below _⟩
end Go.Proofs.Ytpakcfbjjlmcaaa.Tape
