/- What a deed does to a ring and to the document's rows. No condition. -/
import Derived.Test.YtpakcfbjjlmcaaaRingS
import Derived.Test.YtpakcfbjjlmcaaaNums
import Derived.IntWalk
import Derived.Test.YtpakcfbjjlmcaaaPAllx1
import Derived.Test.YtpakcfbjjlmcaaaPAllx2
set_option linter.unusedVariables false
set_option linter.unusedSimpArgs false
set_option maxHeartbeats 400000
set_option maxRecDepth 100000
namespace Go.Proofs.Ytpakcfbjjlmcaaa.Ring
open Go.RowKit Go.RK Go.RL Go.Proofs.YtpakcfbjjlmcaaaW.PrintWords Go.Proofs.Ytpakcfbjjlmcaaa.PAll
variable {W : World} {M Z : Nat → Prop} {g : Nat} {rows width : Int} {L : List (List Int)}
abbrev KR : Kd (List Int) := Kd.slice 2 (Kd.int .i64)
/-- what a deed makes of the rows -/
def stepF (rows width : Int) (L : List (List Int)) (kind : Int) (row : List Int) : List (List Int) :=
  if kind = 0 then (pushF rows width L row).1 else if kind = 1 then L.tail else L

theorem refPush_eq (xs : List Int) (hL : L.length ≤ 64) (hx : xs.length ≤ 100) : riffleref11_Push.f L rows width xs = some ((pushF rows width L xs).1, rows, width, (pushF rows width L xs).2) := by
  unfold riffleref11_Push.f pushF
  by_cases h1 : (xs.length : Int) = width
  · rw [if_pos h1, if_pos h1]
    by_cases h2 : (L.length : Int) = rows
    · rw [if_pos h2, if_pos h2]
    · rw [if_neg h2, if_neg h2]
      simp only [Option.bind_some, List.nil_append, List.length_nil]
      rw [if_pos (by omega), if_pos (by omega), if_pos (by omega)]
  · rw [if_neg h1, if_neg h1]
theorem refPop_eq (hL : L.length ≤ 64) : riffleref11_Pop.f L rows width = some (L.tail, rows, width, L.headD [], !L.isEmpty) := by
  unfold riffleref11_Pop.f
  rcases L with _ | ⟨x, L⟩
  · rfl
  · simp at hL
    rw [if_neg (by simp; omega)]
    simp [rd_L1]
    omega
theorem refAt_eq (i : Int) : riffleref11_At.f L rows width i = some (if 0 ≤ i ∧ i < L.length then L.getD i.toNat [] else [], decide (0 ≤ i ∧ i < L.length)) := by
  unfold riffleref11_At.f
  by_cases h1 : i < 0
  · rw [if_pos h1, if_neg (by omega), decide_eq_false (by omega)]
  · rw [if_neg h1]
    by_cases h2 : i ≥ (L.length : Int)
    · rw [if_pos h2, if_neg (by omega), decide_eq_false (by omega)]
    · rw [if_neg h2, if_pos (by omega), if_pos (by omega), if_pos (by omega), decide_eq_true (by omega)]
      rfl

theorem nums_same (A B : Option Addr) (c c' : Nat) (xs : List Int) (hx : (Kd.int .i64).C W A xs.length xs) (hy : (Kd.int .i64).C W B xs.length xs) :
    Calls Try.prog 20 #[.slice A xs.length c, .slice B xs.length c'] W fun e w' => e = .returned (.bool true) ∧ Below W.heap.size W w' := by
  refine (Nums.nums_any W A B c c' xs xs (C_ints hx) (C_ints hy)).mono ?_
  rintro e w' ⟨rfl, n, rfl⟩
  exact ⟨by simp, pw_below_drewN (Below.refl _ _) n⟩
theorem pop_of (T : List (List Int)) (x : List Int) (b : Bool) (hT : Hid (L.tail = T ∧ L.headD [] = x ∧ (!L.isEmpty) = b)) (h : (RingH g rows width L).at_ W M) :
    Calls Try.prog 18 #[.pointer (some ⟨g, 0, none⟩)] W fun e w' => ∃ v, e = .returned (.tuple #[v, .bool b]) ∧ Does W M Z (HP.val (Kd.int .i64) v x) (RingH g rows width T) w' := by
  obtain ⟨rfl, rfl, rfl⟩ := hT.out
  exact pop_does h
theorem does_push (hR : (RingH g rows width L).at_ W M) (v : Value) (hv : (HP.val KR v L).at_ W Z) (A : Option Addr) (c : Nat) (row : List Int) (hrow : (HP.rd (Kd.int .i64) A row).at_ W Z) (hc : row.length ≤ c) (hZ : ∀ k, Z k → ¬ M k) (hL : L.length ≤ 64) (hx : row.length ≤ 100) (i : Int) :
    Calls Try.prog 23 #[.pointer (some ⟨g, 0, none⟩), .agg #[v, .int .i64 rows, .int .i64 width], .agg #[.int .i64 0, .int .i64 i, .slice A row.length c]] W fun e W1 => ∃ v', e = .returned (.tuple #[.agg #[v', .int .i64 rows, .int .i64 width], .bool true]) ∧ Does W M Z (HP.val KR v' (pushF rows width L row).1) (RingH g rows width (pushF rows width L row).1) W1 := by
  obtain ⟨A0, c0, rfl, hl0, _⟩ := HP.val_now hv
  have H := Aside0.mk (Cx.start (Φ := (HP.val KR (.slice A0 L.length c0) L).and (HP.rd (Kd.int .i64) A row)) hR ⟨hv, hrow⟩ hZ)
  have hp := Aside0.mk (refPush_eq (rows := rows) (width := width) row hL hx)
  clear hR hv hrow
  go_enter Try.func23, Try.ntmps23
  go_wp2_with fail
  refine ((((H.out.alloc _).alloc1 _).alloc2 _).cval (fun Z hZ => riffleref11_Push.calls Z A0 c0 L rows width A c row _ _ _ _ _ hZ.1 (HP.rd_now hZ.2) hc hp.out)).mono ?_
  rintro e X1 ⟨A1, c1, rfl, H1⟩
  replace H1 := Aside0.mk (H1.alloc (.cells #[.slice A1 (pushF rows width L row).1.length c1, .int .i64 rows, .int .i64 width] 40 (0, 0)))
  clear H
  go_upto_region 4 with (fail)
  go_region_held3 (fun w' => w'.cell? ⟨W.heap.size + 1, 2, none⟩ = some (.slice A row.length c) ∧ w'.cell? ⟨X1.heap.size, 0, none⟩ = some (.slice A1 ((pushF rows width L row).1).length c1) ∧ w'.cell? ⟨X1.heap.size, 1, none⟩ = some (.int .i64 rows) ∧ w'.cell? ⟨X1.heap.size, 2, none⟩ = some (.int .i64 width))
    (first | exact ⟨H1.out.cell 2 rfl 2 rfl, H1.out.cell 4 rfl 0 rfl, H1.out.cell 4 rfl 1 rfl, H1.out.cell 4 rfl 2 rfl⟩ | exact ⟨(((H1.out.put 3 rfl 0 _).put 3 rfl 1 _).put 3 rfl 2 _).cell 2 rfl 2 rfl, (((H1.out.put 3 rfl 0 _).put 3 rfl 1 _).put 3 rfl 2 _).cell 4 rfl 0 rfl, (((H1.out.put 3 rfl 0 _).put 3 rfl 1 _).put 3 rfl 2 _).cell 4 rfl 1 rfl, (((H1.out.put 3 rfl 0 _).put 3 rfl 1 _).put 3 rfl 2 _).cell 4 rfl 2 rfl⟩)
    (first | (go_at_call 19; refine (H1.out.drew.cobj 0 rfl (fun M Z hM hZ _ => push_does (Z := Z) hM A c row (HP.rd_now hZ.1.2))).mono ?_; rintro e Wh ⟨rfl, H2⟩; replace H1 := Aside0.mk H2; clear H2; have k0 := H1.out.cell 3 rfl 0 rfl; have k1 := H1.out.cell 3 rfl 1 rfl; have k2 := H1.out.cell 3 rfl 2 rfl; have kf := fun j => H1.out.unfrozen 3 rfl j))
  have HF := Aside0.mk (((H1.out.put 3 rfl 0 (.slice A1 ((pushF rows width L row).1).length c1)).put 3 rfl 1 (.int .i64 rows)).put 3 rfl 2 (.int .i64 width))
  clear H1 k0 k1 k2 kf
  generalize World.setCell (World.setCell (World.setCell Wh _ _) _ _) _ _ = WF at *
  have r0 := HF.out.cell 3 rfl 0 rfl
  have r1 := HF.out.cell 3 rfl 1 rfl
  have r2 := HF.out.cell 3 rfl 2 rfl
  go_wp2
  exact bodyPost_ret (v := .tuple #[.agg #[.slice A1 ((pushF rows width L row).1).length c1, .int .i64 rows, .int .i64 width], .bool true]) (by simp [results, Try.results23, go_sem, r0, r1, r2]) rfl ⟨_, rfl, (HF.out.imp (fun Z hz => hz.2)).done 0 rfl⟩
theorem does_pop (hR : (RingH g rows width L).at_ W M) (v : Value) (hv : (HP.val KR v L).at_ W Z) (A : Option Addr) (c : Nat) (row : List Int) (hZ : ∀ k, Z k → ¬ M k) (hL : L.length ≤ 64) (i : Int) :
    Calls Try.prog 23 #[.pointer (some ⟨g, 0, none⟩), .agg #[v, .int .i64 rows, .int .i64 width], .agg #[.int .i64 1, .int .i64 i, .slice A row.length c]] W fun e W1 => ∃ v', e = .returned (.tuple #[.agg #[v', .int .i64 rows, .int .i64 width], .bool true]) ∧ Does W M Z (HP.val KR v' L.tail) (RingH g rows width L.tail) W1 := by
  obtain ⟨A0, c0, rfl, hl0, _⟩ := HP.val_now hv
  have H := Aside0.mk (Cx.start (Φ := HP.val KR (.slice A0 L.length c0) L) hR hv hZ)
  have hp := refPop_eq (rows := rows) (width := width) hL
  generalize hT : L.tail = T at hp ⊢
  generalize hX : L.headD [] = x at hp
  generalize hB : (!L.isEmpty) = b at hp
  replace hT := Lib.hid (And.intro hT (And.intro hX hB))
  replace hp := Aside0.mk hp
  clear hR hv hX hB
  go_enter Try.func23, Try.ntmps23
  go_wp2_with fail
  refine ((((H.out.alloc _).alloc1 _).alloc2 _).cval2 (fun Z hZ => riffleref11_Pop.calls Z A0 c0 L rows width _ _ _ _ _ _ hZ hp.out)).mono ?_
  rintro e X1 ⟨A1, c1, A2, c2, rfl, H1⟩
  replace H1 := Aside0.mk (H1.alloc (.cells #[.slice A1 T.length c1, .int .i64 rows, .int .i64 width] 40 (0, 0)))
  clear H
  go_wp2_with fail
  refine (H1.out.cuval 0 rfl (fun M Z hM hZ _ => pop_of (Z := Z) _ _ _ hT hM)).mono ?_
  rintro e X2 ⟨A3, c3, rfl, H3⟩
  replace H1 := Aside0.mk H3
  clear H3
  have hbb : (b == b) = true := by simp
  go_upto_region 8 with (fail)
  go_region_held3 (fun w' => w'.cell? ⟨W.heap.size + 1, 2, none⟩ = some (.slice A row.length c) ∧ w'.cell? ⟨X1.heap.size, 0, none⟩ = some (.slice A1 (T).length c1) ∧ w'.cell? ⟨X1.heap.size, 1, none⟩ = some (.int .i64 rows) ∧ w'.cell? ⟨X1.heap.size, 2, none⟩ = some (.int .i64 width))
    (first | exact ⟨H1.out.cell 2 rfl 2 rfl, H1.out.cell 4 rfl 0 rfl, H1.out.cell 4 rfl 1 rfl, H1.out.cell 4 rfl 2 rfl⟩ | exact ⟨(((H1.out.put 3 rfl 0 _).put 3 rfl 1 _).put 3 rfl 2 _).cell 2 rfl 2 rfl, (((H1.out.put 3 rfl 0 _).put 3 rfl 1 _).put 3 rfl 2 _).cell 4 rfl 0 rfl, (((H1.out.put 3 rfl 0 _).put 3 rfl 1 _).put 3 rfl 2 _).cell 4 rfl 1 rfl, (((H1.out.put 3 rfl 0 _).put 3 rfl 1 _).put 3 rfl 2 _).cell 4 rfl 2 rfl⟩)
    (first | (go_at_call 20; refine (H1.out.drew.cskip (fun Z hZ => nums_same _ _ _ _ _ (HP.val_C hZ.1.2) (HP.val_C hZ.2))).mono ?_; rintro e Wh ⟨rfl, H2⟩; replace H1 := Aside0.mk H2; clear H2; have k0 := H1.out.cell 3 rfl 0 rfl; have k1 := H1.out.cell 3 rfl 1 rfl; have k2 := H1.out.cell 3 rfl 2 rfl; have kf := fun j => H1.out.unfrozen 3 rfl j))
  have HF := Aside0.mk (((H1.out.put 3 rfl 0 (.slice A1 (T).length c1)).put 3 rfl 1 (.int .i64 rows)).put 3 rfl 2 (.int .i64 width))
  clear H1 k0 k1 k2 kf
  generalize World.setCell (World.setCell (World.setCell Wh _ _) _ _) _ _ = WF at *
  have r0 := HF.out.cell 3 rfl 0 rfl
  have r1 := HF.out.cell 3 rfl 1 rfl
  have r2 := HF.out.cell 3 rfl 2 rfl
  go_wp2
  exact bodyPost_ret (v := .tuple #[.agg #[.slice A1 (T).length c1, .int .i64 rows, .int .i64 width], .bool true]) (by simp [results, Try.results23, go_sem, r0, r1, r2]) rfl ⟨_, rfl, (HF.out.imp (fun Z hz => hz.1.1.2)).done 0 rfl⟩
theorem does_at (hR : (RingH g rows width L).at_ W M) (v : Value) (hv : (HP.val KR v L).at_ W Z) (A : Option Addr) (c : Nat) (row : List Int) (hZ : ∀ k, Z k → ¬ M k) (i kind : Int) (h0 : kind ≠ 0) (h1 : kind ≠ 1) :
    Calls Try.prog 23 #[.pointer (some ⟨g, 0, none⟩), .agg #[v, .int .i64 rows, .int .i64 width], .agg #[.int .i64 kind, .int .i64 i, .slice A row.length c]] W fun e W1 => ∃ v', e = .returned (.tuple #[.agg #[v', .int .i64 rows, .int .i64 width], .bool true]) ∧ Does W M Z (HP.val KR v' L) (RingH g rows width L) W1 := by
  obtain ⟨A0, c0, rfl, hl0, _⟩ := HP.val_now hv
  have H := Aside0.mk (Cx.start (Φ := HP.val KR (.slice A0 L.length c0) L) hR hv hZ)
  have hp := refAt_eq (L := L) (rows := rows) (width := width) i
  generalize hX : (if 0 ≤ i ∧ i < L.length then L.getD i.toNat [] else []) = x at hp
  generalize hB : decide (0 ≤ i ∧ i < L.length) = b at hp
  replace hX := Lib.hid (And.intro hX hB)
  replace hp := Aside0.mk hp
  have hb0 : (kind == 0) = false := by simp [h0]
  have hb1 : (kind == 1) = false := by simp [h1]
  clear hR hv hB h0 h1
  have hat : ∀ {W : World} {M Z : Nat → Prop}, (RingH g rows width L).at_ W M → Calls Try.prog 25 #[.pointer (some ⟨g, 0, none⟩), .int .i64 i] W fun e w' => ∃ v, e = .returned (.tuple #[v, .bool b]) ∧ Does W M Z (HP.val (Kd.int .i64) v x) (RingH g rows width L) w' := by
    intro W M Z h
    obtain ⟨rfl, rfl⟩ := hX.out
    exact at_reads h i
  replace hat := Aside0.mk @hat
  go_enter Try.func23, Try.ntmps23
  go_wp2_with fail
  refine ((((H.out.alloc _).alloc1 _).alloc2 _).cval (fun Z hZ => riffleref11_At.calls Z A0 c0 L rows width i _ _ _ hZ hp.out)).mono ?_
  rintro e X1 ⟨A2, c2, rfl, H1⟩
  replace H1 := Aside0.mk H1
  clear H
  have c1 := H1.out.cell 2 rfl 1 rfl
  go_wp2_with fail
  refine (H1.out.cuval 0 rfl (fun M Z hM hZ _ => hat.out (Z := Z) hM)).mono ?_
  rintro e X2 ⟨A3, c3, rfl, H3⟩
  replace H1 := Aside0.mk H3
  clear H3 c1
  have hbb : (b == b) = true := by simp
  go_upto_region 11 with (fail)
  go_region_held3 (fun w' => w'.cell? ⟨W.heap.size + 1, 2, none⟩ = some (.slice A row.length c) ∧ w'.cell? ⟨W.heap.size, 0, none⟩ = some (.slice A0 (L).length c0) ∧ w'.cell? ⟨W.heap.size, 1, none⟩ = some (.int .i64 rows) ∧ w'.cell? ⟨W.heap.size, 2, none⟩ = some (.int .i64 width))
    (first | exact ⟨H1.out.cell 2 rfl 2 rfl, H1.out.cell 1 rfl 0 rfl, H1.out.cell 1 rfl 1 rfl, H1.out.cell 1 rfl 2 rfl⟩ | exact ⟨(((H1.out.put 3 rfl 0 _).put 3 rfl 1 _).put 3 rfl 2 _).cell 2 rfl 2 rfl, (((H1.out.put 3 rfl 0 _).put 3 rfl 1 _).put 3 rfl 2 _).cell 1 rfl 0 rfl, (((H1.out.put 3 rfl 0 _).put 3 rfl 1 _).put 3 rfl 2 _).cell 1 rfl 1 rfl, (((H1.out.put 3 rfl 0 _).put 3 rfl 1 _).put 3 rfl 2 _).cell 1 rfl 2 rfl⟩)
    (first | (go_at_call 20; refine (H1.out.drew.cskip (fun Z hZ => nums_same _ _ _ _ _ (HP.val_C hZ.1.2) (HP.val_C hZ.2))).mono ?_; rintro e Wh ⟨rfl, H2⟩; replace H1 := Aside0.mk H2; clear H2; have k0 := H1.out.cell 3 rfl 0 rfl; have k1 := H1.out.cell 3 rfl 1 rfl; have k2 := H1.out.cell 3 rfl 2 rfl; have kf := fun j => H1.out.unfrozen 3 rfl j))
  have HF := Aside0.mk (((H1.out.put 3 rfl 0 (.slice A0 (L).length c0)).put 3 rfl 1 (.int .i64 rows)).put 3 rfl 2 (.int .i64 width))
  clear H1 k0 k1 k2 kf
  generalize World.setCell (World.setCell (World.setCell Wh _ _) _ _) _ _ = WF at *
  have r0 := HF.out.cell 3 rfl 0 rfl
  have r1 := HF.out.cell 3 rfl 1 rfl
  have r2 := HF.out.cell 3 rfl 2 rfl
  go_wp2
  exact bodyPost_ret (v := .tuple #[.agg #[.slice A0 (L).length c0, .int .i64 rows, .int .i64 width], .bool true]) (by simp [results, Try.results23, go_sem, r0, r1, r2]) rfl ⟨_, rfl, (HF.out.imp (fun Z hz => hz.1.1)).done 0 rfl⟩

theorem same_ok (hR : (RingH g rows width L).at_ W M) (v : Value) (hv : (HP.val KR v L).at_ W Z) (hZ : ∀ k, Z k → ¬ M k) (hs : Aside0 (riffleref11_Same.f 1000 L L = some true)) :
    Calls Try.prog 24 #[.pointer (some ⟨g, 0, none⟩), .agg #[v, .int .i64 rows, .int .i64 width]] W fun e W1 => e = .returned (.bool true) ∧ Does W M Z HP.tt (RingH g rows width L) W1 := by
  obtain ⟨A0, c0, rfl, hl0, _⟩ := HP.val_now hv
  have H := Aside0.mk (Cx.start (Φ := HP.val KR (.slice A0 L.length c0) L) hR hv hZ)
  have hbd : L.length ≤ 64 ∧ 0 ≤ width ∧ width ≤ 64 := by obtain ⟨gn, h, _⟩ := hR; have := h.bd; omega
  have hw : IntKind.i64.wrap (↑L.length * width) = ↑L.length * width := IntWalk.i64_in _ (by
    have := Int.mul_le_mul_of_nonneg_right (show (L.length : Int) ≤ 64 by omega) hbd.2.1
    have := Int.mul_nonneg (show (0 : Int) ≤ L.length by omega) hbd.2.1
    omega)
  clear hR hv hbd
  go_enter Try.func24, Try.ntmps24
  go_upto_region 1 with (fail)
  have H1 := Aside0.mk (H.out.alloc (.cells #[.slice A0 L.length c0, .int .i64 rows, .int .i64 width] 40 (0, 0)))
  clear H
  go_region_held3 (fun w' => w'.cell? ⟨W.heap.size, 0, none⟩ = some (.slice A0 L.length c0) ∧ w'.cell? ⟨W.heap.size, 2, none⟩ = some (.int .i64 width))
    (exact ⟨H1.out.cell 1 rfl 0 rfl, H1.out.cell 1 rfl 2 rfl⟩)
    (first
      | (go_at_call 26; refine (H1.out.drew.cuval 0 rfl (fun M Z hM hZ _ => rows_does (Z := Z) hM)).mono ?_; rintro e Wh ⟨A2, c2, rfl, H2⟩; replace H1 := Aside0.mk H2; clear H2)
      | (go_at_call 73; refine (H1.out.cskip (fun Z hZ => Cx.toBelow (riffleref11_Same.calls 1000 A2 c2 L A0 c0 L true _ (HP.val_C hZ.2) (HP.val_le hZ.2) (HP.val_C hZ.1) (HP.val_le hZ.1) hs.out))).mono ?_; rintro e Wh ⟨rfl, H2⟩; replace H1 := Aside0.mk H2; clear H2)
      | (go_at_call 17; refine (H1.out.cread 0 rfl (fun M hM => (len_reads hM).mono (R' := fun e W1 => e = _ ∧ Below _ _ W1) (fun e w1 hx => ⟨hx.1, by rw [hx.2]; exact Below.refl _ _⟩))).mono ?_; rintro e Wh ⟨rfl, H2⟩; replace H1 := Aside0.mk H2; clear H2)
      | (go_at_call 27; refine (H1.out.cread 0 rfl (fun M hM => (words_reads hM).mono (R' := fun e W1 => e = _ ∧ Below _ _ W1) (fun e w1 hx => ⟨hx.1, by obtain ⟨n, hn⟩ := hx.2; rw [hn]; exact pw_below_drewN (Below.refl _ _) n⟩))).mono ?_; rintro e Wh ⟨rfl, H2⟩; replace H1 := Aside0.mk H2; clear H2))
  go_wp2
  go_ret
  exact ⟨rfl, (H1.out.imp (fun Z hz => trivial)).done 0 rfl⟩
end Go.Proofs.Ytpakcfbjjlmcaaa.Ring
