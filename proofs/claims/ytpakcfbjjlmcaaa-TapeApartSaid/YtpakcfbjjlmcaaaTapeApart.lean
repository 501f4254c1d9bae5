/- TapeApart, walked. No condition but that the arguments read. -/
import Derived.Test.YtpakcfbjjlmcaaaTapePlays
set_option linter.unusedVariables false
set_option linter.unusedSimpArgs false
set_option maxHeartbeats 1600000
set_option maxRecDepth 100000
namespace Go.Proofs.Ytpakcfbjjlmcaaa.Tape
open Go.RowKit Go.RK Go.TP Go.Proofs.YtpakcfbjjlmcaaaW.PrintWords Go.Proofs.Ytpakcfbjjlmcaaa.PAll
variable {W : World} {M Z : Nat → Prop} {g : Nat} {width : Int} {v : Value} {X : List (List Int)}
theorem clone_any {v : Value} {A : Option Addr} {c : Nat} (s : List (List Int) × Nat) (h : (HP.blk g (tp v s.2 width)).at_ W M) (hv : (FZ s v A c).at_ W Z) (hd : ∀ k, Z k → ¬ M k) (hb : s.1.length ≤ 10000) :
    Calls Try.prog 68 #[.pointer (some ⟨g, 0, none⟩)] W fun e w' => ∃ g' v', e = .returned (.pointer (some ⟨g', 0, none⟩)) ∧ Below W.heap.size W w' ∧ ∃ M1 : Nat → Prop, (HP.blk g' (tp v' s.2 width)).at_ w' M1 ∧ (HP.val KR v' (s.1.drop s.2)).at_ w' (fun k => (Z k ∨ W.heap.size ≤ k) ∧ ¬ M1 k) ∧ ∀ k, M1 k → W.heap.size ≤ k := by
  obtain ⟨A1, c1, rfl, _⟩ := HP.val_now hv.1
  exact clone_tp h hv.1 hd (by rw [List.length_drop]; omega)
/-- a call that makes an object and freezes what it leads to, out of what is there -/
theorem cclone {P : Program} {f : FuncId} {args : Array Value} {α : Type} {R : α → Ending → Prop} {Φ' Ψ' : α → HP} {M0 Z0 : Nat → Prop} {W0 : World} {Φ Ψ : HP} {Ψs : List HP} (h : Cx M0 Z0 W0 W Φ Ψs) (i : Nat) (hi : Ψs[i]? = some Ψ)
    (hc : ∀ M Z : Nat → Prop, Ψ.at_ W M → Φ.at_ W Z → (∀ k, Z k → ¬ M k) → Calls P f args W fun e W1 => ∃ x, R x e ∧ Below W.heap.size W W1 ∧ ∃ M1 : Nat → Prop, (Ψ' x).at_ W1 M1 ∧ (Φ' x).at_ W1 (fun k => (Z k ∨ W.heap.size ≤ k) ∧ ¬ M1 k) ∧ ∀ k, M1 k → W.heap.size ≤ k) :
    Calls P f args W fun e W1 => ∃ x, R x e ∧ Cx M0 Z0 W0 W1 (Φ.and (Φ' x)) (Ψs ++ [Ψ' x]) := by
  classical
  obtain ⟨hf, tag, h1, h2, h3⟩ := h
  refine (hc _ _ (h2 i _ hi) h1 (fun k hk he => by omega)).mono (fun e W1 ⟨x, hr, hb1, M1, hΨ, hΦ, hM⟩ => ⟨x, hr, ?_⟩)
  refine ⟨fr_below hf hb1, fun k => if k < W.heap.size then tag k else if M1 k then Ψs.length + 2 else 0, ⟨?_, ?_⟩, fun j Ψj hj => ?_, fun k hk => ?_⟩
  · exact Φ.move h1 (fun k hk hl => ⟨hb1.block k hl, by simp [hl]; exact hk⟩)
  · refine (Φ' x).mono hΦ (fun k hk hl => ?_)
    by_cases hlt : k < W.heap.size
    · simp only [hlt, if_true]
      rcases hk.1 with hk | hk
      · exact hk
      · omega
    · simp [hlt, hk.2]
  · rw [List.getElem?_append] at hj
    split at hj
    · exact Ψj.move (h2 j Ψj hj) (fun k hk hl => ⟨hb1.block k hl, by simp [hl]; exact hk⟩)
    · rename_i hge
      have hi0 : j - Ψs.length = 0 := by
        have := (List.getElem?_eq_some_iff.1 hj).1
        simp at this; omega
      rw [hi0] at hj
      simp at hj
      subst hj
      refine (Ψ' x).mono hΨ (fun k hk hl => ?_)
      have : ¬ k < W.heap.size := by have := hM k hk; omega
      simp [this, hk]; omega
  · have hlt : k < W.heap.size := Nat.lt_of_lt_of_le hk hf.size
    simpa [hlt] using h3 k hk
/-- one deed, as a row -/
theorem one_deed (x : SD) {A2 : Option Addr} {c2 : Nat} (h : (HP.blk g (.cells #[.bool x.f0, .int .i64 x.f1, .slice A2 x.f2.length c2] 95 (0, 0))).at_ W M) (hr : (HP.val KR (.slice A2 x.f2.length c2) x.f2).at_ W M) : (HP.val KD (.slice (some ⟨g, 0, none⟩) 1 1) [x]).at_ W M := by
  obtain ⟨_, hl, hf⟩ := Kd.V_at (e := 0) (base := 0) hr
  have h1 : (HP.raw 0 95 KD.sz (.slice (some ⟨g, 0, none⟩) 1 1) 1 [.bool x.f0, .int .i64 x.f1, .slice A2 x.f2.length c2]).at_ W M := by
    refine ⟨⟨rfl, .inr ⟨g, 1, #[.bool x.f0, .int .i64 x.f1, .slice A2 x.f2.length c2], rfl, Nat.zero_le _, h.1, Nat.le_refl _, by simp [maxLen], rfl, rfl⟩⟩, fun k hk => ?_⟩
    have : g = k := by simpa [Value.ownBlock] using hk
    rw [← this]
    exact h.2
  have h2 : (HP.kind KD x [.bool x.f0, .int .i64 x.f1, .slice A2 x.f2.length c2]).at_ W M := k95_mkF W M x hl hf
  exact HP.val_of (d := KD) (xs := [x]) h1 (HP.reps_snoc (d := KD) (HP.reps_nil _ _ _) h2)
section
variable (A : Option Addr) (c : Nat) (l : List SD) (hl : l.length ≤ c) (hC : KD.C W A l.length l) (A2 : Option Addr) (c2 : Nat) (x : SD) (hl2 : x.f2.length ≤ c2) (hC2 : KR.C W A2 x.f2.length x.f2)
include hl hC hl2 hC2
theorem apart_great (hg : rifflelaw16_Great.f 2000 l = some true) :
    Calls Try.prog 14 #[.slice A l.length c, .agg #[.bool x.f0, .int .i64 x.f1, .slice A2 x.f2.length c2]] W fun e w' => e = .returned (.bool true) ∧ Below W.heap.size W w' := by
  have H0 := Aside0.mk ((Cx.start0 (Φ := (HP.rd KD A l).and (HP.val KR (.slice A2 x.f2.length c2) x.f2)) ⟨Kd.C_F heapD hC, A2, c2, rfl, hl2, Kd.C_F (Kd.heap_slice _ (Kd.heap_int _)) hC2⟩).alloc (.cells #[.bool x.f0, .int .i64 x.f1, .slice A2 x.f2.length c2] 95 (0, 0)))
  replace hg := Aside0.mk hg
  have d0 := H0.out.cell 0 rfl 0 rfl
  have d1 := H0.out.cell 0 rfl 1 rfl
  have d2 := H0.out.cell 0 rfl 2 rfl
  clear hC hC2
  go_enter Try.func14, Try.ntmps14
  go_wp2_with fail
  refine (forget_nil _).mono ?_
  rintro e w1 ⟨rfl, rfl⟩
  go_wp2_with fail
  refine (set_nil _ _).mono ?_
  rintro e w1 ⟨rfl, rfl⟩
  go_wp2_with fail
  refine (row_nil _).mono ?_
  rintro e w1 ⟨rfl, rfl⟩
  go_wp2_with fail
  refine first_nil.mono ?_
  rintro e w1 ⟨rfl, rfl⟩
  go_wp2_with fail
  refine end_nil.mono ?_
  rintro e w1 ⟨rfl, rfl⟩
  go_wp2_with fail
  refine words_nil.mono ?_
  rintro e w1 ⟨rfl, rfl⟩
  go_wp2_with fail
  refine clone_nil.mono ?_
  rintro e w1 ⟨rfl, rfl⟩
  go_wp2_with fail
  refine (H0.out.cskip (fun Z hZ => Cx.toBelow (rifflelaw16_Great.calls 2000 A c l true _ (HP.rd_now hZ.1) hl hg.out))).mono ?_
  rintro e w2 ⟨rfl, H1⟩
  replace H1 := Aside0.mk H1
  clear H0 d0 d1 d2
  go_wp2_with fail
  refine lives_true.mono ?_
  rintro e wl ⟨rfl, hb⟩
  replace H1 := Aside0.mk (H1.out.skip hb)
  clear hb
  go_wp2
  go_ret
  exact ⟨rfl, H1.out.below⟩
theorem apart_long (hg : rifflelaw16_Great.f 2000 l = some false) (hg2 : rifflelaw16_Great.f 2000 [x] = some true) :
    Calls Try.prog 14 #[.slice A l.length c, .agg #[.bool x.f0, .int .i64 x.f1, .slice A2 x.f2.length c2]] W fun e w' => e = .returned (.bool true) ∧ Below W.heap.size W w' := by
  have H0 := Aside0.mk ((Cx.start0 (Φ := (HP.rd KD A l).and (HP.val KR (.slice A2 x.f2.length c2) x.f2)) ⟨Kd.C_F heapD hC, A2, c2, rfl, hl2, Kd.C_F (Kd.heap_slice _ (Kd.heap_int _)) hC2⟩).alloc (.cells #[.bool x.f0, .int .i64 x.f1, .slice A2 x.f2.length c2] 95 (0, 0)))
  replace hg := Aside0.mk hg
  have d0 := H0.out.cell 0 rfl 0 rfl
  have d1 := H0.out.cell 0 rfl 1 rfl
  have d2 := H0.out.cell 0 rfl 2 rfl
  clear hC hC2
  go_enter Try.func14, Try.ntmps14
  go_wp2_with fail
  refine (forget_nil _).mono ?_
  rintro e w1 ⟨rfl, rfl⟩
  go_wp2_with fail
  refine (set_nil _ _).mono ?_
  rintro e w1 ⟨rfl, rfl⟩
  go_wp2_with fail
  refine (row_nil _).mono ?_
  rintro e w1 ⟨rfl, rfl⟩
  go_wp2_with fail
  refine first_nil.mono ?_
  rintro e w1 ⟨rfl, rfl⟩
  go_wp2_with fail
  refine end_nil.mono ?_
  rintro e w1 ⟨rfl, rfl⟩
  go_wp2_with fail
  refine words_nil.mono ?_
  rintro e w1 ⟨rfl, rfl⟩
  go_wp2_with fail
  refine clone_nil.mono ?_
  rintro e w1 ⟨rfl, rfl⟩
  go_wp2_with fail
  refine (H0.out.cskip (fun Z hZ => Cx.toBelow (rifflelaw16_Great.calls 2000 A c l false _ (HP.rd_now hZ.1) hl hg.out))).mono ?_
  rintro e w2 ⟨rfl, H1⟩
  replace H1 := Aside0.mk H1
  clear H0 d0 d1 d2
  have d0 := H1.out.cell 0 rfl 0 rfl
  have d1 := H1.out.cell 0 rfl 1 rfl
  have d2 := H1.out.cell 0 rfl 2 rfl
  have H1b := Aside0.mk ((H1.out.allocF (.cells #[.bool x.f0, .int .i64 x.f1, .slice A2 x.f2.length c2] 95 (0, 0))).imp (Φ' := ((HP.rd KD A l).and (HP.val KR (.slice A2 x.f2.length c2) x.f2)).and (HP.val KD (.slice (some ⟨w2.heap.size, 0, none⟩) 1 1) [x])) (fun Z hZ => ⟨hZ.1, one_deed x hZ.2 hZ.1.2⟩))
  replace hg2 := Aside0.mk hg2
  go_wp2_with fail
  refine (H1b.out.cskip (fun Z hZ => Cx.toBelow (rifflelaw16_Great.calls 2000 (some ⟨w2.heap.size, 0, none⟩) 1 [x] true _ (HP.val_C (xs := [x]) hZ.2) (by simp) hg2.out))).mono ?_
  rintro e w2b ⟨rfl, H1c⟩
  have H1 := Aside0.mk H1c.fst
  clear H1b H1c d0 d1 d2
  go_wp2_with fail
  refine lives_true.mono ?_
  rintro e wl ⟨rfl, hb⟩
  replace H1 := Aside0.mk (H1.out.skip hb)
  clear hb
  go_wp2
  go_ret
  exact ⟨rfl, H1.out.below⟩
theorem apart_small (hg : rifflelaw16_Great.f 2000 l = some false) (hs : l.length ≤ 40 ∧ ∀ d ∈ l, good d) (hg2 : rifflelaw16_Great.f 2000 [x] = some false) (hx : good x) :
    Calls Try.prog 14 #[.slice A l.length c, .agg #[.bool x.f0, .int .i64 x.f1, .slice A2 x.f2.length c2]] W fun e w' => e = .returned (.bool true) ∧ Below W.heap.size W w' := by
  have hlen := hs.1
  have hgood := Lib.hid hs.2
  have hgx := Lib.hid hx
  clear hs hx
  have H0 := Aside0.mk ((Cx.start0 (Φ := (HP.rd KD A l).and (HP.val KR (.slice A2 x.f2.length c2) x.f2)) ⟨Kd.C_F heapD hC, A2, c2, rfl, hl2, Kd.C_F (Kd.heap_slice _ (Kd.heap_int _)) hC2⟩).alloc (.cells #[.bool x.f0, .int .i64 x.f1, .slice A2 x.f2.length c2] 95 (0, 0)))
  replace hg := Aside0.mk hg
  have d0 := H0.out.cell 0 rfl 0 rfl
  have d1 := H0.out.cell 0 rfl 1 rfl
  have d2 := H0.out.cell 0 rfl 2 rfl
  clear hC hC2
  go_enter Try.func14, Try.ntmps14
  go_wp2_with fail
  refine (forget_nil _).mono ?_
  rintro e w1 ⟨rfl, rfl⟩
  go_wp2_with fail
  refine (set_nil _ _).mono ?_
  rintro e w1 ⟨rfl, rfl⟩
  go_wp2_with fail
  refine (row_nil _).mono ?_
  rintro e w1 ⟨rfl, rfl⟩
  go_wp2_with fail
  refine first_nil.mono ?_
  rintro e w1 ⟨rfl, rfl⟩
  go_wp2_with fail
  refine end_nil.mono ?_
  rintro e w1 ⟨rfl, rfl⟩
  go_wp2_with fail
  refine words_nil.mono ?_
  rintro e w1 ⟨rfl, rfl⟩
  go_wp2_with fail
  refine clone_nil.mono ?_
  rintro e w1 ⟨rfl, rfl⟩
  go_wp2_with fail
  refine (H0.out.cskip (fun Z hZ => Cx.toBelow (rifflelaw16_Great.calls 2000 A c l false _ (HP.rd_now hZ.1) hl hg.out))).mono ?_
  rintro e w2 ⟨rfl, H1⟩
  replace H1 := Aside0.mk H1
  clear H0 d0 d1 d2
  have d0 := H1.out.cell 0 rfl 0 rfl
  have d1 := H1.out.cell 0 rfl 1 rfl
  have d2 := H1.out.cell 0 rfl 2 rfl
  have H1b := Aside0.mk ((H1.out.allocF (.cells #[.bool x.f0, .int .i64 x.f1, .slice A2 x.f2.length c2] 95 (0, 0))).imp (Φ' := ((HP.rd KD A l).and (HP.val KR (.slice A2 x.f2.length c2) x.f2)).and (HP.val KD (.slice (some ⟨w2.heap.size, 0, none⟩) 1 1) [x])) (fun Z hZ => ⟨hZ.1, one_deed x hZ.2 hZ.1.2⟩))
  replace hg2 := Aside0.mk hg2
  go_wp2_with fail
  refine (H1b.out.cskip (fun Z hZ => Cx.toBelow (rifflelaw16_Great.calls 2000 (some ⟨w2.heap.size, 0, none⟩) 1 [x] false _ (HP.val_C (xs := [x]) hZ.2) (by simp) hg2.out))).mono ?_
  rintro e w2b ⟨rfl, H1c⟩
  have H1 := Aside0.mk H1c.fst
  clear H1b H1c d0 d1 d2
  go_wp2_with fail
  refine (H1.out.cnew (α := Nat) (R := fun g e => e = .returned (.tuple #[.pointer (some ⟨g, 0, none⟩), .int .i64 0])) (Ψ' := fun g => HP.blk g (tp (.slice none 0 0) 0 2)) (new_made 2 (by omega) (by omega))).mono ?_
  rintro e w3 ⟨g, rfl, H2⟩
  replace H2 := Aside0.mk (H2.alloc (.cells #[.slice none 0 0, .int .i64 0, .int .i64 2] 102 (0, 0)))
  clear H1
  go_wp2
  go_loopw [84] (fun i wr => ∃ (k : Nat) (s : List (List Int) × Nat) (v : Value) (A1 : Option Addr) (c1 : Nat), k ≤ l.length ∧ i = .int .i64 k ∧ Hid (okT (20 * k) 2 s) ∧ Aside0 (Cx (fun _ => False) (fun k => k < W.heap.size) W wr (((HP.rd KD A l).and (HP.val KR (.slice A2 x.f2.length c2) x.f2)).and (FZ s v A1 c1)) [HP.blk W.heap.size (.cells #[.bool x.f0, .int .i64 x.f1, .slice A2 x.f2.length c2] 95 (0, 0)), HP.blk g (tp v s.2 2), HP.blk w3.heap.size (bx s 2 A1 c1)])) (fun i _ => l.length - (intOf i).toNat)
  case atStart => exact ⟨0, ([], 0), .slice none 0 0, none, 0, by omega, rfl, Lib.hid (okT_nil _), ⟨H2.out.imp (fun Z hZ => ⟨hZ, HP.val_nil _ _ _, HP.val_nil _ _ _⟩)⟩⟩
  case round =>
    clear H2
    obtain ⟨k, s, v, A1, c1, hk, rfl, hok, H⟩ := hrel
    by_cases hlt : k < l.length
    · obtain ⟨⟨ad, A3, c3, y⟩, ⟨rfl, hy, d0, d1, d2⟩, H1⟩ := H.out.more (fun Z hZ => deed_at hZ.1.1 k hlt)
      simp only at hy d0 d1 d2 H1
      have hgy := Lib.hid (hgood.out y hy)
      replace H1 := Aside0.mk (H1.alloc (.cells #[.bool y.f0, .int .i64 y.f1, .slice A3 y.f2.length c3] 95 (0, 0)))
      clear H hy
      have e0 := H1.out.cell 2 rfl 0 rfl
      have e1 := H1.out.cell 2 rfl 1 rfl
      have e2 := H1.out.cell 2 rfl 2 rfl
      go_wp2_with fail
      refine (H1.out.cuse (α := Value × Option Addr × Nat) (R := fun q e => e = .returned (.tuple #[.agg #[.slice q.2.1 (stepTD 2 s y).1.length q.2.2, .int .i64 (stepTD 2 s y).2, .int .i64 2], .bool true])) (Φ' := fun q => FZ (stepTD 2 s y) q.1 q.2.1 q.2.2) (Ψ' := fun q => HP.blk g (tp q.1 (stepTD 2 s y).2 2)) 1 rfl (fun M Z hM hZ hd => does_any y s (20 * k) hM hZ.1.2 hZ.2 hd hok.out (by omega) hgy.out)).mono ?_
      rintro e w4 ⟨⟨v4, A4, c4⟩, rfl, H4⟩
      have hok4 := Lib.hid (okT_step hok.out y hgy.out)
      generalize hS : stepTD 2 s y = s' at *
      replace hS := Lib.hid hS
      replace H4 := Aside0.mk H4
      clear H1 d0 d1 d2 e0 e1 e2
      have e0 := H4.out.cell 2 rfl 0 rfl
      have e1 := H4.out.cell 2 rfl 1 rfl
      have e2 := H4.out.cell 2 rfl 2 rfl
      have ef := fun j => H4.out.unfrozen 2 rfl j
      go_wp2
      go_roundw
      case rel => exact ⟨k + 1, s', v4, A4, c4, by omega, by go_num, Lib.hid hok4.out, ⟨((((H4.out.put 2 rfl 0 (.slice A4 s'.1.length c4)).put 2 rfl 1 (.int .i64 s'.2)).put 2 rfl 2 (.int .i64 2)).imp (Φ' := ((HP.rd KD (some ad) l).and (HP.val KR (.slice A2 x.f2.length c2) x.f2)).and (FZ s' v4 A4 c4)) (fun Z hZ => ⟨hZ.1.1.1, hZ.2⟩)).take 3⟩⟩
      case measure => simp [intOf]; omega
    · obtain rfl : k = l.length := by omega
      have hok1 := hok.out.1
      go_wp2_with fail
      refine (cclone H.out 1 rfl (α := Nat × Value) (R := fun q e => e = .returned (.pointer (some ⟨q.1, 0, none⟩))) (Φ' := fun q => HP.val KR q.2 (s.1.drop s.2)) (Ψ' := fun q => HP.blk q.1 (tp q.2 s.2 2)) (fun M Z hM hZ hd => (clone_any s hM hZ.2 hd (by omega)).mono (fun e w' ⟨g', v', h1, h2⟩ => ⟨(g', v'), h1, h2⟩))).mono ?_
      rintro e w4 ⟨⟨g', v'⟩, rfl, H1⟩
      replace H1 := Aside0.mk H1
      clear H
      have e0 := H1.out.cell 2 rfl 0 rfl
      have e1 := H1.out.cell 2 rfl 1 rfl
      have e2 := H1.out.cell 2 rfl 2 rfl
      go_wp2_with fail
      obtain ⟨Z9, hZ9⟩ := H1.out.now
      refine (H1.out.cread 3 rfl (fun M hM => same_any 0 s.2 (20 * l.length) hM hZ9.2 hZ9.1.2.2 hok.out (by omega) (by omega))).mono ?_
      rintro e w5 ⟨rfl, H2⟩
      replace H2 := Aside0.mk H2
      clear H1 e0 e1 e2 hZ9
      have e0 := H2.out.cell 2 rfl 0 rfl
      have e1 := H2.out.cell 2 rfl 1 rfl
      have e2 := H2.out.cell 2 rfl 2 rfl
      have d0 := H2.out.cell 0 rfl 0 rfl
      have d1 := H2.out.cell 0 rfl 1 rfl
      have d2 := H2.out.cell 0 rfl 2 rfl
      go_wp2_with fail
      refine (H2.out.cuse (α := Value × Option Addr × Nat) (R := fun q e => e = .returned (.tuple #[.agg #[.slice q.2.1 (stepTD 2 s x).1.length q.2.2, .int .i64 (stepTD 2 s x).2, .int .i64 2], .bool true])) (Φ' := fun q => FZ (stepTD 2 s x) q.1 q.2.1 q.2.2) (Ψ' := fun q => HP.blk g' (tp q.1 (stepTD 2 s x).2 2)) 3 rfl (fun M Z hM hZ hd => does_any x s (20 * l.length) hM ⟨hZ.2, hZ.1.2.2⟩ hZ.1.1.2 hd hok.out (by omega) hgx.out)).mono ?_
      rintro e w6 ⟨⟨v6, A6, c6⟩, rfl, H3⟩
      have hok4 := Lib.hid (okT_step hok.out x hgx.out)
      generalize hS : stepTD 2 s x = s' at *
      replace hS := Lib.hid hS
      replace H3 := Aside0.mk (H3.alloc (.cells #[.slice A6 s'.1.length c6, .int .i64 s'.2, .int .i64 2] 102 (0, 0)))
      clear H2 e0 e1 e2 d0 d1 d2
      have e0 := H3.out.cell 2 rfl 0 rfl
      have e1 := H3.out.cell 2 rfl 1 rfl
      have e2 := H3.out.cell 2 rfl 2 rfl
      go_wp2_with fail
      obtain ⟨Z9, hZ9⟩ := H3.out.now
      refine (H3.out.cread 3 rfl (fun M hM => same_any 0 s'.2 (20 * l.length + 20) hM hZ9.2.1 hZ9.2.2 hok4.out (by omega) (by omega))).mono ?_
      rintro e w7 ⟨rfl, H4⟩
      replace H4 := Aside0.mk H4
      clear H3 e0 e1 e2 hZ9
      have e0 := H4.out.cell 2 rfl 0 rfl
      have e1 := H4.out.cell 2 rfl 1 rfl
      have e2 := H4.out.cell 2 rfl 2 rfl
      go_wp2_with fail
      obtain ⟨Z9, hZ9⟩ := H4.out.now
      refine (H4.out.cread 1 rfl (fun M hM => same_any 0 s.2 (20 * l.length) hM hZ9.1.1.2.1 hZ9.1.1.2.2 hok.out (by omega) (by omega))).mono ?_
      rintro e w8 ⟨rfl, H5⟩
      replace H5 := Aside0.mk H5
      clear H4 e0 e1 e2 hZ9
      go_wp2_with fail
      refine lives_true.mono ?_
      rintro e wl ⟨rfl, hb⟩
      replace H1 := Aside0.mk (H5.out.skip hb)
      clear hb
      go_wp2
      go_ret
      exact ⟨rfl, H1.out.below⟩
end
theorem apart_walk (w : World) (A : Option Addr) (c : Nat) (l : List SD) (hl : l.length ≤ c) (hC : KD.C w A l.length l) (_hw : ∀ x ∈ l, True ∧ I64wf x.f1 ∧ ∀ y ∈ x.f2, ∀ z ∈ y, I64wf z) (cs : Array Value) (x : SD) (hk : KD.K w x (Value.agg cs).cells.toList) (_hw2 : True ∧ I64wf x.f1 ∧ ∀ y ∈ x.f2, ∀ z ∈ y, I64wf z) :
    Calls Try.prog 14 #[.slice A l.length c, .agg cs] w fun e w' => e = .returned (.bool true) ∧ Below w.heap.size w w' := by
  obtain ⟨A2, c2, he, hl2, hC2⟩ := k95_open hk
  obtain rfl : cs = #[.bool x.f0, .int .i64 x.f1, .slice A2 x.f2.length c2] := by
    have : cs.toList = _ := he
    rw [← Array.toList_inj, this]
  obtain ⟨r, hr, hx⟩ := great_any l
  cases r with
  | true => exact apart_great A c l hl hC A2 c2 x hl2 hC2 hr
  | false =>
    obtain ⟨r2, hr2, hx2⟩ := great_any [x]
    cases r2 with
    | true => exact apart_long A c l hl hC A2 c2 x hl2 hC2 hr hr2
    | false => exact apart_small A c l hl hC A2 c2 x hl2 hC2 hr (hx rfl) hr2 ((hx2 rfl).2 x (by simp))
end Go.Proofs.Ytpakcfbjjlmcaaa.Tape
