/- TapePlays, walked. No condition but that the arguments read. -/
import Derived.Test.YtpakcfbjjlmcaaaTape11
import Derived.Test.YtpakcfbjjlmcaaaOpen
set_option linter.unusedVariables false
set_option linter.unusedSimpArgs false
set_option maxHeartbeats 1600000
set_option maxRecDepth 100000
namespace Go.Proofs.Ytpakcfbjjlmcaaa.Tape
open Go.RowKit Go.RK Go.TP Go.Proofs.YtpakcfbjjlmcaaaW.PrintWords Go.Proofs.Ytpakcfbjjlmcaaa.PAll
variable {W : World} {M Z : Nat → Prop} {g : Nat} {width : Int} {v : Value} {X : List (List Int)}
abbrev SD : Type := S95
abbrev KD : Kd SD := k95
/-- what is frozen of a tape and the document's -/
abbrev FZ (s : List (List Int) × Nat) (v : Value) (A : Option Addr) (c : Nat) : HP := (HP.val KR v (s.1.drop s.2)).and (HP.val KR (.slice A s.1.length c) s.1)
/-- the document's tape, in a box -/
abbrev bx (s : List (List Int) × Nat) (width : Int) (A : Option Addr) (c : Nat) : Obj := .cells #[.slice A s.1.length c, .int .i64 s.2, .int .i64 width] 102 (0, 0)
theorem does_any {v : Value} {A A1 : Option Addr} {c c1 : Nat} (d : SD) (s : List (List Int) × Nat) (n : Nat) (h : (HP.blk g (tp v s.2 width)).at_ W M) (hv : (FZ s v A c).at_ W Z) (hr : (HP.val KR (.slice A1 d.f2.length c1) d.f2).at_ W Z) (hd : ∀ k, Z k → ¬ M k) (hok : okT n width s) (hn : n ≤ 1000) (hg : good d) :
    Calls Try.prog 63 #[.pointer (some ⟨g, 0, none⟩), .agg #[.slice A s.1.length c, .int .i64 s.2, .int .i64 width], .agg #[.bool d.f0, .int .i64 d.f1, .slice A1 d.f2.length c1]] W fun e w' => ∃ (q : Value × Option Addr × Nat), e = .returned (.tuple #[.agg #[.slice q.2.1 (stepTD width s d).1.length q.2.2, .int .i64 (stepTD width s d).2, .int .i64 width], .bool true]) ∧ Does W M Z (FZ (stepTD width s d) q.1 q.2.1 q.2.2) (HP.blk g (tp q.1 (stepTD width s d).2 width)) w' := by
  obtain ⟨X, F⟩ := s
  have hh : Calls Try.prog 63 #[.pointer (some ⟨g, 0, none⟩), .agg #[.slice A X.length c, .int .i64 F, .int .i64 width], .agg #[.bool d.f0, .int .i64 d.f1, .slice A1 d.f2.length c1]] W fun e w' => ∃ (q : Value × Value), e = .returned (.tuple #[.agg #[q.2, .int .i64 (stepTD width (X, F) d).2, .int .i64 width], .bool true]) ∧ Does W M Z ((HP.val KR q.1 ((stepTD width (X, F) d).1.drop (stepTD width (X, F) d).2)).and (HP.val KR q.2 (stepTD width (X, F) d).1)) (HP.blk g (tp q.1 (stepTD width (X, F) d).2 width)) w' := by
    by_cases hf : d.f0 = true
    · exact does_forget d F n h hv.1 hv.2 hr hd hok hn hg hf
    · exact does_set d F n h hv.1 hv.2 hr hd hok hn hg (by simpa using hf)
  refine hh.mono ?_
  rintro e w' ⟨⟨v', vx⟩, rfl, H⟩
  obtain ⟨_, M1, hM, hΦ, _⟩ := id H
  obtain ⟨A4, c4, rfl, _⟩ := HP.val_now hΦ.2
  exact ⟨(v', A4, c4), rfl, H⟩
theorem deed_at {A : Option Addr} {l : List SD} (h : (HP.rd KD A l).at_ W Z) (k : Nat) (hk : k < l.length) :
    ∃ x : Addr × Option Addr × Nat × SD, (A = some x.1 ∧ x.2.2.2 ∈ l ∧ W.cell? (x.1.add (k * 3)) = some (.bool x.2.2.2.f0) ∧ W.cell? ⟨(x.1.add (k * 3)).block, (x.1.add (k * 3)).off + 1, none⟩ = some (.int .i64 x.2.2.2.f1) ∧ W.cell? ⟨(x.1.add (k * 3)).block, (x.1.add (k * 3)).off + 2, none⟩ = some (.slice x.2.1 x.2.2.2.f2.length x.2.2.1)) ∧ (HP.val KR (.slice x.2.1 x.2.2.2.f2.length x.2.2.1) x.2.2.2.f2).at_ W Z := by
  obtain ⟨ad, cs, e, hK, hc⟩ := HP.rd_get h k (List.getElem?_eq_getElem hk)
  obtain ⟨A3, c3, rfl, hl, hF⟩ := k95_openF hK
  refine ⟨⟨ad, A3, c3, l[k]⟩, ⟨e, List.getElem_mem hk, hc 0 _ rfl, ?_, ?_⟩, A3, c3, rfl, hl, hF⟩
  · rw [← add_field _ _ 1 (by omega)]; exact hc 1 _ rfl
  · rw [← add_field _ _ 2 (by omega)]; exact hc 2 _ rfl
theorem heapD : Kd.Heap KD := Kd.heap_iso _ (Kd.heap_pair Kd.heap_bool (Kd.heap_pair (Kd.heap_int _) (Kd.heap_slice _ (Kd.heap_slice _ (Kd.heap_int _)))))
theorem plays_not (A : Option Addr) (c : Nat) (l : List SD) (h : ¬ (0 ≤ width ∧ width ≤ 64)) :
    Calls Try.prog 13 #[.int .i64 width, .slice A l.length c] W fun e w' => e = .returned (.bool true) ∧ Below W.heap.size W w' := by
  have H := Lib.hid h
  by_cases h1 : width < 0
  · clear h
    go_enter Try.func13, Try.ntmps13
    go_wp2_with fail
    refine (new_no width H.out).mono ?_
    rintro e w1 ⟨rfl, rfl⟩
    go_wp2_with fail
    refine lives_true.mono ?_
    rintro e w3 ⟨rfl, hb⟩
    go_wp2
    go_ret
    exact ⟨rfl, hb⟩
  · have h2 : 64 < width := by omega
    clear h
    go_enter Try.func13, Try.ntmps13
    go_wp2_with fail
    refine (new_no width H.out).mono ?_
    rintro e w1 ⟨rfl, rfl⟩
    go_wp2_with fail
    refine lives_true.mono ?_
    rintro e w3 ⟨rfl, hb⟩
    go_wp2
    go_ret
    exact ⟨rfl, hb⟩
theorem plays_great (A : Option Addr) (c : Nat) (l : List SD) (hl : l.length ≤ c) (hC : KD.C W A l.length l) (h : 0 ≤ width ∧ width ≤ 64) (hg : rifflelaw16_Great.f 2000 l = some true) :
    Calls Try.prog 13 #[.int .i64 width, .slice A l.length c] W fun e w' => e = .returned (.bool true) ∧ Below W.heap.size W w' := by
  have H0 := Aside0.mk (Cx.start0 (Φ := HP.rd KD A l) (Kd.C_F heapD hC))
  have h1 := h.1
  have h2 := h.2
  have hw := Lib.hid h
  replace hg := Aside0.mk hg
  clear hC h
  go_enter Try.func13, Try.ntmps13
  go_wp2_with fail
  refine (H0.out.cnew (α := Nat) (R := fun g e => e = .returned (.tuple #[.pointer (some ⟨g, 0, none⟩), .int .i64 0])) (Ψ' := fun g => HP.blk g (tp (.slice none 0 0) 0 width)) (new_made width h1 h2)).mono ?_
  rintro e w1 ⟨g, rfl, H1⟩
  replace H1 := Aside0.mk H1
  clear H0
  go_wp2_with fail
  refine (H1.out.cskip (fun Z hZ => Cx.toBelow (rifflelaw16_Great.calls 2000 A c l true _ (HP.rd_now hZ) hl hg.out))).mono ?_
  rintro e w3 ⟨rfl, H3⟩
  replace H3 := Aside0.mk H3
  clear H1
  go_wp2_with fail
  refine lives_true.mono ?_
  rintro e wl ⟨rfl, hb⟩
  have HL := Aside0.mk (H3.out.skip hb)
  clear hb
  go_wp2
  go_ret
  exact ⟨rfl, HL.out.below⟩
theorem plays_small (A : Option Addr) (c : Nat) (l : List SD) (hl : l.length ≤ c) (hC : KD.C W A l.length l) (h : 0 ≤ width ∧ width ≤ 64) (hg : rifflelaw16_Great.f 2000 l = some false) (hs : l.length ≤ 40 ∧ ∀ d ∈ l, good d) :
    Calls Try.prog 13 #[.int .i64 width, .slice A l.length c] W fun e w' => e = .returned (.bool true) ∧ Below W.heap.size W w' := by
  have hlen := hs.1
  have hgood := Lib.hid hs.2
  clear hs
  have H0 := Aside0.mk (Cx.start0 (Φ := HP.rd KD A l) (Kd.C_F heapD hC))
  have h1 := h.1
  have h2 := h.2
  have hw := Lib.hid h
  replace hg := Aside0.mk hg
  clear hC h
  go_enter Try.func13, Try.ntmps13
  go_wp2_with fail
  refine (H0.out.cnew (α := Nat) (R := fun g e => e = .returned (.tuple #[.pointer (some ⟨g, 0, none⟩), .int .i64 0])) (Ψ' := fun g => HP.blk g (tp (.slice none 0 0) 0 width)) (new_made width h1 h2)).mono ?_
  rintro e w1 ⟨g, rfl, H1⟩
  replace H1 := Aside0.mk H1
  clear H0
  go_wp2_with fail
  refine (H1.out.cskip (fun Z hZ => Cx.toBelow (rifflelaw16_Great.calls 2000 A c l false _ (HP.rd_now hZ) hl hg.out))).mono ?_
  rintro e w3 ⟨rfl, H3⟩
  replace H3 := Aside0.mk (H3.alloc (.cells #[.slice none 0 0, .int .i64 0, .int .i64 width] 102 (0, 0)))
  clear H1
  go_wp2
  go_loopw [45] (fun i wr => ∃ (k : Nat) (s : List (List Int) × Nat) (v : Value) (A1 : Option Addr) (c1 : Nat), k ≤ l.length ∧ i = .int .i64 k ∧ Hid (okT (20 * k) width s) ∧ Aside0 (Cx (fun _ => False) (fun k => k < W.heap.size) W wr ((HP.rd KD A l).and (FZ s v A1 c1)) [HP.blk g (tp v s.2 width), HP.blk w3.heap.size (bx s width A1 c1)])) (fun i _ => l.length - (intOf i).toNat)
  case atStart => exact ⟨0, ([], 0), .slice none 0 0, none, 0, by omega, rfl, Lib.hid (okT_nil _), ⟨H3.out.imp (fun Z hZ => ⟨hZ, HP.val_nil _ _ _, HP.val_nil _ _ _⟩)⟩⟩
  case round =>
    clear H3
    obtain ⟨k, s, v, A1, c1, hk, rfl, hok, H⟩ := hrel
    by_cases hlt : k < l.length
    · obtain ⟨⟨ad, A2, c2, x⟩, ⟨rfl, hx, d0, d1, d2⟩, H1⟩ := H.out.more (fun Z hZ => deed_at hZ.1 k hlt)
      simp only at hx d0 d1 d2 H1
      have hgx := Lib.hid (hgood.out x hx)
      replace H1 := Aside0.mk (H1.alloc (.cells #[.bool x.f0, .int .i64 x.f1, .slice A2 x.f2.length c2] 95 (0, 0)))
      clear H hx
      have e0 := H1.out.cell 1 rfl 0 rfl
      have e1 := H1.out.cell 1 rfl 1 rfl
      have e2 := H1.out.cell 1 rfl 2 rfl
      go_wp2_with fail
      refine (H1.out.cuse (α := Value × Option Addr × Nat) (R := fun q e => e = .returned (.tuple #[.agg #[.slice q.2.1 (stepTD width s x).1.length q.2.2, .int .i64 (stepTD width s x).2, .int .i64 width], .bool true])) (Φ' := fun q => FZ (stepTD width s x) q.1 q.2.1 q.2.2) (Ψ' := fun q => HP.blk g (tp q.1 (stepTD width s x).2 width)) 0 rfl (fun M Z hM hZ hd => does_any x s (20 * k) hM hZ.1.2 hZ.2 hd hok.out (by omega) hgx.out)).mono ?_
      rintro e w4 ⟨⟨v4, A4, c4⟩, rfl, H4⟩
      have hok4 := Lib.hid (okT_step hok.out x hgx.out)
      generalize hS : stepTD width s x = s' at *
      replace hS := Lib.hid hS
      replace H4 := Aside0.mk (H4.alloc (.cells #[.slice A4 s'.1.length c4, .int .i64 s'.2, .int .i64 width] 102 (0, 0)))
      clear H1 d0 d1 d2 e0 e1 e2
      have e0 := H4.out.cell 1 rfl 0 rfl
      have e1 := H4.out.cell 1 rfl 1 rfl
      have e2 := H4.out.cell 1 rfl 2 rfl
      have ef := fun j => H4.out.unfrozen 1 rfl j
      have H5 := Aside0.mk (((H4.out.put 1 rfl 0 (.slice A4 s'.1.length c4)).put 1 rfl 1 (.int .i64 s'.2)).put 1 rfl 2 (.int .i64 width))
      have f1 := H5.out.cell 2 rfl 1 rfl
      go_wp2_with fail
      obtain ⟨Z9, hZ9⟩ := H5.out.now
      refine (H5.out.cread 0 rfl (fun M hM => same_any x.f1 s'.2 (20 * k + 20) hM hZ9.2.1 hZ9.2.2 hok4.out (by omega) hw.out)).mono ?_
      rintro e w5 ⟨rfl, H6⟩
      replace H6 := Aside0.mk H6
      clear H4 H5 e0 e1 e2 ef f1 hZ9
      go_wp2
      go_roundw
      case rel => exact ⟨k + 1, s', v4, A4, c4, by omega, by go_num, Lib.hid hok4.out, ⟨(H6.out.imp (Φ' := (HP.rd KD (some ad) l).and (FZ s' v4 A4 c4)) (fun Z hZ => ⟨hZ.1.1.1, hZ.2⟩)).take 2⟩⟩
      case measure => simp [intOf]; omega
    · go_wp2_with fail
      refine lives_true.mono ?_
      rintro e wl ⟨rfl, hb⟩
      have HL := Aside0.mk (H.out.skip hb)
      clear hb
      go_wp2
      go_ret
      exact ⟨rfl, HL.out.below⟩
theorem plays_walk (w : World) (width : Int) (_h1 : I64wf width) (A : Option Addr) (c : Nat) (l : List SD) (hl : l.length ≤ c) (hC : KD.C w A l.length l) (_hw : ∀ x ∈ l, True ∧ I64wf x.f1 ∧ ∀ y ∈ x.f2, ∀ z ∈ y, I64wf z) :
    Calls Try.prog 13 #[.int .i64 width, .slice A l.length c] w fun e w' => e = .returned (.bool true) ∧ Below w.heap.size w w' := by
  by_cases h : 0 ≤ width ∧ width ≤ 64
  · obtain ⟨r, hr, hx⟩ := great_any l
    cases r with
    | true => exact plays_great A c l hl hC h hr
    | false => exact plays_small A c l hl hC h hr (hx rfl)
  · exact plays_not A c l h
end Go.Proofs.Ytpakcfbjjlmcaaa.Tape
