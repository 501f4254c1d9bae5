/- TwinApart, walked. No condition but that the arguments read. -/
import Derived.Test.YtpakcfbjjlmcaaaTwinPlays
import Derived.Test.YtpakcfbjjlmcaaaClones
import Derived.Laws.EntriesVeiled
set_option linter.unusedVariables false
set_option linter.unusedSimpArgs false
set_option maxHeartbeats 1600000
set_option maxRecDepth 100000
namespace Go.Proofs.Ytpakcfbjjlmcaaa.TwinS
open Go.RowKit Go.RK Go.TW Go.Proofs.YtpakcfbjjlmcaaaW.PrintWords Go.Proofs.Ytpakcfbjjlmcaaa.PAll
variable {W : World} {M Z : Nat → Prop} {g : Nat} {most : Int} {L : List ByteArray}
theorem clone_nil : Calls Try.prog 45 #[.pointer none] W fun e w' => e = .returned (.pointer none) ∧ w' = W := by
  go_enter Try.func45, Try.ntmps45
  go_wp2
  go_ret
  exact ⟨rfl, rfl⟩
theorem raw_sc {v : Value} {n : Nat} {cells : List Value} (h : (HP.raw 0 9 1 v n cells).at_ W M) {xs : List ByteArray} (hc : cells = xs.map Value.string) (hn : n = xs.length) : ∃ A c, v = .slice A n c ∧ Kd.string.C W A xs.length xs := by
  subst hc hn
  obtain ⟨A, c, rfl, hl, hC⟩ := HP.val_now (HP.val_of (d := Kd.string) h (HP.reps_scalar xs _ rfl))
  exact ⟨A, c, rfl, hC⟩
theorem clone_fz {M0 Z0 : Nat → Prop} {W0 : World} {Φ : HP} {Ψs : List HP} (H : Cx M0 Z0 W0 W Φ Ψs) {A : Option Addr} {c : Nat} (xs : List ByteArray) (hi : ∀ Z, Φ.at_ W Z → ∃ M, (HP.raw 0 9 1 (.slice A xs.length c) xs.length (xs.map Value.string)).at_ W M) (hl : xs.length ≤ 100) :
    Calls Try.prog 79 #[.slice A xs.length c] W fun e w' => ∃ A1 c1, e = .returned (.slice A1 xs.length c1) ∧ Cx M0 Z0 W0 w' Φ (Ψs ++ [HP.raw 0 9 1 (.slice A1 xs.length c1) xs.length (xs.map Value.string)]) := by
  obtain ⟨M, hM⟩ := hi _ H.now.choose_spec
  obtain ⟨A', c', he, hC⟩ := raw_sc hM rfl rfl
  injection he with he1 he2 he3
  subst he1; subst he3
  refine (Clones.strings A c xs hC (by omega)).mono ?_
  rintro e w1 ⟨v, rfl, hb, hr, _⟩
  obtain ⟨A1, c1, rfl, _⟩ := HP.raw_form hr
  exact ⟨A1, c1, rfl, (H.made (Φ' := HP.tt) (Ψ' := HP.raw 0 9 1 (.slice A1 xs.length c1) xs.length (xs.map Value.string)) ⟨own_weaken hr.1 (Nat.zero_le _), hr.2⟩ hb trivial (fun k hk => hk)).fst⟩
theorem fcell {M0 Z0 : Nat → Prop} {W0 : World} {Φ : HP} {Ψs : List HP} (H : Cx M0 Z0 W0 W Φ Ψs) {cs : Array Value} {t : TypeId} {fr : Nat × Nat} (hx : ∀ (W : World) (Z : Nat → Prop), Φ.at_ W Z → W.heap[g]? = some (.cells cs t fr)) (j : Nat) {v : Value} (hv : cs[j]? = some v) : W.cell? ⟨g, j, none⟩ = some v := cell_blk (hx _ _ H.now.choose_spec) hv
theorem clone_agg (jn : ByteArray → ByteArray → ByteArray) {Lf Lb : List ByteArray} (h : (AggH jn g most fj Lf Lb).at_ W M) (h1 : Lf.length ≤ 100) (h2 : Lb.length ≤ 100) :
    Calls Try.prog 45 #[.pointer (some ⟨g, 0, none⟩)] W fun e w' => ∃ g', e = .returned (.pointer (some ⟨g', 0, none⟩)) ∧ Below W.heap.size W w' ∧ (AggH jn g' most fj Lf Lb).at_ w' (fun k => W.heap.size ≤ k) := by
  obtain ⟨Af, cf, Ab, cb, tl, ha, ht, _⟩ := AggH.opn h
  have H1 := Aside0.mk (Cx.startz ha)
  clear h ha
  have hsl := sufs_length jn Lf
  have hΦ : ∀ (W : World) (Z : Nat → Prop), (Agg jn g most fj Lf Lb (.slice Af Lf.length cf) (.slice Ab Lb.length cb) tl).at_ W Z → W.heap[g]? = some (.cells #[.slice Af (sufs jn Lf).length cf, .slice Ab Lb.length cb, .string tl, .int .i64 most, fj] 121 (0, 0)) ∧ (∃ M, (HP.raw 0 9 1 (.slice Af (sufs jn Lf).length cf) (sufs jn Lf).length ((sufs jn Lf).map Value.string)).at_ W M) ∧ (∃ M, (HP.raw 0 9 1 (.slice Ab Lb.length cb) Lb.length (Lb.map Value.string)).at_ W M) := by
    intro W Z h
    rw [hsl]
    obtain ⟨a, b, h0, ⟨a1, b1, h1, h2, _⟩, _⟩ := h
    exact ⟨h0.1, ⟨_, h1⟩, ⟨_, h2⟩⟩
  generalize hP : Agg jn g most fj Lf Lb (.slice Af Lf.length cf) (.slice Ab Lb.length cb) tl = P at *
  generalize hS : sufs jn Lf = S at *
  rw [← hsl] at h1
  replace hsl := Lib.hid hsl
  replace hS := Lib.hid hS
  replace hP := Aside0.mk hP
  replace hΦ := Aside0.mk hΦ
  have k0 := fcell H1.out (fun W Z h => (hΦ.out W Z h).1) 0 rfl
  have k1 := fcell H1.out (fun W Z h => (hΦ.out W Z h).1) 1 rfl
  have k2 := fcell H1.out (fun W Z h => (hΦ.out W Z h).1) 2 rfl
  have k3 := fcell H1.out (fun W Z h => (hΦ.out W Z h).1) 3 rfl
  have k4 := fcell H1.out (fun W Z h => (hΦ.out W Z h).1) 4 rfl
  replace H1 := Aside0.mk (H1.out.alloc (.cells #[.slice Af S.length cf, .slice Ab Lb.length cb, .string tl, .int .i64 most, fj] 121 (0, 0)))
  go_enter Try.func45, Try.ntmps45
  go_upto_region 4 with (fail)
  clear k0 k1 k2 k3 k4
  go_region_held3 (fun w' => w'.cell? ⟨g, 0, none⟩ = some (.slice Af S.length cf) ∧ w'.cell? ⟨g, 1, none⟩ = some (.slice Ab Lb.length cb))
    (first | exact ⟨fcell H1.out (fun W Z h => (hΦ.out W Z h).1) 0 rfl, fcell H1.out (fun W Z h => (hΦ.out W Z h).1) 1 rfl⟩ | exact ⟨fcell (H1.out.put 0 rfl 0 _) (fun W Z h => (hΦ.out W Z h).1) 0 rfl, fcell (H1.out.put 0 rfl 0 _) (fun W Z h => (hΦ.out W Z h).1) 1 rfl⟩ | exact ⟨fcell ((H1.out.put 0 rfl 0 _).put 0 rfl 1 _) (fun W Z h => (hΦ.out W Z h).1) 0 rfl, fcell ((H1.out.put 0 rfl 0 _).put 0 rfl 1 _) (fun W Z h => (hΦ.out W Z h).1) 1 rfl⟩)
    (first
      | (go_at_call 79; (with_reducible refine (clone_fz H1.out.drew S (fun Z h => (hΦ.out _ Z h).2.1) h1).mono ?_); rintro e Wa ⟨Aa, ca, rfl, H2⟩; replace H1 := Aside0.mk H2; clear H2)
      | (go_at_call 79; (with_reducible refine (clone_fz H1.out Lb (fun Z h => (hΦ.out _ Z h).2.2) h2).mono ?_); rintro e Wb ⟨Ag, cg, rfl, H2⟩; replace H1 := Aside0.mk H2; clear H2; have p0 := H1.out.cell 0 rfl 0 rfl; have p1 := H1.out.cell 0 rfl 1 rfl; have pf := fun j => H1.out.unfrozen 0 rfl j))
  rename_i hHeld
  clear hHeld p0 p1 pf
  go_wp2
  go_ret
  have hf := (((H1.out.put 0 rfl 0 (.slice Aa S.length ca)).put 0 rfl 1 (.slice Ag Lb.length cg)).glue 1 2 (by decide) rfl rfl).glue 0 1 (by decide) rfl rfl
  obtain ⟨hb, M1, h3, _, h4⟩ := hf.doneNew 0 rfl
  exact ⟨_, rfl, hb, HP.mono (Agg.shut (jn := jn) (Lf := Lf) (Lb := Lb) (most := most) (fv := fj) (vf := .slice Aa S.length ca) (vb := .slice Ag Lb.length cg) (tl := tl) (by unfold Agg; rw [hS.out, ← hsl.out]; exact h3) ht) (fun k hk _ => h4 k hk)⟩
theorem clone_win (h : (WinH cat g most L).at_ W M) (hl : L.length ≤ 64) :
    Calls Try.prog 45 #[.pointer (some ⟨g, 0, none⟩)] W fun e w' => ∃ g', e = .returned (.pointer (some ⟨g', 0, none⟩)) ∧ Below W.heap.size W w' ∧ (WinH cat g' most L).at_ w' (fun k => W.heap.size ≤ k) := by
  obtain ⟨⟨Lf, Lb⟩, h, hLL⟩ := h
  simp only at h hLL
  subst hLL
  rw [List.length_append] at hl
  refine (clone_agg cat h (by omega) (by omega)).mono ?_
  rintro e w1 ⟨g', rfl, hb, h⟩
  exact ⟨g', rfl, hb, (Lf, Lb), h, rfl⟩
section
variable (A : Option Addr) (c : Nat) (l : List S59) (hl : l.length ≤ c) (hC : k59.C W A l.length l) (x : S59)
include hl hC
theorem apart_great (hg : rifflelaw12_Great.f 1000 l = some true) :
    Calls Try.prog 8 #[.slice A l.length c, .agg #[.bool x.f0, .string x.f1]] W fun e w' => e = .returned (.bool true) ∧ Below W.heap.size W w' := by
  have H0 := Aside0.mk ((Cx.start0 (Φ := HP.rd k59 A l) (Kd.C_F heap59 hC)).alloc (.cells #[.bool x.f0, .string x.f1] 59 (0, 0)))
  replace hg := Aside0.mk hg
  clear hC
  go_enter Try.func8, Try.ntmps8
  go_wp2_with fail
  refine all_nil.mono ?_
  rintro e w1 ⟨rfl, rfl⟩
  go_wp2_with fail
  refine drop_nil.mono ?_
  rintro e w1 ⟨rfl, rfl⟩
  go_wp2_with fail
  refine len_nil.mono ?_
  rintro e w1 ⟨rfl, rfl⟩
  go_wp2_with fail
  refine (push_nil _).mono ?_
  rintro e w1 ⟨rfl, rfl⟩
  go_wp2_with fail
  refine clone_nil.mono ?_
  rintro e w1 ⟨rfl, rfl⟩
  go_wp2_with fail
  refine (H0.out.cskip (fun Z hZ => Cx.toBelow (rifflelaw12_Great.calls 1000 A c l true _ (HP.rd_now hZ) hl hg.out))).mono ?_
  rintro e w2 ⟨rfl, H1⟩
  replace H1 := Aside0.mk H1
  clear H0
  go_wp2_with fail
  refine lives_ok.mono ?_
  rintro e wl ⟨rfl, hb⟩
  have HL := Aside0.mk (H1.out.skip hb)
  clear hb
  go_wp2
  go_ret
  exact ⟨rfl, HL.out.below⟩
theorem apart_long (hg : rifflelaw12_Great.f 1000 l = some false) (hx : 40 < x.f1.size) :
    Calls Try.prog 8 #[.slice A l.length c, .agg #[.bool x.f0, .string x.f1]] W fun e w' => e = .returned (.bool true) ∧ Below W.heap.size W w' := by
  have H0 := Aside0.mk ((Cx.start0 (Φ := HP.rd k59 A l) (Kd.C_F heap59 hC)).alloc (.cells #[.bool x.f0, .string x.f1] 59 (0, 0)))
  replace hg := Aside0.mk hg
  clear hC
  go_enter Try.func8, Try.ntmps8
  go_wp2_with fail
  refine all_nil.mono ?_
  rintro e w1 ⟨rfl, rfl⟩
  go_wp2_with fail
  refine drop_nil.mono ?_
  rintro e w1 ⟨rfl, rfl⟩
  go_wp2_with fail
  refine len_nil.mono ?_
  rintro e w1 ⟨rfl, rfl⟩
  go_wp2_with fail
  refine (push_nil _).mono ?_
  rintro e w1 ⟨rfl, rfl⟩
  go_wp2_with fail
  refine clone_nil.mono ?_
  rintro e w1 ⟨rfl, rfl⟩
  go_wp2_with fail
  refine (H0.out.cskip (fun Z hZ => Cx.toBelow (rifflelaw12_Great.calls 1000 A c l false _ (HP.rd_now hZ) hl hg.out))).mono ?_
  rintro e w2 ⟨rfl, H1⟩
  replace H1 := Aside0.mk H1
  clear H0
  have d1 := H1.out.cell 0 rfl 1 rfl
  go_wp2_with fail
  refine lives_ok.mono ?_
  rintro e wl ⟨rfl, hb⟩
  have HL := Aside0.mk (H1.out.skip hb)
  clear hb
  go_wp2
  go_ret
  exact ⟨rfl, HL.out.below⟩
theorem apart_small (hg : rifflelaw12_Great.f 1000 l = some false) (hs : l.length ≤ 80 ∧ ∀ j : Nat, j < l.length → (rd_T59 l (j : Int)).f1.size ≤ 40) (hx : x.f1.size ≤ 40) :
    Calls Try.prog 8 #[.slice A l.length c, .agg #[.bool x.f0, .string x.f1]] W fun e w' => e = .returned (.bool true) ∧ Below W.heap.size W w' := by
  have hlen := hs.1
  have hrows := Lib.hid hs.2
  clear hs
  have H0 := Aside0.mk ((Cx.start0 (Φ := HP.rd k59 A l) (Kd.C_F heap59 hC)).alloc (.cells #[.bool x.f0, .string x.f1] 59 (0, 0)))
  replace hg := Aside0.mk hg
  clear hC
  go_enter Try.func8, Try.ntmps8
  go_wp2_with fail
  refine all_nil.mono ?_
  rintro e w1 ⟨rfl, rfl⟩
  go_wp2_with fail
  refine drop_nil.mono ?_
  rintro e w1 ⟨rfl, rfl⟩
  go_wp2_with fail
  refine len_nil.mono ?_
  rintro e w1 ⟨rfl, rfl⟩
  go_wp2_with fail
  refine (push_nil _).mono ?_
  rintro e w1 ⟨rfl, rfl⟩
  go_wp2_with fail
  refine clone_nil.mono ?_
  rintro e w1 ⟨rfl, rfl⟩
  go_wp2_with fail
  refine (H0.out.cskip (fun Z hZ => Cx.toBelow (rifflelaw12_Great.calls 1000 A c l false _ (HP.rd_now hZ) hl hg.out))).mono ?_
  rintro e w2 ⟨rfl, H1⟩
  replace H1 := Aside0.mk H1
  clear H0
  have d1 := H1.out.cell 0 rfl 1 rfl
  go_wp2_with fail
  clear d1
  refine (H1.out.cnew (new_win 5 (by omega) (by omega))).mono ?_
  rintro e w3 ⟨g, rfl, H2⟩
  replace H2 := Aside0.mk H2
  clear H1
  go_wp2
  go_loopw [10, 62] (fun v i wr => ∃ (k : Nat) (L : List ByteArray) (A1 : Option Addr) (c1 : Nat), k ≤ l.length ∧ i = .int .i64 k ∧ v = .slice A1 L.length c1 ∧ (L.length : Int) ≤ 5 ∧ Hid (∀ y ∈ L, len y ≤ 40) ∧ Aside0 (Cx (fun _ => False) (fun k => k < W.heap.size) W wr ((HP.rd k59 A l).and (HP.val Kd.string (.slice A1 L.length c1) L)) [HP.blk W.heap.size (.cells #[.bool x.f0, .string x.f1] 59 (0, 0)), WinH cat g 5 L])) (fun _ i _ => l.length - (intOf i).toNat)
  case atStart => exact ⟨0, [], none, 0, by omega, rfl, rfl, by simp, Lib.hid (by simp), ⟨H2.out.imp (fun Z hZ => ⟨hZ, HP.val_nil _ _ _⟩)⟩⟩
  case round =>
    clear H2
    obtain ⟨k, L, A1, c1, hk, rfl, rfl, hL, hB, H⟩ := hrel
    by_cases hlt : k < l.length
    · have hrow := hrows.out k hlt
      obtain ⟨Z, hZ⟩ := H.out.now
      obtain ⟨ad, rfl, d0, d1⟩ := at_T59 (HP.rd_now hZ.1) (k : Int) (by omega) (by omega)
      rw [Int.toNat_natCast] at d0 d1
      clear hZ
      generalize rd_T59 l k = y at *
      go_wp2_with fail
      refine ((H.out.junk _).cuval 1 rfl (fun M Z hM hZ hd => does_any hM _ hZ.2 hd (by omega) hB.out _ _ hrow)).mono ?_
      rintro e w4 ⟨A4, c4, rfl, H4⟩
      have hB4 := Lib.hid (step_sz (most := 5) (b := y.f0) hB.out hrow)
      have hL4 := step_len (b := y.f0) (x := y.f1) hL
      generalize hS : stepF 5 L y.f0 y.f1 = L' at *
      replace H4 := Aside0.mk H4
      replace hS := Lib.hid hS
      clear d0 d1
      go_wp2
      go_roundw
      case rel => exact ⟨k + 1, L', A4, c4, by omega, by go_num, rfl, hL4, hB4, ⟨H4.out.imp (Φ' := (HP.rd k59 (some ad) l).and (HP.val Kd.string (.slice A4 L'.length c4) L')) (fun Z hZ => ⟨hZ.1.1, hZ.2⟩)⟩⟩
      case measure => simp [intOf]; omega
    · go_wp2_with fail
      obtain ⟨M, hM⟩ := H.out.get 1 rfl
      refine (H.out.cnew (clone_win hM (by omega))).mono ?_
      clear hM
      rintro e w4 ⟨g', rfl, H1⟩
      replace H1 := Aside0.mk H1
      clear H
      go_wp2_with fail
      refine (H1.out.cobj 2 rfl (fun M Z hM hZ hd => same_ok hM _ _ hZ.2 hd (by omega) hB.out)).mono ?_
      rintro e w5 ⟨rfl, H2⟩
      replace H2 := Aside0.mk H2
      clear H1
      have d0 := H2.out.cell 0 rfl 0 rfl
      have d1 := H2.out.cell 0 rfl 1 rfl
      go_wp2_with fail
      refine (H2.out.cuval 2 rfl (fun M Z hM hZ hd => does_any hM _ hZ.2 hd (by omega) hB.out _ _ hx)).mono ?_
      rintro e w6 ⟨A4, c4, rfl, H3⟩
      have hB4 := Lib.hid (step_sz (most := 5) (b := x.f0) hB.out hx)
      have hL4 := step_len (b := x.f0) (x := x.f1) hL
      generalize hS : stepF 5 L x.f0 x.f1 = L' at *
      replace H3 := Aside0.mk H3
      replace hS := Lib.hid hS
      clear H2 d0 d1
      go_wp2_with fail
      refine (H3.out.cobj 2 rfl (fun M Z hM hZ hd => same_ok hM _ _ hZ.2 hd (by omega) hB4.out)).mono ?_
      rintro e w7 ⟨rfl, H4⟩
      replace H4 := Aside0.mk H4
      clear H3
      go_wp2_with fail
      refine (H4.out.cobj 1 rfl (fun M Z hM hZ hd => same_ok hM _ _ hZ.1.2 hd (by omega) hB.out)).mono ?_
      rintro e w8 ⟨rfl, H5⟩
      replace H5 := Aside0.mk H5
      clear H4
      go_wp2_with fail
      refine lives_ok.mono ?_
      rintro e wl ⟨rfl, hb⟩
      have HL := Aside0.mk (H5.out.skip hb)
      clear hb
      go_wp2
      go_ret
      exact ⟨rfl, HL.out.below⟩
end
theorem apart_walk (w : World) (A : Option Addr) (c : Nat) (l : List S59) (hl : l.length ≤ c) (hC : k59.C w A l.length l) (_hw : ∀ x ∈ l, True ∧ x.f1.size ≤ maxLen) (cs : Array Value) (x : S59) (hk : k59.K w x (Value.agg cs).cells.toList) (_hw2 : True ∧ x.f1.size ≤ maxLen) :
    Calls Try.prog 8 #[.slice A l.length c, .agg cs] w fun e w' => e = .returned (.bool true) ∧ Below w.heap.size w w' := by
  have he := k59_open hk
  obtain rfl : cs = #[.bool x.f0, .string x.f1] := by
    have : cs.toList = _ := he
    rw [← Array.toList_inj, this]
  obtain ⟨r, hr, hx⟩ := great_any l
  cases r with
  | true => exact apart_great A c l hl hC x hr
  | false =>
    by_cases hlong : 40 < x.f1.size
    · exact apart_long A c l hl hC x hr hlong
    · exact apart_small A c l hl hC x hr (hx rfl) (by omega)
end Go.Proofs.Ytpakcfbjjlmcaaa.TwinS
