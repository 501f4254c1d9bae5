/- TapeFolds, walked. No condition but that the arguments read. -/
import Derived.Test.YtpakcfbjjlmcaaaTapeFold2
set_option linter.unusedVariables false
set_option linter.unusedSimpArgs false
set_option maxHeartbeats 3200000
set_option maxRecDepth 100000
namespace Go.Proofs.Ytpakcfbjjlmcaaa.Tape
open Go.RowKit Go.RK Go.TP Go.Proofs.YtpakcfbjjlmcaaaW.PrintWords Go.Proofs.Ytpakcfbjjlmcaaa.PAll
variable {W : World} {M Z : Nat → Prop} {g : Nat} {width : Int} {v : Value} {X : List (List Int)}
theorem set_zero {v : Value} {A1 : Option Addr} {c1 : Nat} {rows : List (List Int)} (o : Int) (Y : List (List Int)) (del : List S142) (code : Int) (h : (HP.blk g (tp v 0 width)).at_ W M) (hv : (HP.val KR v X).at_ W Z) (hx : (HP.val KR (.slice A1 rows.length c1) rows).at_ W Z) (hd : ∀ k, Z k → ¬ M k) (hX : X.length ≤ 5000) (hrl : rows.length ≤ 5000) (hr0 : ∀ r ∈ X, r.length ≤ 10000) (hr1 : ∀ r ∈ rows, r.length ≤ 10000) (he : setD 0 width X o rows = (Y, del, code)) :
    Calls Try.prog 59 #[.pointer (some ⟨g, 0, none⟩), .int .i64 o, .slice A1 rows.length c1] W fun e w' => ∃ (q : Value × Option Addr × Nat), e = .returned (.tuple #[.slice q.2.1 del.length q.2.2, .int .i64 code]) ∧ Does W M Z ((HP.val KR q.1 Y).and (HP.val k142 (.slice q.2.1 del.length q.2.2) del)) (HP.blk g (tp q.1 0 width)) w' := by
  have h := set_any (X := X) (width := width) o 0 h hv hx hd (by omega) hX hrl hr0 hr1
  rw [he] at h
  refine h.mono ?_
  rintro e w' ⟨⟨v', vx⟩, rfl, H⟩
  obtain ⟨_, M1, hM, hΦ, _⟩ := id H
  obtain ⟨A4, c4, rfl, _⟩ := HP.val_now hΦ.2
  exact ⟨(v', A4, c4), rfl, H⟩
theorem setD_again (Y : List (List Int)) (o : Int) (h0 : 0 ≤ o) (h1 : o ≤ Y.length) (h : ∀ r ∈ Y, (r.length : Int) = width) : setD 0 width Y o (Y.drop o.toNat) = (Y, [], 0) := by
  unfold setD
  rw [if_pos ⟨by omega, h1⟩, if_pos (List.all_eq_true.2 (fun r hr => by simpa using h r (List.mem_of_mem_drop hr))), List.take_append_drop, chg_none]
theorem folds_great (A : Option Addr) (c : Nat) (l : List SD) (hl : l.length ≤ c) (hC : KD.C W A l.length l) (hg : rifflelaw16_Great.f 2000 l = some true) :
    Calls Try.prog 12 #[.slice A l.length c] W fun e w' => e = .returned (.bool true) ∧ Below W.heap.size W w' := by
  have H0 := Aside0.mk (Cx.start0 (Φ := HP.rd KD A l) (Kd.C_F heapD hC))
  replace hg := Aside0.mk hg
  clear hC
  go_enter Try.func12, Try.ntmps12
  go_wp2_with fail
  refine (H0.out.cskip (fun Z hZ => Cx.toBelow (rifflelaw16_Great.calls 2000 A c l true _ (HP.rd_now hZ) hl hg.out))).mono ?_
  rintro e w1 ⟨rfl, H1⟩
  replace H1 := Aside0.mk H1
  clear H0
  go_wp2_with fail
  refine lives_true.mono ?_
  rintro e wl ⟨rfl, hb⟩
  have HL := Aside0.mk (H1.out.skip hb)
  clear hb
  go_wp2
  go_ret
  exact ⟨rfl, HL.out.below⟩
theorem folds_small (A : Option Addr) (c : Nat) (l : List SD) (hl : l.length ≤ c) (hC : KD.C W A l.length l) (hg : rifflelaw16_Great.f 2000 l = some false) (hs : l.length ≤ 40 ∧ ∀ d ∈ l, good d) :
    Calls Try.prog 12 #[.slice A l.length c] W fun e w' => e = .returned (.bool true) ∧ Below W.heap.size W w' := by
  have hlen := hs.1
  have hgood := Lib.hid hs.2
  clear hs
  have H0 := Aside0.mk (Cx.start0 (Φ := HP.rd KD A l) (Kd.C_F heapD hC))
  replace hg := Aside0.mk hg
  clear hC
  go_enter Try.func12, Try.ntmps12
  go_wp2_with fail
  refine (H0.out.cskip (fun Z hZ => Cx.toBelow (rifflelaw16_Great.calls 2000 A c l false _ (HP.rd_now hZ) hl hg.out))).mono ?_
  rintro e w1 ⟨rfl, H1⟩
  replace H1 := Aside0.mk H1
  clear H0
  go_wp2_with fail
  refine (H1.out.cnew (α := Nat) (R := fun g e => e = .returned (.tuple #[.pointer (some ⟨g, 0, none⟩), .int .i64 0])) (Ψ' := fun g => HP.blk g (tp (.slice none 0 0) 0 1)) (new_made 1 (by omega) (by omega))).mono ?_
  rintro e w3 ⟨g, rfl, H3⟩
  replace H3 := Aside0.mk H3
  clear H1
  go_wp2
  go_loopw [5, 32] (fun v5 i wr => ∃ (k : Nat) (X : List (List Int)) (v : Value) (A1 : Option Addr) (c1 : Nat), k ≤ l.length ∧ i = .int .i64 k ∧ v5 = .slice A1 X.length c1 ∧ Hid (okT (20 * k) 1 (X, 0)) ∧ Aside0 (Cx (fun _ => False) (fun k => k < W.heap.size) W wr ((HP.rd KD A l).and ((HP.val KR v X).and (HP.val KR (.slice A1 X.length c1) X))) [HP.blk g (tp v 0 1)])) (fun _ i _ => l.length - (intOf i).toNat)
  case atStart => exact ⟨0, [], .slice none 0 0, none, 0, by omega, rfl, rfl, Lib.hid (okT_nil _), ⟨H3.out.imp (fun Z hZ => ⟨hZ, HP.val_nil _ _ _, HP.val_nil _ _ _⟩)⟩⟩
  case round =>
    clear H3
    obtain ⟨k, X, v, A1, c1, hk, rfl, rfl, hok, H⟩ := hrel
    by_cases hlt : k < l.length
    · obtain ⟨⟨ad, A2, c2, x⟩, ⟨rfl, hx, d0, d1, d2⟩, H1⟩ := H.out.more (fun Z hZ => deed_at hZ.1 k hlt)
      simp only at hx d0 d1 d2 H1
      have hgx := Lib.hid (hgood.out x hx)
      replace H1 := Aside0.mk (H1.alloc (.cells #[.bool x.f0, .int .i64 x.f1, .slice A2 x.f2.length c2] 95 (0, 0)))
      clear H hx
      have e1 := H1.out.cell 1 rfl 1 rfl
      have e2 := H1.out.cell 1 rfl 2 rfl
      have hXl : X.length ≤ 800 := by have := hok.out.1; simp only at this; omega
      have hXr : ∀ r ∈ X, r.length ≤ 10000 := fun r hr => by have := hok.out.2.2.2 r hr; omega
      have hxr : ∀ r ∈ x.f2, r.length ≤ 10000 := fun r hr => by have := hgx.out.2 r hr; omega
      have hxl : x.f2.length ≤ 20 := hgx.out.1
      replace hXr := Lib.hid hXr
      replace hxr := Lib.hid hxr
      have hokS := Lib.hid (okT_set hok.out x.f1 x.f2 hgx.out.1 hgx.out.2)
      obtain ⟨Y, del, code, hS⟩ : ∃ Y del code, setD 0 1 X x.f1 x.f2 = (Y, del, code) := ⟨_, _, _, rfl⟩
      rw [show (setD 0 1 X x.f1 x.f2).1 = Y by rw [hS]] at hokS
      have hS' := Lib.hid hS
      go_wp2_with fail
      refine (H1.out.cuse (α := Value × Option Addr × Nat) (R := fun q e => e = .returned (.tuple #[.slice q.2.1 del.length q.2.2, .int .i64 code])) (Φ' := fun q => (HP.val KR q.1 Y).and (HP.val k142 (.slice q.2.1 del.length q.2.2) del)) (Ψ' := fun q => HP.blk g (tp q.1 0 1)) 0 rfl (fun M Z hM hZ hd => set_zero x.f1 Y del code hM hZ.1.2.1 hZ.2 hd (by omega) (by omega) hXr.out hxr.out hS'.out)).mono ?_
      rintro e w4 ⟨⟨v4, A4, c4⟩, rfl, H4⟩
      replace H4 := Aside0.mk H4
      clear H1 d0 d1 d2 e1 e2
      unfold setD at hS
      by_cases hin : ((0 : Nat) : Int) ≤ x.f1 ∧ x.f1 ≤ X.length
      · rw [if_pos hin] at hS
        by_cases hall : x.f2.all (fun r => decide ((r.length : Int) = 1)) = true
        · rw [if_pos hall] at hS
          injection hS with h1 hS
          injection hS with h2 h3
          subst h3
          have hi1 := hin.1
          have hi2 := hin.2
          have hYl : x.f1 ≤ Y.length := by rw [← h1, List.length_append, List.length_take]; omega
          have hfold : foldD X del = some Y := by rw [← h2, ← h1]; exact fold_chg X _ x.f1.toNat (by omega) (by rw [List.length_append, List.length_take]; omega) (by rw [List.take_append_of_le_length (by rw [List.length_take]; omega), List.take_take, Nat.min_self])
          have hdl : del.length ≤ 100000 := by rw [← h2]; have := chg_le 0 x.f1.toNat X (X.take x.f1.toNat ++ x.f2); rw [List.length_append, List.length_take] at this; omega
          have hdv : ∀ d ∈ del, d.f2.length ≤ 100000 := by
            rw [← h2]
            refine chg_rows (B := 100000) _ _ _ _ (fun r hr => ?_)
            rcases List.mem_append.1 hr with h | h
            · have := hXr.out r (List.mem_of_mem_take h); omega
            · have := hxr.out r h; omega
          have hYl2 : Y.length ≤ 900 := by rw [← h1, List.length_append, List.length_take]; omega
          have hYr : ∀ r ∈ Y, r.length ≤ 10000 := fun r hr => by have := hokS.out.2.2.2 r hr; omega
          have hYw : ∀ r ∈ Y, (r.length : Int) = 1 := hokS.out.2.2.1
          replace h1 := Lib.hid h1
          replace h2 := Lib.hid h2
          replace hfold := Lib.hid hfold
          replace hdv := Lib.hid hdv
          replace hYr := Lib.hid hYr
          replace hYw := Lib.hid hYw
          replace hall := Lib.hid hall
          clear hin
          go_wp2_with fail
          refine (H4.out.cvalh (R := fun v e => e = .returned (.tuple #[v, .bool true])) (fun Z hZ => fold_ok hZ.1.1.2.2 hZ.2.2 (by omega) hdl hdv.out hfold.out)).mono ?_
          rintro e w5 ⟨A5, c5, rfl, H5⟩
          replace H5 := Aside0.mk (H5.imp (Φ' := (HP.rd KD (some ad) l).and ((HP.val KR v4 Y).and (HP.val KR (.slice A5 Y.length c5) Y))) (fun Z hZ => ⟨hZ.1.1.1.1, hZ.1.2.1, hZ.2⟩))
          clear H4
          have e1 := H5.out.cell 1 rfl 1 rfl
          have hend : ¬ (Y.length : Int) < x.f1 := by omega
          go_wp2_with fail
          obtain ⟨Z9, hZ9⟩ := H5.out.now
          refine (H5.out.cread 0 rfl (fun M hM => end_any (X := Y) 0 hM hZ9.2.1 (by omega) (by omega))).mono ?_
          rintro e w6 ⟨rfl, H6⟩
          replace H6 := Aside0.mk H6
          clear H5 hZ9 e1
          have e1 := H6.out.cell 1 rfl 1 rfl
          have hff : ((Y.length : Int) == Y.length) = true := beq_self_eq_true _
          go_wp2
          obtain ⟨b9, hb9⟩ : ∃ b, b = wr.heap.size := ⟨_, rfl⟩
          have H6' : Aside0 (Cx (fun _ => False) (fun k => k < W.heap.size) W w6 ((HP.rd KD (some ad) l).and ((HP.val KR v4 Y).and (HP.val KR (.slice A5 Y.length c5) Y))) [HP.blk g (tp v4 0 1), HP.blk b9 (.cells #[.bool x.f0, .int .i64 x.f1, .slice A2 x.f2.length c2] 95 (0, 0))]) := ⟨by rw [hb9]; exact H6.out⟩
          rw [← hb9] at *
          go_loopw [12] (fun i wq => ∃ j : Nat, j ≤ Y.length ∧ i = .int .i64 j ∧ Aside0 (Cx (fun _ => False) (fun k => k < W.heap.size) W wq ((HP.rd KD (some ad) l).and ((HP.val KR v4 Y).and (HP.val KR (.slice A5 Y.length c5) Y))) [HP.blk g (tp v4 0 1), HP.blk b9 (.cells #[.bool x.f0, .int .i64 x.f1, .slice A2 x.f2.length c2] 95 (0, 0))])) (fun i _ => Y.length - (intOf i).toNat)
          case atStart => exact ⟨0, by omega, rfl, H6'⟩
          case round =>
            clear H6 H6' e1
            obtain ⟨j, hj, rfl, H⟩ := hrel
            by_cases hlt : j < Y.length
            · obtain ⟨y, hy⟩ : ∃ r, Y[j]? = some r := ⟨_, List.getElem?_eq_getElem (by omega)⟩
              have hyl : y.length ≤ 10000 := hYr.out y (List.mem_of_getElem? hy)
              have hgd : Hid (y = if true then Y.getD ((j : Int)).toNat [] else []) := Lib.hid (by rw [if_pos rfl, Int.toNat_natCast, List.getD_eq_getElem?_getD, hy]; rfl)
              have hj0 : (0 : Int) ≤ j := by omega
              have hj3 : (j : Int) < Y.length := by omega
              go_wp2_with fail
              obtain ⟨M9, hM9⟩ := H.out.get 0 rfl
              refine (H.out.cvalh (R := fun v e => e = .returned (.tuple #[v, .bool true])) (fun Z hZ => row_any (X := Y) j 0 y true hM9 hZ.2.1 (by omega) (by omega) hYr.out (by simp; omega) hgd.out)).mono ?_
              rintro e w2 ⟨A7, c7, rfl, H2⟩
              obtain ⟨ad1, B1, d1, rfl, q1, hd1, hv1⟩ := row_len (HP.val_rd H2.now.choose_spec.1.2.2) hy
              replace H2 := Aside0.mk H2
              replace hy := Lib.hid hy
              have hv1' := Aside0.mk hv1
              clear H hM9 hv1
              go_wp2_with fail
              refine (H2.out.cskip (fun Z hZ => nums_same _ _ _ _ _ (by omega) hZ.2 hv1'.out)).mono ?_
              rintro e w3 ⟨rfl, H3⟩
              replace H3 := Aside0.mk H3
              clear H2 q1 hv1'
              go_wp2
              go_roundw
              case rel => exact ⟨j + 1, by omega, by go_num, ⟨H3.out.fst⟩⟩
              case measure => simp [intOf]; omega
            · have hj3 : ¬ (j : Int) < Y.length := by omega
              obtain ⟨A8, hcut, hval⟩ := cut_drop (P := Try.prog) (d := KR) 38 22 Try.underlying38 (info_parts infoR).choose_spec.1 (info_parts infoR).choose_spec.2.2.1 A5 c5 Y x.f1 hi1 hYl (HP.val_le H.out.now.choose_spec.2.2)
              have hag := Lib.hid (setD_again (width := 1) Y x.f1 hi1 hYl hYw.out)
              have hDr : Hid (∀ r ∈ Y.drop x.f1.toNat, r.length ≤ 10000) := Lib.hid (fun r hr => hYr.out r (List.mem_of_mem_drop hr))
              have hDl : (Y.drop x.f1.toNat).length ≤ 900 := by rw [List.length_drop]; omega
              generalize hD : Y.drop x.f1.toNat = D at *
              replace hD := Lib.hid hD
              have hval0 := Aside0.mk hval
              have H0 := Aside0.mk (H.out.imp (Φ' := ((HP.rd KD (some ad) l).and ((HP.val KR v4 Y).and (HP.val KR (.slice A5 Y.length c5) Y))).and (HP.val KR (.slice A8 D.length (c5 - x.f1.toNat)) D)) (fun Z hZ => ⟨hZ, hval0.out _ _ hZ.2.2⟩))
              have e1 := H.out.cell 1 rfl 1 rfl
              clear hval H
              go_wp2
              go_region_held3 (fun w' => w'.cell? ⟨b9, 1, none⟩ = some (.int .i64 x.f1))
                (first | exact e1 | exact H0.out.cell 1 rfl 1 rfl)
                (first | (go_at_call 59; refine (H0.out.drew.cuse (α := Value × Option Addr × Nat) (R := fun q e => e = .returned (.tuple #[.slice q.2.1 0 q.2.2, .int .i64 0])) (Φ' := fun q => (HP.val KR q.1 Y).and (HP.val k142 (.slice q.2.1 0 q.2.2) [])) (Ψ' := fun q => HP.blk g (tp q.1 0 1)) 0 rfl (fun M Z hM hZ hd => set_zero x.f1 Y [] 0 hM hZ.1.2.1 hZ.2 hd (by omega) (by omega) hYr.out hDr.out hag.out)).mono ?_; rintro e Wh ⟨⟨v9, A9, c9⟩, rfl, H4⟩; replace H0 := Aside0.mk H4; clear H4))
              rename_i hHeld
              clear hHeld e1
              go_wp2
              go_roundw
              case rel => exact ⟨k + 1, Y, v9, A5, c5, by omega, by go_num, rfl, Lib.hid hokS.out, ⟨(H0.out.imp (Φ' := (HP.rd KD (some ad) l).and ((HP.val KR v9 Y).and (HP.val KR (.slice A5 Y.length c5) Y))) (fun Z hZ => ⟨hZ.1.1.1, hZ.2.1, hZ.1.1.2.2⟩)).take 1⟩⟩
              case measure => simp [intOf]; omega
        · rw [if_neg hall] at hS
          injection hS with h1 hS
          injection hS with h2 h3
          subst h1 h2 h3
          go_wp2
          go_roundw
          case rel => exact ⟨k + 1, X, v4, A1, c1, by omega, by go_num, rfl, Lib.hid hokS.out, ⟨(H4.out.imp (Φ' := (HP.rd KD (some ad) l).and ((HP.val KR v4 X).and (HP.val KR (.slice A1 X.length c1) X))) (fun Z hZ => ⟨hZ.1.1.1, hZ.2.1, hZ.1.1.2.2⟩)).take 1⟩⟩
          case measure => simp [intOf]; omega
      · rw [if_neg hin] at hS
        injection hS with h1 hS
        injection hS with h2 h3
        subst h1 h2 h3
        go_wp2
        go_roundw
        case rel => exact ⟨k + 1, X, v4, A1, c1, by omega, by go_num, rfl, Lib.hid hokS.out, ⟨(H4.out.imp (Φ' := (HP.rd KD (some ad) l).and ((HP.val KR v4 X).and (HP.val KR (.slice A1 X.length c1) X))) (fun Z hZ => ⟨hZ.1.1.1, hZ.2.1, hZ.1.1.2.2⟩)).take 1⟩⟩
        case measure => simp [intOf]; omega
    · go_wp2_with fail
      refine lives_true.mono ?_
      rintro e wl ⟨rfl, hb⟩
      have HL := Aside0.mk (H.out.skip hb)
      clear hb
      go_wp2
      go_ret
      exact ⟨rfl, HL.out.below⟩
theorem folds_walk (w : World) (A : Option Addr) (c : Nat) (l : List SD) (hl : l.length ≤ c) (hC : KD.C w A l.length l) (_hw : ∀ x ∈ l, True ∧ I64wf x.f1 ∧ ∀ y ∈ x.f2, ∀ z ∈ y, I64wf z) :
    Calls Try.prog 12 #[.slice A l.length c] w fun e w' => e = .returned (.bool true) ∧ Below w.heap.size w w' := by
  obtain ⟨r, hr, hx⟩ := great_any l
  cases r with
  | true => exact folds_great A c l hl hC hr
  | false => exact folds_small A c l hl hC hr (hx rfl)
end Go.Proofs.Ytpakcfbjjlmcaaa.Tape
