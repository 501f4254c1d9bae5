/- What a deed does with a tape, and with the document's. No condition but the bounds. -/
import Derived.Test.YtpakcfbjjlmcaaaTape7
import Derived.Test.YtpakcfbjjlmcaaaTape8
import Derived.Test.YtpakcfbjjlmcaaaTapeLawPure
set_option linter.unusedVariables false
set_option linter.unusedSimpArgs false
set_option maxHeartbeats 3200000
set_option maxRecDepth 100000
namespace Go.Proofs.Ytpakcfbjjlmcaaa.Tape
open Go.RowKit Go.RK Go.TP Go.Proofs.YtpakcfbjjlmcaaaW.PrintWords
open Go.Proofs.Ytpakcfbjjlmcaaa.PAll (S142 k142 S95 k95 riffleref16_Forget.calls riffleref16_Same.calls)
variable {W : World} {M Z : Nat → Prop} {g : Nat} {width : Int} {v : Value} {X : List (List Int)}
theorem stay {v : Value} {o : Obj} {L : List (List Int)} {W1 : World} (h : (HP.blk g o).at_ W M) (hv : (HP.val KR v L).at_ W Z) (hd : ∀ k, Z k → ¬ M k) (hb : Below W.heap.size W W1) : Does W M Z (HP.val KR v L) (HP.blk g o) W1 := ((Cx.start h hv hd).skip hb).done 0 rfl
theorem forget_any {v : Value} (b : Int) (F : Nat) (h : (HP.blk g (tp v F width)).at_ W M) (hv : (HP.val KR v (X.drop F)).at_ W Z) (hd : ∀ k, Z k → ¬ M k) (hF : F ≤ X.length) (hX : X.length ≤ 10000) :
    Calls Try.prog 65 #[.pointer (some ⟨g, 0, none⟩), .int .i64 b] W fun e w' => ∃ v', e = .returned (.tuple #[]) ∧ Does W M Z (HP.val KR v' (X.drop (fgt X.length F b))) (HP.blk g (tp v' (fgt X.length F b : Nat) width)) w' := by
  have hl : ((X.drop F).length : Int) = X.length - F := by rw [List.length_drop]; omega
  by_cases hb : b ≤ F
  · have e : fgt X.length F b = F := by unfold fgt; rw [if_neg (by omega)]
    rw [e]
    refine (forget_still b h hb).mono ?_
    rintro e w' ⟨rfl, rfl⟩
    exact ⟨v, rfl, stay h hv hd (Below.refl _ _)⟩
  · obtain ⟨A, c, rfl, _⟩ := HP.val_now hv
    by_cases hc : b ≤ F + (X.drop F).length
    · have e : ((fgt X.length F b : Nat) : Int) = b := by unfold fgt; rw [if_pos (by omega)]; omega
      have e2 : X.drop (fgt X.length F b) = (X.drop F).drop (b - F).toNat := by rw [List.drop_drop]; congr 1; omega
      rw [e2, e]
      refine (forget_to b (b - F).toNat h hv hd (by omega) (by omega) (by omega) hc (Lib.hid (by omega))).mono ?_
      rintro e w' ⟨rfl, v', H⟩
      exact ⟨v', rfl, H⟩
    · have e : ((fgt X.length F b : Nat) : Int) = F + (X.drop F).length := by unfold fgt; rw [if_pos (by omega)]; omega
      have e2 : X.drop (fgt X.length F b) = (X.drop F).drop (X.drop F).length := by rw [List.drop_drop]; congr 1; omega
      rw [e2, e]
      refine (forget_all b (X.drop F).length h hv hd (by omega) (by omega) (by omega) (by omega) (Lib.hid rfl)).mono ?_
      rintro e w' ⟨rfl, v', H⟩
      exact ⟨v', rfl, H⟩
theorem set_any {v : Value} {A1 : Option Addr} {c1 : Nat} {rows : List (List Int)} (o : Int) (F : Nat) (h : (HP.blk g (tp v F width)).at_ W M) (hv : (HP.val KR v (X.drop F)).at_ W Z) (hx : (HP.val KR (.slice A1 rows.length c1) rows).at_ W Z) (hd : ∀ k, Z k → ¬ M k) (hF : F ≤ X.length) (hX : X.length ≤ 5000) (hrl : rows.length ≤ 5000) (hr0 : ∀ r ∈ X, r.length ≤ 10000) (hr1 : ∀ r ∈ rows, r.length ≤ 10000) :
    Calls Try.prog 59 #[.pointer (some ⟨g, 0, none⟩), .int .i64 o, .slice A1 rows.length c1] W fun e w' => ∃ (q : Value × Value), e = .returned (.tuple #[q.2, .int .i64 (setD F width X o rows).2.2]) ∧ Does W M Z ((HP.val KR q.1 ((setD F width X o rows).1.drop F)).and (HP.val k142 q.2 (setD F width X o rows).2.1)) (HP.blk g (tp q.1 F width)) w' := by
  have hl : ((X.drop F).length : Int) = X.length - F := by rw [List.length_drop]; omega
  obtain ⟨A, c, rfl, _⟩ := HP.val_now hv
  have hst : ∀ {w' : World}, Below W.heap.size W w' → Does W M Z ((HP.val KR (.slice A (X.drop F).length c) (X.drop F)).and (HP.val k142 (.slice none 0 0) [])) (HP.blk g (tp (.slice A (X.drop F).length c) F width)) w' := fun hb => (((Cx.start h hv hd).skip hb).imp (Φ' := (HP.val KR (.slice A (X.drop F).length c) (X.drop F)).and (HP.val k142 (.slice none 0 0) [])) (fun Z hz => ⟨hz, HP.val_nil _ _ _⟩)).done 0 rfl
  by_cases hi : (F : Int) ≤ o ∧ o ≤ X.length
  · by_cases hf : rows.all (fun r => decide ((r.length : Int) = width)) = true
    · have e : setD F width X o rows = (X.take o.toNat ++ rows, chg 0 o.toNat X (X.take o.toNat ++ rows), 0) := by unfold setD; rw [if_pos hi, if_pos hf]
      rw [e]
      have e1 : (X.take o.toNat ++ rows).drop F = (X.drop F).take (o - F).toNat ++ rows := by
        rw [List.drop_append_of_le_length (by rw [List.length_take]; omega), List.drop_take]
        congr 2
        omega
      have e2 : chg 0 o.toNat X (X.take o.toNat ++ rows) = chg o 0 ((X.drop F).drop (o - F).toNat) rows := by
        have h1 := chg_doc (X.drop o.toNat) rows (X.take o.toNat)
        rw [List.take_append_drop] at h1
        have h2 : (X.take o.toNat).length = o.toNat := by rw [List.length_take]; omega
        rw [h2] at h1
        rw [← h1, List.drop_drop, show F + (o - F).toNat = o.toNat by omega, show ((o.toNat : Nat) : Int) = o by omega]
      simp only
      rw [e1, e2]
      refine (set_ok o (o - F).toNat h hv hx hd (by omega) (by omega) (Lib.hid (by omega)) (by omega) (by omega) (fun r hr => hr0 r (List.mem_of_mem_drop hr)) hr1 hf).mono ?_
      rintro e w' ⟨v', vd, rfl, H⟩
      exact ⟨(v', vd), rfl, H⟩
    · have hf' : rows.all (fun r => decide ((r.length : Int) = width)) = false := by simpa using hf
      have e : setD F width X o rows = (X, [], 3) := by unfold setD; rw [if_pos hi, if_neg hf]
      rw [e]
      refine (set_misfit o h hx (by omega) (by omega) ⟨hi.1, by omega⟩ (by omega) hf').mono ?_
      rintro e w' ⟨rfl, hb⟩
      exact ⟨(_, _), rfl, hst hb⟩
  · have e : setD F width X o rows = (X, [], 1) := by unfold setD; rw [if_neg hi]
    rw [e]
    refine (set_off o _ h (by omega) (by omega) (fun h => hi ⟨h.1, by omega⟩)).mono ?_
    rintro e w' ⟨rfl, hb⟩
    exact ⟨(_, _), rfl, hst hb⟩
theorem ref_set_any {A A1 : Option Addr} {c c1 : Nat} {rows : List (List Int)} (o : Int) (F : Nat) (hv : (HP.val KR (.slice A X.length c) X).at_ W Z) (hx : (HP.val KR (.slice A1 rows.length c1) rows).at_ W Z) (hX : X.length ≤ 5000) (hrl : rows.length ≤ 5000) (hr0 : ∀ r ∈ X, r.length ≤ 10000) (hr1 : ∀ r ∈ rows, r.length ≤ 10000) :
    Calls Try.prog 90 #[.agg #[.slice A X.length c, .int .i64 F, .int .i64 width], .int .i64 o, .slice A1 rows.length c1] W fun e w' => ∃ v v', e = .returned (.tuple #[.agg #[v, .int .i64 F, .int .i64 width], v', .int .i64 (setD F width X o rows).2.2]) ∧ Kd.V KR 0 w' 0 (fun k => Z k ∨ W.heap.size ≤ k) v (setD F width X o rows).1 ∧ Kd.V k142 0 w' 0 (fun k => Z k ∨ W.heap.size ≤ k) v' (setD F width X o rows).2.1 ∧ Below W.heap.size W w' := by
  by_cases hi : (F : Int) ≤ o ∧ o ≤ X.length
  · by_cases hf : rows.all (fun r => decide ((r.length : Int) = width)) = true
    · have e : setD F width X o rows = (X.take o.toNat ++ rows, chg 0 o.toNat X (X.take o.toNat ++ rows), 0) := by unfold setD; rw [if_pos hi, if_pos hf]
      rw [e]
      obtain ⟨n, rfl⟩ : ∃ n : Nat, o = n := ⟨o.toNat, by omega⟩
      rw [Int.toNat_natCast]
      refine (ref_set_ok n hv hx hi.1 hi.2 (by omega) (by omega) (fun r hr => by have := hr0 r hr; omega) (fun r hr => by have := hr1 r hr; omega) hf).mono ?_
      rintro e w' ⟨v', vd, rfl, ⟨h1, h2⟩, hb⟩
      exact ⟨v', vd, rfl, h1, h2, hb⟩
    · have hf' : rows.all (fun r => decide ((r.length : Int) = width)) = false := by simpa using hf
      have e : setD F width X o rows = (X, [], 3) := by unfold setD; rw [if_pos hi, if_neg hf]
      rw [e]
      refine (ref_set_misfit o hv hx hi.1 hi.2 (by omega) hf').mono ?_
      rintro e w' ⟨rfl, hb⟩
      exact ⟨_, _, rfl, HP.move (HP.val KR _ X) hv (fun k hk hl => ⟨hb.block k hl, .inl hk⟩), HP.val_nil _ _ _, hb⟩
  · have e : setD F width X o rows = (X, [], 1) := by unfold setD; rw [if_neg hi]
    rw [e]
    refine (ref_set_off o _ hi).mono ?_
    rintro e w' ⟨rfl, hb⟩
    exact ⟨_, _, rfl, HP.move (HP.val KR _ X) hv (fun k hk hl => ⟨hb.block k hl, .inl hk⟩), HP.val_nil _ _ _, hb⟩
theorem does_forget {v : Value} {A A1 : Option Addr} {c c1 : Nat} (d : S95) (F n : Nat) (h : (HP.blk g (tp v F width)).at_ W M) (hv : (HP.val KR v (X.drop F)).at_ W Z) (hx : (HP.val KR (.slice A X.length c) X).at_ W Z) (hr : (HP.val KR (.slice A1 d.f2.length c1) d.f2).at_ W Z) (hd : ∀ k, Z k → ¬ M k) (hok : okT n width (X, F)) (hn : n ≤ 1000) (hg : good d) (hf : d.f0 = true) :
    Calls Try.prog 63 #[.pointer (some ⟨g, 0, none⟩), .agg #[.slice A X.length c, .int .i64 F, .int .i64 width], .agg #[.bool d.f0, .int .i64 d.f1, .slice A1 d.f2.length c1]] W fun e w' => ∃ (q : Value × Value), e = .returned (.tuple #[.agg #[q.2, .int .i64 (stepTD width (X, F) d).2, .int .i64 width], .bool true]) ∧ Does W M Z ((HP.val KR q.1 ((stepTD width (X, F) d).1.drop (stepTD width (X, F) d).2)).and (HP.val KR q.2 (stepTD width (X, F) d).1)) (HP.blk g (tp q.1 (stepTD width (X, F) d).2 width)) w' := by
  have hgo : Aside0 (good d) := ⟨hg⟩
  have hok0 := Aside0.mk hok
  obtain ⟨hok1, hok2, _, hok4⟩ := hok
  obtain ⟨hg1, hg2⟩ := hg
  simp only at hok1 hok2 hok4
  have hu := Try.underlying102
  have hu2 := Try.underlying95
  obtain ⟨Φ, hΦ⟩ : ∃ Φ : HP, Φ = ((HP.val KR v (X.drop F)).and (HP.val KR (.slice A X.length c) X)).and (HP.val KR (.slice A1 d.f2.length c1) d.f2) := ⟨_, rfl⟩
  have hz0 := Aside0.mk (show ∀ w Z, Φ.at_ w Z → (HP.val KR v (X.drop F)).at_ w Z from fun w Z h => by rw [hΦ] at h; exact h.1.1)
  have hz1 := Aside0.mk (show ∀ w Z, Φ.at_ w Z → (HP.val KR (.slice A X.length c) X).at_ w Z from fun w Z h => by rw [hΦ] at h; exact h.1.2)
  have hz2 := Aside0.mk (show ∀ w Z, Φ.at_ w Z → (HP.val KR (.slice A1 d.f2.length c1) d.f2).at_ w Z from fun w Z h => by rw [hΦ] at h; exact h.2)
  have H := Aside0.mk ((((Cx.start (Φ := Φ) h (by rw [hΦ]; exact ⟨⟨hv, hx⟩, hr⟩) hd).alloc (.cells #[.slice A X.length c, .int .i64 F, .int .i64 width] 102 (0, 0))).alloc1 (.cells #[.bool d.f0, .int .i64 d.f1, .slice A1 d.f2.length c1] 95 (0, 0))).alloc2 (.cells #[.slice none 0 0, .int .i64 0, .int .i64 0] 102 (0, 0)))
  replace hΦ := Lib.hid hΦ
  have k0 := H.out.cell 1 rfl 0 rfl
  have k1 := H.out.cell 1 rfl 1 rfl
  have k2 := H.out.cell 1 rfl 2 rfl
  have d0 := H.out.cell 2 rfl 0 rfl
  have d1 := H.out.cell 2 rfl 1 rfl
  have d2 := H.out.cell 2 rfl 2 rfl
  clear h hv hx hr hd
  have hst : stepTD width (X, F) d = (X, fgt X.length F d.f1) := by unfold stepTD; rw [if_pos hf]
  rw [hst, hf]
  rw [hf] at d0 H
  replace hst := Lib.hid hst
  replace hf := Lib.hid hf
  go_enter Try.func63, Try.ntmps63
  go_wp2_with fail
  refine (H.out.cuse (α := Value) (R := fun _ e => e = .returned (.tuple #[])) (Φ' := fun v' => HP.val KR v' (X.drop (fgt X.length F d.f1))) (Ψ' := fun v' => HP.blk g (tp v' (fgt X.length F d.f1 : Nat) width)) 0 rfl (fun M Z hM hZ hd => forget_any d.f1 F hM (hz0.out _ _ hZ) hd hok2 (by omega))).mono ?_
  rintro e w1 ⟨v', rfl, H1⟩
  replace H1 := Aside0.mk H1
  have p0 := H1.out.cell 1 rfl 0 rfl
  have p1 := H1.out.cell 1 rfl 1 rfl
  have p2 := H1.out.cell 1 rfl 2 rfl
  have pd := H1.out.cell 2 rfl 1 rfl
  clear k0 k1 k2 d0 d1 d2 H
  go_wp2_with fail
  refine (H1.out.cval (fun Z hZ => riffleref16_Forget.calls Z A c X F width d.f1 X (fgt X.length F d.f1 : Nat) width w1 (hz1.out _ _ hZ.1) (by
    unfold Go.Proofs.Ytpakcfbjjlmcaaa.PAll.riffleref16_Forget.f fgt
    by_cases h1 : d.f1 > F
    · rw [if_pos h1, if_pos h1]
      by_cases h2 : d.f1 > X.length
      · rw [if_pos h2, Nat.min_eq_right (by omega)]
      · rw [if_neg h2, show ((min d.f1.toNat X.length : Nat) : Int) = d.f1 by omega]
    · rw [if_neg h1, if_neg h1, if_neg (by omega)]))).mono ?_
  rintro e w2 ⟨A5, c5, rfl, H2⟩
  have r0 := H2.cell 3 rfl 0 rfl
  have r1 := H2.cell 3 rfl 1 rfl
  have r2 := H2.cell 3 rfl 2 rfl
  have qf := fun j => H2.unfrozen 3 rfl j
  replace H2 := Aside0.mk H2
  clear p0 p1 p2 pd H1
  go_wp2
  have FF := ((H2.out.put 3 rfl 0 (.slice A5 X.length c5)).put 3 rfl 1 (.int .i64 (fgt X.length F d.f1 : Nat))).put 3 rfl 2 (.int .i64 width)
  have F2 := (FF.imp (Φ' := (HP.val KR v' (X.drop (fgt X.length F d.f1))).and (HP.val KR (.slice A5 X.length c5) X)) (fun Z hz => ⟨hz.1.2, hz.2⟩)).done 0 rfl
  exact bodyPost_ret (v := .tuple #[.agg #[.slice A5 X.length c5, .int .i64 (fgt X.length F d.f1 : Nat), .int .i64 width], .bool true]) (by simp [results, Try.results63, go_sem, FF.cell 3 rfl 0 rfl, FF.cell 3 rfl 1 rfl, FF.cell 3 rfl 2 rfl]) rfl ⟨(v', .slice A5 X.length c5), rfl, F2⟩
theorem does_set {v : Value} {A A1 : Option Addr} {c c1 : Nat} (d : S95) (F n : Nat) (h : (HP.blk g (tp v F width)).at_ W M) (hv : (HP.val KR v (X.drop F)).at_ W Z) (hx : (HP.val KR (.slice A X.length c) X).at_ W Z) (hr : (HP.val KR (.slice A1 d.f2.length c1) d.f2).at_ W Z) (hd : ∀ k, Z k → ¬ M k) (hok : okT n width (X, F)) (hn : n ≤ 1000) (hg : good d) (hf : d.f0 = false) :
    Calls Try.prog 63 #[.pointer (some ⟨g, 0, none⟩), .agg #[.slice A X.length c, .int .i64 F, .int .i64 width], .agg #[.bool d.f0, .int .i64 d.f1, .slice A1 d.f2.length c1]] W fun e w' => ∃ (q : Value × Value), e = .returned (.tuple #[.agg #[q.2, .int .i64 (stepTD width (X, F) d).2, .int .i64 width], .bool true]) ∧ Does W M Z ((HP.val KR q.1 ((stepTD width (X, F) d).1.drop (stepTD width (X, F) d).2)).and (HP.val KR q.2 (stepTD width (X, F) d).1)) (HP.blk g (tp q.1 (stepTD width (X, F) d).2 width)) w' := by
  have hgo : Aside0 (good d) := ⟨hg⟩
  have hok0 := Aside0.mk hok
  obtain ⟨hok1, hok2, _, hok4⟩ := hok
  obtain ⟨hg1, hg2⟩ := hg
  simp only at hok1 hok2 hok4
  have hu := Try.underlying102
  have hu2 := Try.underlying95
  obtain ⟨Φ, hΦ⟩ : ∃ Φ : HP, Φ = ((HP.val KR v (X.drop F)).and (HP.val KR (.slice A X.length c) X)).and (HP.val KR (.slice A1 d.f2.length c1) d.f2) := ⟨_, rfl⟩
  have hz0 := Aside0.mk (show ∀ w Z, Φ.at_ w Z → (HP.val KR v (X.drop F)).at_ w Z from fun w Z h => by rw [hΦ] at h; exact h.1.1)
  have hz1 := Aside0.mk (show ∀ w Z, Φ.at_ w Z → (HP.val KR (.slice A X.length c) X).at_ w Z from fun w Z h => by rw [hΦ] at h; exact h.1.2)
  have hz2 := Aside0.mk (show ∀ w Z, Φ.at_ w Z → (HP.val KR (.slice A1 d.f2.length c1) d.f2).at_ w Z from fun w Z h => by rw [hΦ] at h; exact h.2)
  have H := Aside0.mk ((((Cx.start (Φ := Φ) h (by rw [hΦ]; exact ⟨⟨hv, hx⟩, hr⟩) hd).alloc (.cells #[.slice A X.length c, .int .i64 F, .int .i64 width] 102 (0, 0))).alloc1 (.cells #[.bool d.f0, .int .i64 d.f1, .slice A1 d.f2.length c1] 95 (0, 0))).alloc2 (.cells #[.slice none 0 0, .int .i64 0, .int .i64 0] 102 (0, 0)))
  replace hΦ := Lib.hid hΦ
  have k0 := H.out.cell 1 rfl 0 rfl
  have k1 := H.out.cell 1 rfl 1 rfl
  have k2 := H.out.cell 1 rfl 2 rfl
  have d0 := H.out.cell 2 rfl 0 rfl
  have d1 := H.out.cell 2 rfl 1 rfl
  have d2 := H.out.cell 2 rfl 2 rfl
  clear h hv hx hr hd
  have hr0 : ∀ r ∈ X, r.length ≤ 10000 := fun r hr => by have := hok4 r hr; omega
  have hr1 : ∀ r ∈ d.f2, r.length ≤ 10000 := fun r hr => by have := hg2 r hr; omega
  have hst : stepTD width (X, F) d = ((setD F width X d.f1 d.f2).1, F) := by unfold stepTD; rw [if_neg (by rw [hf]; decide)]
  have hdl : (setD F width X d.f1 d.f2).2.1.length ≤ 1000000 ∧ ∀ x ∈ (setD F width X d.f1 d.f2).2.1, x.f2.length ≤ 1000000 := by
    unfold setD
    split
    · split
      · have h1 := chg_le 0 d.f1.toNat X (X.take d.f1.toNat ++ d.f2)
        rw [List.length_append, List.length_take] at h1
        refine ⟨by simp only; omega, chg_rows (B := 1000000) _ _ _ _ (fun r hr => ?_)⟩
        rcases List.mem_append.1 hr with h | h
        · have := hr0 r (List.mem_of_mem_take h); omega
        · have := hr1 r h; omega
      · simp
    · simp
  rw [hst, hf]
  rw [hf] at d0 H
  generalize hS : setD F width X d.f1 d.f2 = S at *
  obtain ⟨X', del, code⟩ := S
  simp only at hdl ⊢
  have hsame := same_pure del hdl.1 hdl.2
  have hdl1 := hdl.1
  replace hsame := Lib.hid hsame
  replace hdl := Lib.hid hdl
  replace hst := Lib.hid hst
  replace hf := Lib.hid hf
  replace hS := Lib.hid hS
  replace hr0 := Lib.hid hr0
  replace hr1 := Lib.hid hr1
  replace hg2 := Lib.hid hg2
  replace hok4 := Lib.hid hok4
  have hcc : (code == code) = true := beq_self_eq_true _
  go_enter Try.func63, Try.ntmps63
  go_wp2_with fail
  refine (H.out.cuse (α := Value × Value) (R := fun q e => e = .returned (.tuple #[q.2, .int .i64 code])) (Φ' := fun q => (HP.val KR q.1 (X'.drop F)).and (HP.val k142 q.2 del)) (Ψ' := fun q => HP.blk g (tp q.1 F width)) 0 rfl (fun M Z hM hZ hd => (set_any d.f1 F hM (hz0.out _ _ hZ) (hz2.out _ _ hZ) hd hok2 (by omega) (by omega) hr0.out hr1.out).mono (fun e w' ⟨q, h1, h2⟩ => ⟨q, by rw [h1, hS.out], by rw [hS.out] at h2; exact h2⟩))).mono ?_
  rintro e w1 ⟨⟨v', vd⟩, rfl, H1⟩
  obtain ⟨A3, c3, rfl, _⟩ := HP.val_now (H1.now.choose_spec).2.2
  replace H1 := Aside0.mk H1
  have p0 := H1.out.cell 1 rfl 0 rfl
  have p1 := H1.out.cell 1 rfl 1 rfl
  have p2 := H1.out.cell 1 rfl 2 rfl
  have pd := H1.out.cell 2 rfl 1 rfl
  have pe := H1.out.cell 2 rfl 2 rfl
  clear k0 k1 k2 d0 d1 d2 H
  go_wp2_with fail
  refine (H1.out.cval2 (fun Z hZ => (ref_set_any d.f1 F (hz1.out _ _ hZ.1) (hz2.out _ _ hZ.1) (by omega) (by omega) hr0.out hr1.out).mono (fun e w' ⟨v, v', h1, h2, h3, h4⟩ => ⟨v, v', by rw [hS.out] at h1; exact h1, by rw [hS.out] at h2; exact h2, by rw [hS.out] at h3; exact h3, h4⟩))).mono ?_
  rintro e w2 ⟨A5, c5, A6, c6, rfl, H2⟩
  replace H2 := Aside0.mk H2
  clear p0 p1 p2 pd pe H1
  have H3 := Aside0.mk (H2.out.alloc (.cells #[.slice A5 X'.length c5, .int .i64 F, .int .i64 width] 102 (0, 0)))
  clear H2
  go_wp2
  go_region_held3 (fun w' => w'.cell? ⟨w2.heap.size, 0, none⟩ = some (.slice A5 X'.length c5) ∧ w'.cell? ⟨w2.heap.size, 1, none⟩ = some (.int .i64 F) ∧ w'.cell? ⟨w2.heap.size, 2, none⟩ = some (.int .i64 width))
    (first | exact ⟨H3.out.cell 4 rfl 0 rfl, H3.out.cell 4 rfl 1 rfl, H3.out.cell 4 rfl 2 rfl⟩ | exact ⟨(((H3.out.put 3 rfl 0 _).put 3 rfl 1 _).put 3 rfl 2 _).cell 4 rfl 0 rfl, (((H3.out.put 3 rfl 0 _).put 3 rfl 1 _).put 3 rfl 2 _).cell 4 rfl 1 rfl, (((H3.out.put 3 rfl 0 _).put 3 rfl 1 _).put 3 rfl 2 _).cell 4 rfl 2 rfl⟩)
    (first | (go_at_call 91; refine (H3.out.drew.cskip (fun Z hZ => riffleref16_Same.calls 3000000 A3 c3 del A6 c6 del true _ (HP.val_C hZ.1.1.2.2) (HP.val_le hZ.1.1.2.2) (HP.val_C hZ.2) (HP.val_le hZ.2) hsame.out)).mono ?_; rintro e Wh ⟨rfl, H4⟩; replace H3 := Aside0.mk H4; clear H4; have k0 := H3.out.cell 3 rfl 0 rfl; have k1 := H3.out.cell 3 rfl 1 rfl; have k2 := H3.out.cell 3 rfl 2 rfl; have kf := fun j => H3.out.unfrozen 3 rfl j))
  have HF := Aside0.mk (((H3.out.put 3 rfl 0 (.slice A5 X'.length c5)).put 3 rfl 1 (.int .i64 F)).put 3 rfl 2 (.int .i64 width))
  clear H3 k0 k1 k2 kf
  generalize World.setCell (World.setCell (World.setCell Wh _ _) _ _) _ _ = WF at *
  have r0 := HF.out.cell 3 rfl 0 rfl
  have r1 := HF.out.cell 3 rfl 1 rfl
  have r2 := HF.out.cell 3 rfl 2 rfl
  go_wp2
  exact bodyPost_ret (v := .tuple #[.agg #[.slice A5 X'.length c5, .int .i64 F, .int .i64 width], .bool true]) (by simp [results, Try.results63, go_sem, r0, r1, r2]) rfl ⟨(v', .slice A5 X'.length c5), rfl, (HF.out.imp (Φ' := (HP.val KR v' (X'.drop F)).and (HP.val KR (.slice A5 X'.length c5) X')) (fun Z hz => ⟨hz.1.1.2.1, hz.1.2⟩)).done 0 rfl⟩
end Go.Proofs.Ytpakcfbjjlmcaaa.Tape
