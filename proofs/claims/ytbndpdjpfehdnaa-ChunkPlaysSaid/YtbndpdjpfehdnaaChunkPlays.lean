/- ChunkPlays, walked. No condition but that the arguments read. -/
import Derived.Test.YtbndpdjpfehdnaaChunkApart
set_option linter.unusedVariables false
set_option linter.unusedSimpArgs false
set_option maxHeartbeats 1600000
set_option maxRecDepth 100000
namespace Go.Proofs.Ytbndpdjpfehdnaa.Chunk
open Go.RowKit Go.RK Go.Proofs.YtbndpdjpfehdnaaW.PrintWords Go.Proofs.Ytbndpdjpfehdnaa.PAll
variable {W : World} {M Z : Nat → Prop} {g : Nat} {v : Value} {cur b : List Int} {came : Int}
theorem eq_line34 (d : Nat) (w : World) (x0 y0 : ByteArray) (x1 y1 : Bool) : (Op.equalIn (d + 2) 34 (.agg #[.string x0, .bool x1]) (.agg #[.string y0, .bool y1])).run Try.prog w = .ok (x0.toList == y0.toList && (x1 == y1)) w := by
  refine eqA_of Try.underlying34 (by kernel_rfl) ?_
  refine eqf_cons (by rfl) (by go_simp; rfl) (by go_simp; rfl) (by go_simp) ?_
  exact eqf_last (by rfl) (by go_simp; rfl) (by go_simp; rfl) (by go_simp)
theorem eq_same34 (w : World) (x0 : ByteArray) (x1 : Bool) : (Op.equalIn 10000 34 (.agg #[.string x0, .bool x1]) (.agg #[.string x0, .bool x1])).run Try.prog w = .ok true w := by
  have h := eq_line34 9998 w x0 x0 x1 x1
  rw [beq_self_eq_true, beq_self_eq_true] at h
  exact h
abbrev kS : Kd SL := k34
theorem sl_at {A : Option Addr} {xs : List SL} (h : (HP.rd kS A xs).at_ W M) (k : Nat) {x : SL} (hx : xs[k]? = some x) : ∃ ad, A = some ad ∧ W.cell? (ad.add (k * 2)) = some (.string x.f0) ∧ W.cell? ⟨(ad.add (k * 2)).block, (ad.add (k * 2)).off + 1, none⟩ = some (.bool x.f1) := by
  obtain ⟨ad, cs, e, hK, hc⟩ := HP.rd_get h k hx
  have hcs := k34_open (HP.foot_now hK)
  subst hcs
  refine ⟨ad, e, hc 0 _ rfl, ?_⟩
  rw [← add_field _ _ 1 (by omega)]; exact hc 1 _ rfl
theorem lines_row (t : List Int) (F : List Int) (AL : List SL) (hA : Hid (((feed [] t).1.map lineV).map toL = AL)) (hF : Hid ((feed [] t).2 = F)) (hb : ∀ x ∈ t, 0 ≤ x ∧ x < 256) (hl : t.length ≤ 1000000) :
    Calls Try.prog 10 #[.string (strOfNums t)] W fun e w' => ∃ v, e = .returned (.tuple #[v, .string (strOfNums F)]) ∧ (HP.val kS v AL).at_ w' (fun k => Z k ∨ W.heap.size ≤ k) ∧ Below W.heap.size W w' := by
  have h := lines_eq t hb hl
  rw [hF.out, hA.out] at h
  refine (riffleref34_Lines.calls 2000000 (strOfNums t) _ _ W h).mono ?_
  rintro e w' ⟨v, rfl, hR, hB⟩
  exact ⟨v, rfl, V_of_R (e' := 0) (base' := 0) hR (fun k hk => .inr hk), hB⟩
theorem last_eq (cur : List Int) : riffleref34_Last.f (strOfNums cur) = some ((lineV cur).1, (lineV cur).2, !cur.isEmpty) := by
  unfold riffleref34_Last.f
  rcases cur with _ | ⟨x, xs⟩
  · rw [if_pos (by rw [ByteArray.toList_eq]; rfl)]; rfl
  · have hne : ¬ ((strOfNums (x :: xs)).toList = []) := by
      intro h
      rw [ByteArray.toList_eq] at h
      simp [strOfNums] at h
    rw [if_neg hne, line_eq]
    rfl
theorem plays_great (A : Option Addr) (c : Nat) (l : List (List Int)) (hl : l.length ≤ c) (hC : K88.C W A l.length l) (hg : rifflelaw34_Great.f 100 l = some true) :
    Calls Try.prog 3 #[.slice A l.length c] W fun e w' => e = .returned (.bool true) ∧ Below W.heap.size W w' := by
  have H0 := Aside0.mk (Cx.start0 (Φ := HP.rd K88 A l) (Kd.C_F heap88 hC))
  replace hg := Aside0.mk hg
  clear hC
  go_enter Try.func3, Try.ntmps3
  go_wp2_with fail
  refine (H0.out.cskip (fun Z hZ => Cx.toBelow (rifflelaw34_Great.calls 100 A c l true _ (HP.rd_now hZ) hl hg.out))).mono ?_
  rintro e w3 ⟨rfl, H3⟩
  replace H3 := Aside0.mk H3
  clear H0
  go_wp2_with fail
  refine lives_true.mono ?_
  rintro e wl ⟨rfl, hb⟩
  have HL := Aside0.mk (H3.out.skip hb)
  clear hb
  go_wp2
  go_ret
  exact ⟨rfl, HL.out.below⟩
theorem plays_small (A : Option Addr) (c : Nat) (l : List (List Int)) (hl : l.length ≤ c) (hC : K88.C W A l.length l) (hg : rifflelaw34_Great.f 100 l = some false) (hs : l.length ≤ 20 ∧ ∀ d ∈ l, d.length ≤ 4000) (hlb : ∀ d ∈ l, ∀ x ∈ d, 0 ≤ x ∧ x < 256) :
    Calls Try.prog 3 #[.slice A l.length c] W fun e w' => e = .returned (.bool true) ∧ Below W.heap.size W w' := by
  have hlen := hs.1
  have hrows := Lib.hid hs.2
  replace hlb := Lib.hid hlb
  have hstr := Aside0.mk str_app
  have H0 := Aside0.mk (Cx.start0 (Φ := HP.rd K88 A l) (Kd.C_F heap88 hC))
  replace hg := Aside0.mk hg
  have hu := Try.underlying35
  have hu2 := Try.underlying34
  have heq := eq_same34
  have hgd : Try.prog.eqGuardType Try.prog.depth 34 = false := by kernel_rfl
  clear hC hs
  go_enter Try.func3, Try.ntmps3
  go_wp2_with fail
  refine (H0.out.cskip (fun Z hZ => Cx.toBelow (rifflelaw34_Great.calls 100 A c l false _ (HP.rd_now hZ) hl hg.out))).mono ?_
  rintro e w3 ⟨rfl, H3⟩
  replace H3 := Aside0.mk H3
  clear H0
  go_wp2_with fail
  refine (H3.out.cnew (α := Nat) (R := fun g e => e = .returned (.pointer (some ⟨g, 0, none⟩))) (Ψ' := fun g => Ck g [] 0) new_ck).mono ?_
  rintro e w4 ⟨g, rfl, H4⟩
  replace H4 := Aside0.mk H4
  clear H3
  go_wp2
  go_loopw [4, 5, 6, 25] (fun v4 v5 v6 i wr => ∃ (k told : Nat) (t cur : List Int), k ≤ l.length ∧ i = .int .i64 k ∧ v4 = .string (strOfNums t) ∧ v5 = .string (strOfNums cur) ∧ v6 = .int .i64 told ∧ Hid ((feed [] t).1.length = told) ∧ Hid (∀ x ∈ t, 0 ≤ x ∧ x < 256) ∧ t.length ≤ 4000 * k ∧ Hid ((feed [] t).2 = cur) ∧ Aside0 (Cx (fun _ => False) (fun k => k < W.heap.size) W wr (HP.rd K88 A l) [Ck g cur t.length])) (fun _ _ _ i _ => l.length - (intOf i).toNat)
  case atStart => exact ⟨0, 0, [], [], by omega, rfl, rfl, rfl, rfl, Lib.hid rfl, Lib.hid (by simp), by simp, Lib.hid rfl, H4⟩
  case round =>
    clear H4
    obtain ⟨k, told, t, cur, hk, rfl, rfl, rfl, rfl, htold, htb, htl, hcur, H⟩ := hrel
    have htl3 : told ≤ t.length := by have := (feed_len t []).1; rw [htold.out] at this; exact this
    by_cases hlt : k < l.length
    · obtain ⟨d, hd⟩ : ∃ r, l[k]? = some r := ⟨_, List.getElem?_eq_getElem (by omega)⟩
      have hdl := hrows.out d (List.mem_of_getElem? hd)
      have hdb := Lib.hid (hlb.out d (List.mem_of_getElem? hd))
      obtain ⟨⟨ad, A3, c3⟩, ⟨rfl, q0⟩, H1⟩ := H.out.more (fun Z hZ => row_at hZ hd)
      simp only at q0 H1
      replace H1 := Aside0.mk H1
      replace hd := Lib.hid hd
      have hk0 : (0 : Int) ≤ k := by omega
      have hk1 : (k : Int) < l.length := by omega
      obtain ⟨cur', hcur'⟩ : ∃ c, (feed cur d).2 = c := ⟨_, rfl⟩
      obtain ⟨L1, hL1⟩ : ∃ L, (feed cur d).1.map lineV = L := ⟨_, rfl⟩
      have happ := feed_app t d []
      rw [hcur.out] at happ
      have hnext : Hid ((feed [] (t ++ d)).2 = cur') := Lib.hid (by rw [happ]; exact hcur')
      obtain ⟨AL, hAL⟩ : ∃ AL, ((feed [] (t ++ d)).1.map lineV).map toL = AL := ⟨_, rfl⟩
      have hALe : AL = ((feed [] t).1.map lineV).map toL ++ L1.map toL := by rw [← hAL, happ]; simp only [List.map_append]; rw [hL1]
      have hALl : AL.length = told + L1.length := by rw [hALe]; simp only [List.length_append, List.length_map]; rw [htold.out]
      have hALl2 : Hid ((feed [] (t ++ d)).1.length = AL.length) := Lib.hid (by rw [← hAL, List.length_map, List.length_map])
      have hALat : Hid (∀ (j : Nat) (x : ByteArray × Bool), L1[j]? = some x → AL[told + j]? = some (toL x)) := Lib.hid (fun j x hx => by
        have e : (((feed [] t).1.map lineV).map toL).length = told := by rw [List.length_map, List.length_map, htold.out]
        rw [hALe, List.getElem?_append_right (by omega), e, Nat.add_sub_cancel_left, List.getElem?_map, hx]
        rfl)
      have hL1l : L1.length ≤ 4000 := by rw [← hL1, List.length_map]; have := (feed_len d cur).1; omega
      have htb' : Hid (∀ x ∈ t ++ d, 0 ≤ x ∧ x < 256) := Lib.hid (fun x hx => by
        rcases List.mem_append.1 hx with h | h
        · exact htb.out x h
        · exact hdb.out x h)
      have htl' : (t ++ d).length = t.length + d.length := List.length_append
      replace hcur' := Lib.hid hcur'
      replace hL1 := Lib.hid hL1
      replace hAL := Lib.hid hAL
      replace happ := Lib.hid happ
      replace hALe := Lib.hid hALe
      clear H
      go_wp2_with fail
      refine (H1.out.cuse (α := Option Addr × Nat) (R := fun q e => e = .returned (.slice q.1 L1.length q.2)) (Φ' := fun q => HP.val kL (.slice q.1 L1.length q.2) L1) (Ψ' := fun _ => Ck g cur' (t ++ d).length) 0 rfl (fun M Z hM hZ hd => feed_as (n := d.length) L1 cur' _ rfl hL1.out hcur'.out (by rw [List.length_append]; omega) hM hZ.2 hd (by omega) hdb.out (by omega) (by omega))).mono ?_
      rintro e w5 ⟨⟨A5, c5⟩, rfl, H5⟩
      have hconv := conv_val (c := c3) (HP.val_rd H5.now.choose_spec.1.2)
      replace H5 := Aside0.mk H5
      have hst := hstr.out t d
      have hsz : ¬ 9223372036854775807 < (strOfNums t).size + (strOfNums d).size := by rw [str_size, str_size]; omega
      clear H1 q0
      go_wp2_with fail
      refine (H5.out.cvalh (R := fun v e => e = .returned (.tuple #[v, .string (strOfNums cur')])) (fun Z hZ => lines_row (t ++ d) cur' AL hAL hnext htb'.out (by omega))).mono ?_
      rintro e w6 ⟨A6, c6, rfl, H6⟩
      replace H6 := Aside0.mk (H6.imp (Φ' := ((HP.rd K88 (some ad) l).and (HP.val kL (.slice A5 L1.length c5) L1)).and (HP.val kS (.slice A6 AL.length c6) AL)) (fun Z hz => ⟨⟨hz.1.1.1, hz.1.2⟩, hz.2⟩))
      generalize hN : t ++ d = N at *
      replace hN := Lib.hid hN
      have hNs : (strOfNums N).size = N.length := str_size N
      have hw : IntKind.i64.wrap ((AL.length : Int) - told) = (L1.length : Int) := by rw [IntWalk.i64_in _ (by omega)]; omega
      have e1 : ((L1.length : Int) == L1.length) = true := beq_self_eq_true _
      have e2 : (((held cur').length : Int) == (held cur').length) = true := beq_self_eq_true _
      have e3 : ((N.length : Int) == N.length) = true := beq_self_eq_true _
      clear H5 hconv hst hsz
      go_wp2
      go_loopw [51] (fun i wr => ∃ j : Nat, j ≤ L1.length ∧ i = .int .i64 j ∧ Aside0 (Cx (fun _ => False) (fun k => k < W.heap.size) W wr (((HP.rd K88 (some ad) l).and (HP.val kL (.slice A5 L1.length c5) L1)).and (HP.val kS (.slice A6 AL.length c6) AL)) [Ck g cur' N.length])) (fun i _ => L1.length - (intOf i).toNat)
      case atStart => exact ⟨0, by omega, rfl, H6⟩
      case round =>
        clear H6
        obtain ⟨j, hj, rfl, H⟩ := hrel
        by_cases hjl : j < L1.length
        · obtain ⟨x, hx⟩ : ∃ x, L1[j]? = some x := ⟨_, List.getElem?_eq_getElem hjl⟩
          obtain ⟨ad1, rfl, p0, p1⟩ := line_at (HP.val_rd H.out.now.choose_spec.1.2) j hx
          obtain ⟨ad2, rfl, r0, r1⟩ := sl_at (HP.val_rd H.out.now.choose_spec.2) (told + j) (hALat.out j x hx)
          obtain ⟨s, lo⟩ := x
          simp only [toL] at p0 p1 r0 r1
          have hj0 : (0 : Int) ≤ j := by omega
          have hj1 : (j : Int) < L1.length := by omega
          obtain ⟨q, hq⟩ : ∃ q, told + j = q := ⟨_, rfl⟩
          have hwq : IntKind.i64.wrap ((told : Int) + j) = (q : Int) := by rw [IntWalk.i64_in _ (by omega)]; omega
          have hq0 : (0 : Int) ≤ q := by omega
          have hq1 : (q : Int) < AL.length := by omega
          rw [hq] at r0 r1
          replace hq := Lib.hid hq
          replace hx := Lib.hid hx
          go_wp2
          go_quiet (fail)
          go_wp2
          go_roundw
          case rel => exact ⟨j + 1, by omega, by go_num, ⟨H.out.drewN _⟩⟩
          case measure => simp [intOf]; omega
        · obtain rfl : j = L1.length := by omega
          have hj1 : ¬ (L1.length : Int) < L1.length := by omega
          go_wp2_with fail
          refine (H.out.cread 0 rfl (fun M hM => held_ck hM)).mono ?_
          rintro e w9 ⟨rfl, H9⟩
          replace H9 := Aside0.mk H9
          go_wp2_with fail
          refine (H9.out.cskip (fun Z hZ => Cx.toBelow (riffleref34_Held.calls (strOfNums cur') _ _ (heldF cur')))).mono ?_
          rintro e w10 ⟨rfl, H10⟩
          replace H10 := Aside0.mk H10
          go_wp2_with fail
          refine (H10.out.cread 0 rfl (fun M hM => came_ck hM)).mono ?_
          rintro e w11 ⟨rfl, H11⟩
          replace H11 := Aside0.mk H11
          clear H H9 H10
          go_wp2
          go_roundw
          case rel => exact ⟨k + 1, told + L1.length, N, cur', by omega, by go_num, rfl, rfl, congrArg (Value.int .i64) (by omega), Lib.hid (by rw [hALl2.out]; exact hALl), htb', by omega, hnext, ⟨H11.out.imp (fun Z hz => hz.1.1)⟩⟩
          case measure => simp [intOf]; omega
    · obtain ⟨s, lo, hE⟩ : ∃ s lo, lineV cur = (s, lo) := ⟨_, _, rfl⟩
      obtain ⟨ok, hok⟩ : ∃ ok, ok = !cur.isEmpty := ⟨_, rfl⟩
      have hlast := last_eq cur
      rw [hE, ← hok] at hlast
      replace hlast := Aside0.mk hlast
      replace hE := Lib.hid hE
      replace hok := Lib.hid hok
      have hkk : (ok == ok) = true := beq_self_eq_true _
      go_wp2_with fail
      refine (H.out.cobj 0 rfl (fun M Z hM hZ hd => end_ck hM hd s lo ok hE hok)).mono ?_
      rintro e w10 ⟨rfl, H12⟩
      have H13 := Aside0.mk (H12.alloc (.cells #[.string s, .bool lo] 35 (0, 0)))
      clear H H12
      go_wp2_with fail
      refine (H13.out.cskip (fun Z hZ => riffleref34_Last.calls (strOfNums cur) s lo ok _ hlast.out)).mono ?_
      rintro e w11 ⟨rfl, H14⟩
      have H15 := Aside0.mk (H14.alloc (.cells #[.string s, .bool lo] 34 (0, 0)))
      clear H13 H14
      go_wp2_with fail
      refine (H15.out.cobj 0 rfl (fun M Z hM hZ hd => end_ck hM hd ⟨#[]⟩ false false (Lib.hid rfl) (Lib.hid rfl))).mono ?_
      rintro e w12 ⟨rfl, H16⟩
      have H17 := Aside0.mk (H16.alloc (.cells #[.string ⟨#[]⟩, .bool false] 35 (0, 0)))
      have p0 := H17.out.cell 1 rfl 0 rfl
      have p1 := H17.out.cell 1 rfl 1 rfl
      have r0 := H17.out.cell 2 rfl 0 rfl
      have r1 := H17.out.cell 2 rfl 1 rfl
      clear H15 H16
      go_wp2_with fail
      refine (H17.out.cread 0 rfl (fun M hM => held_ck hM)).mono ?_
      rintro e w13 ⟨rfl, H18⟩
      replace H18 := Aside0.mk H18
      have h00 : (((held []).length : Nat) : Int) = 0 := rfl
      go_wp2_with fail
      refine lives_true.mono ?_
      rintro e wl ⟨rfl, hb⟩
      have HL := Aside0.mk (H18.out.skip hb)
      clear hb
      go_wp2
      go_ret
      exact ⟨rfl, HL.out.below⟩
theorem plays_walk (w : World) (A : Option Addr) (c : Nat) (l : List (List Int)) (hl : l.length ≤ c) (hC : K88.C w A l.length l) (hw : ∀ d ∈ l, ∀ x ∈ d, (Lit.int .u8 x).wf = true) :
    Calls Try.prog 3 #[.slice A l.length c] w fun e w' => e = .returned (.bool true) ∧ Below w.heap.size w w' := by
  obtain ⟨r, hr, hx⟩ := great_any l
  cases r with
  | true => exact plays_great A c l hl hC hr
  | false => exact plays_small A c l hl hC hr (hx rfl) (fun d hd x hx => u8_wf (hw d hd x hx))
end Go.Proofs.Ytbndpdjpfehdnaa.Chunk
