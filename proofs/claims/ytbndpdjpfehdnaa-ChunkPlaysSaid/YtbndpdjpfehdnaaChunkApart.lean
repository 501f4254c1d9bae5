/- ChunkApart, walked. No condition but that the arguments read. -/
import Derived.Test.YtbndpdjpfehdnaaChunkPure
import Derived.Test.YtbndpdjpfehdnaaChunkClone
set_option linter.unusedVariables false
set_option linter.unusedSimpArgs false
set_option maxHeartbeats 1600000
set_option maxRecDepth 100000
namespace Go.Proofs.Ytbndpdjpfehdnaa.Chunk
open Go.RowKit Go.RK Go.Proofs.YtbndpdjpfehdnaaW.PrintWords Go.Proofs.Ytbndpdjpfehdnaa.PAll
variable {W : World} {M Z : Nat → Prop} {g : Nat} {v : Value} {cur b : List Int} {came : Int}
abbrev K88 : Kd (List Int) := Kd.slice 5 K8
theorem row_at {A : Option Addr} {xs : List (List Int)} {i : Nat} {row : List Int} (h : (HP.rd K88 A xs).at_ W Z) (hi : xs[i]? = some row) : ∃ x : Addr × Option Addr × Nat, (A = some x.1 ∧ W.cell? (x.1.add i) = some (.slice x.2.1 row.length x.2.2)) ∧ (HP.val K8 (.slice x.2.1 row.length x.2.2) row).at_ W Z := by
  obtain ⟨ad, cs, rfl, hK, hc⟩ := HP.rd_get h i hi
  obtain ⟨A1, c1, rfl, hl1, hC⟩ := HP.foot_now hK
  have kr := hc 0 _ rfl
  rw [show i * K88.sz + 0 = i by show i * 1 + 0 = i; omega] at kr
  refine ⟨(ad, A1, c1), ⟨rfl, kr⟩, A1, c1, rfl, hl1, fun W' hW => ?_⟩
  obtain ⟨A2, c2, he, _, hC2⟩ := hK W' hW
  injection he with he _
  injection he with h1 _ _
  rw [h1]
  exact hC2
theorem feed_any {A1 : Option Addr} {c1 : Nat} (h : (Ck g cur came).at_ W M) (hv : (HP.val K8 (.slice A1 b.length c1) b).at_ W Z) (hd : ∀ k, Z k → ¬ M k) (hb : b.length ≤ 10000) (hbb : ∀ x ∈ b, 0 ≤ x ∧ x < 256) (hc0 : 0 ≤ came) (hc1 : came ≤ 1000000) (cur' : List Int) (cm : Int) (hf2 : Hid ((feed cur b).2 = cur')) (hcm : Hid (came + b.length = cm)) :
    Calls Try.prog 9 #[.pointer (some ⟨g, 0, none⟩), .slice A1 b.length c1] W fun e w' => ∃ q : Option Addr × Nat × Nat, e = .returned (.slice q.1 q.2.1 q.2.2) ∧ Does W M Z HP.tt (Ck g cur' cm) w' := by
  refine (feed_as (n := b.length) _ cur' cm rfl rfl hf2.out hcm.out h hv hd hb hbb hc0 hc1).mono ?_
  rintro e w' ⟨q, rfl, H⟩
  exact ⟨(q.1, _, q.2), rfl, ⟨H.fr, let ⟨M1, a, _, c⟩ := H.ex; ⟨M1, a, trivial, c⟩⟩⟩
theorem lines_any (t : List Int) (F : List Int) (hF : Hid ((feed [] t).2 = F)) (hb : ∀ x ∈ t, 0 ≤ x ∧ x < 256) (hl : t.length ≤ 1000000) :
    Calls Try.prog 10 #[.string (strOfNums t)] W fun e w' => ∃ q : Option Addr × Nat × Nat, e = .returned (.tuple #[.slice q.1 q.2.1 q.2.2, .string (strOfNums F)]) ∧ Below W.heap.size W w' := by
  have h := lines_eq t hb hl
  rw [hF.out] at h
  refine (riffleref34_Lines.calls 2000000 (strOfNums t) _ _ W h).mono ?_
  rintro e w' ⟨v, rfl, hR, hB⟩
  obtain ⟨A, c, rfl⟩ := Kd.V_slice (Kd.R_V (base' := 0) hR)
  exact ⟨(A, _, c), rfl, hB⟩
theorem heap88 : Kd.Heap K88 := Kd.heap_slice _ (Kd.heap_int _)
section
variable (A : Option Addr) (c : Nat) (l : List (List Int)) (hl : l.length ≤ c) (hC : K88.C W A l.length l) (A2 : Option Addr) (c2 : Nat) (b : List Int) (hl2 : b.length ≤ c2) (hC2 : K8.C W A2 b.length b)
include hl hC hl2 hC2
theorem apart_great (hg : rifflelaw34_Great.f 100 l = some true) :
    Calls Try.prog 5 #[.slice A l.length c, .slice A2 b.length c2] W fun e w' => e = .returned (.bool true) ∧ Below W.heap.size W w' := by
  have H0 := Aside0.mk (Cx.start0 (Φ := (HP.rd K88 A l).and (HP.val K8 (.slice A2 b.length c2) b)) ⟨Kd.C_F heap88 hC, A2, c2, rfl, hl2, Kd.C_F (Kd.heap_int _) hC2⟩)
  replace hg := Aside0.mk hg
  have hu := Try.underlying35
  clear hC hC2
  go_enter Try.func5, Try.ntmps5
  go_wp2_with fail
  refine (H0.out.cskip (fun Z hZ => end_nil)).mono ?_
  rintro e w1 ⟨rfl, H1⟩
  replace H1 := Aside0.mk (H1.junk (.cells #[.string ⟨#[]⟩, .bool false] 35 (0, 0)))
  clear H0
  go_wp2_with fail
  refine (H1.out.cskip (fun Z hZ => feed_nil _ _ _)).mono ?_
  rintro e w2 ⟨rfl, H2⟩
  replace H2 := Aside0.mk H2
  clear H1
  go_wp2_with fail
  refine held_nil.mono ?_
  rintro e wx ⟨rfl, rfl⟩
  go_wp2_with fail
  refine came_nil.mono ?_
  rintro e wx ⟨rfl, rfl⟩
  go_wp2_with fail
  refine clone_nil.mono ?_
  rintro e wx ⟨rfl, rfl⟩
  go_wp2_with fail
  refine (H2.out.cskip (fun Z hZ => Cx.toBelow (rifflelaw34_Great.calls 100 A c l true _ (HP.rd_now hZ.1) hl hg.out))).mono ?_
  rintro e w3 ⟨rfl, H3⟩
  replace H3 := Aside0.mk H3
  clear H2
  go_wp2_with fail
  refine lives_true.mono ?_
  rintro e wl ⟨rfl, hb⟩
  have HL := Aside0.mk (H3.out.skip hb)
  clear hb
  go_wp2
  go_ret
  exact ⟨rfl, HL.out.below⟩
theorem apart_long (hg : rifflelaw34_Great.f 100 l = some false) (hb : 4000 < b.length) :
    Calls Try.prog 5 #[.slice A l.length c, .slice A2 b.length c2] W fun e w' => e = .returned (.bool true) ∧ Below W.heap.size W w' := by
  have H0 := Aside0.mk (Cx.start0 (Φ := (HP.rd K88 A l).and (HP.val K8 (.slice A2 b.length c2) b)) ⟨Kd.C_F heap88 hC, A2, c2, rfl, hl2, Kd.C_F (Kd.heap_int _) hC2⟩)
  replace hg := Aside0.mk hg
  have hu := Try.underlying35
  clear hC hC2
  go_enter Try.func5, Try.ntmps5
  go_wp2_with fail
  refine (H0.out.cskip (fun Z hZ => end_nil)).mono ?_
  rintro e w1 ⟨rfl, H1⟩
  replace H1 := Aside0.mk (H1.junk (.cells #[.string ⟨#[]⟩, .bool false] 35 (0, 0)))
  clear H0
  go_wp2_with fail
  refine (H1.out.cskip (fun Z hZ => feed_nil _ _ _)).mono ?_
  rintro e w2 ⟨rfl, H2⟩
  replace H2 := Aside0.mk H2
  clear H1
  go_wp2_with fail
  refine held_nil.mono ?_
  rintro e wx ⟨rfl, rfl⟩
  go_wp2_with fail
  refine came_nil.mono ?_
  rintro e wx ⟨rfl, rfl⟩
  go_wp2_with fail
  refine clone_nil.mono ?_
  rintro e wx ⟨rfl, rfl⟩
  go_wp2_with fail
  refine (H2.out.cskip (fun Z hZ => Cx.toBelow (rifflelaw34_Great.calls 100 A c l false _ (HP.rd_now hZ.1) hl hg.out))).mono ?_
  rintro e w3 ⟨rfl, H3⟩
  replace H3 := Aside0.mk H3
  clear H2
  go_wp2_with fail
  refine lives_true.mono ?_
  rintro e wl ⟨rfl, hb⟩
  have HL := Aside0.mk (H3.out.skip hb)
  clear hb
  go_wp2
  go_ret
  exact ⟨rfl, HL.out.below⟩
theorem apart_small (hg : rifflelaw34_Great.f 100 l = some false) (hs : l.length ≤ 20 ∧ ∀ d ∈ l, d.length ≤ 4000) (hb : b.length ≤ 4000) (hlb : ∀ d ∈ l, ∀ x ∈ d, 0 ≤ x ∧ x < 256) (hbb : ∀ x ∈ b, 0 ≤ x ∧ x < 256) :
    Calls Try.prog 5 #[.slice A l.length c, .slice A2 b.length c2] W fun e w' => e = .returned (.bool true) ∧ Below W.heap.size W w' := by
  have hlen := hs.1
  have hrows := Lib.hid hs.2
  replace hlb := Lib.hid hlb
  replace hbb := Lib.hid hbb
  have hstr : ∀ xs ys, strOfNums xs ++ strOfNums ys = strOfNums (xs ++ ys) := str_app
  replace hstr := Aside0.mk hstr
  clear hs
  have H0 := Aside0.mk (Cx.start0 (Φ := (HP.rd K88 A l).and (HP.val K8 (.slice A2 b.length c2) b)) ⟨Kd.C_F heap88 hC, A2, c2, rfl, hl2, Kd.C_F (Kd.heap_int _) hC2⟩)
  replace hg := Aside0.mk hg
  have hu := Try.underlying35
  clear hC hC2
  go_enter Try.func5, Try.ntmps5
  go_wp2_with fail
  refine (H0.out.cskip (fun Z hZ => end_nil)).mono ?_
  rintro e w1 ⟨rfl, H1⟩
  replace H1 := Aside0.mk (H1.junk (.cells #[.string ⟨#[]⟩, .bool false] 35 (0, 0)))
  clear H0
  go_wp2_with fail
  refine (H1.out.cskip (fun Z hZ => feed_nil _ _ _)).mono ?_
  rintro e w2 ⟨rfl, H2⟩
  replace H2 := Aside0.mk H2
  clear H1
  go_wp2_with fail
  refine held_nil.mono ?_
  rintro e wx ⟨rfl, rfl⟩
  go_wp2_with fail
  refine came_nil.mono ?_
  rintro e wx ⟨rfl, rfl⟩
  go_wp2_with fail
  refine clone_nil.mono ?_
  rintro e wx ⟨rfl, rfl⟩
  go_wp2_with fail
  refine (H2.out.cskip (fun Z hZ => Cx.toBelow (rifflelaw34_Great.calls 100 A c l false _ (HP.rd_now hZ.1) hl hg.out))).mono ?_
  rintro e w3 ⟨rfl, H3⟩
  replace H3 := Aside0.mk H3
  clear H2
  go_wp2_with fail
  refine (H3.out.cnew (α := Nat) (R := fun g e => e = .returned (.pointer (some ⟨g, 0, none⟩))) (Ψ' := fun g => Ck g [] 0) new_ck).mono ?_
  rintro e w4 ⟨g, rfl, H4⟩
  replace H4 := Aside0.mk H4
  clear H3
  go_wp2
  go_loopw [9, 54] (fun v9 i wr => ∃ (k : Nat) (t cur : List Int), k ≤ l.length ∧ i = .int .i64 k ∧ v9 = .string (strOfNums t) ∧ Hid (∀ x ∈ t, 0 ≤ x ∧ x < 256) ∧ t.length ≤ 4000 * k ∧ Hid ((feed [] t).2 = cur) ∧ Aside0 (Cx (fun _ => False) (fun k => k < W.heap.size) W wr ((HP.rd K88 A l).and (HP.val K8 (.slice A2 b.length c2) b)) [Ck g cur t.length])) (fun _ i _ => l.length - (intOf i).toNat)
  case atStart => exact ⟨0, [], [], by omega, rfl, rfl, Lib.hid (by simp), by simp, Lib.hid rfl, H4⟩
  case round =>
    clear H4
    obtain ⟨k, t, cur, hk, rfl, rfl, htb, htl, hcur, H⟩ := hrel
    by_cases hlt : k < l.length
    · obtain ⟨d, hd⟩ : ∃ r, l[k]? = some r := ⟨_, List.getElem?_eq_getElem (by omega)⟩
      have hdl := hrows.out d (List.mem_of_getElem? hd)
      have hdb := Lib.hid (hlb.out d (List.mem_of_getElem? hd))
      obtain ⟨⟨ad, A3, c3⟩, ⟨rfl, q0⟩, H1⟩ := H.out.more (fun Z hZ => row_at hZ.1 hd)
      simp only at q0 H1
      replace H1 := Aside0.mk H1
      replace hd := Lib.hid hd
      have hk0 : (0 : Int) ≤ k := by omega
      have hk1 : (k : Int) < l.length := by omega
      obtain ⟨cur', hcur'⟩ : ∃ c, (feed cur d).2 = c := ⟨_, rfl⟩
      have hnext : Hid ((feed [] (t ++ d)).2 = cur') := Lib.hid (by rw [feed_app, hcur.out]; exact hcur')
      have htb' : Hid (∀ x ∈ t ++ d, 0 ≤ x ∧ x < 256) := Lib.hid (fun x hx => by
        rcases List.mem_append.1 hx with h | h
        · exact htb.out x h
        · exact hdb.out x h)
      have htl' : (t ++ d).length = t.length + d.length := List.length_append
      replace hcur' := Lib.hid hcur'
      clear H
      go_wp2_with fail
      refine (H1.out.cuse (α := Option Addr × Nat × Nat) (R := fun q e => e = .returned (.slice q.1 q.2.1 q.2.2)) (Φ' := fun _ => HP.tt) (Ψ' := fun _ => Ck g cur' (t ++ d).length) 0 rfl (fun M Z hM hZ hd => feed_any hM hZ.2 hd (by omega) hdb.out (by omega) (by omega) cur' _ hcur' (Lib.hid (by rw [List.length_append]; omega)))).mono ?_
      rintro e w5 ⟨q, rfl, H5⟩
      have hconv := conv_val (c := c3) (HP.val_rd H5.now.choose_spec.1.2)
      replace H5 := Aside0.mk H5
      have hst := hstr.out t d
      clear H1 q0
      have hsz : ¬ 9223372036854775807 < (strOfNums t).size + (strOfNums d).size := by rw [str_size, str_size]; omega
      go_wp2
      exact ⟨⟨k + 1, t ++ d, cur', by omega, by go_num, by first | rfl | rw [hst], htb', by omega, hnext, ⟨H5.out.imp (Φ' := (HP.rd K88 (some ad) l).and (HP.val K8 (.slice A2 b.length c2) b)) (fun Z hz => hz.1.1)⟩⟩, by simp [intOf]; omega⟩
    · have htl2 : t.length ≤ 80000 := by omega
      have hcl : cur.length ≤ 80000 := by have := (feed_len t []).2; rw [hcur.out] at this; simp at this; omega
      have hcb : Hid (∀ x ∈ cur, 0 ≤ x ∧ x < 256) := Lib.hid (fun x hx => by
        rcases feed_mem t [] x (by rw [hcur.out]; exact hx) with h | h
        · simp at h
        · exact htb.out x h)
      obtain ⟨F, hF⟩ : ∃ F, (feed cur b).2 = F := ⟨_, rfl⟩
      have hF2 : Hid ((feed [] (cur ++ b)).2 = F) := Lib.hid (by rw [← hcur.out, feed_rest, hcur.out]; exact hF)
      have hcbb : Hid (∀ x ∈ cur ++ b, 0 ≤ x ∧ x < 256) := Lib.hid (fun x hx => by
        rcases List.mem_append.1 hx with h | h
        · exact hcb.out x h
        · exact hbb.out x h)
      replace hF := Lib.hid hF
      go_wp2_with fail
      refine (H.out.cpure (α := Option Addr × Nat × Nat) (R := fun q e => e = .returned (.tuple #[.slice q.1 q.2.1 q.2.2, .string (strOfNums cur)])) (Φ' := fun _ => HP.tt) (fun Z hZ => (lines_any t cur hcur htb.out (by omega)).mono (fun e w' ⟨q, h1, h2⟩ => ⟨q, h1, h2, trivial⟩))).mono ?_
      rintro e w5 ⟨q5, rfl, H5⟩
      replace H5 := Aside0.mk H5.fst
      clear H
      go_wp2_with fail
      obtain ⟨M9, hM9⟩ := H5.out.get 0 rfl
      refine (H5.out.cnew (α := Nat) (R := fun g e => e = .returned (.pointer (some ⟨g, 0, none⟩))) (Ψ' := fun g => Ck g cur t.length) (clone_ck hM9 (by omega))).mono ?_
      rintro e w6 ⟨g', rfl, H6⟩
      replace H6 := Aside0.mk H6
      clear H5 hM9
      go_wp2_with fail
      refine (H6.out.cuse (α := Option Addr × Nat × Nat) (R := fun q e => e = .returned (.slice q.1 q.2.1 q.2.2)) (Φ' := fun _ => HP.tt) (Ψ' := fun _ => Ck g' F (t.length + b.length)) 1 rfl (fun M Z hM hZ hd => feed_any hM hZ.2 hd (by omega) hbb.out (by omega) (by omega) F _ hF (Lib.hid rfl))).mono ?_
      rintro e w7 ⟨q7, rfl, H7⟩
      replace H7 := Aside0.mk H7.fst
      have hconv := conv_val (c := c2) (HP.val_rd H7.out.now.choose_spec.2)
      have hst := hstr.out cur b
      have hsz : ¬ 9223372036854775807 < (strOfNums cur).size + (strOfNums b).size := by rw [str_size, str_size]; omega
      clear H6
      go_wp2_with fail
      refine (H7.out.cpure (α := Option Addr × Nat × Nat) (R := fun q e => e = .returned (.tuple #[.slice q.1 q.2.1 q.2.2, .string (strOfNums F)])) (Φ' := fun _ => HP.tt) (fun Z hZ => (lines_any (cur ++ b) F hF2 hcbb.out (by rw [List.length_append]; omega)).mono (fun e w' ⟨q, h1, h2⟩ => ⟨q, h1, h2, trivial⟩))).mono ?_
      rintro e w8 ⟨q8, rfl, H8⟩
      replace H8 := Aside0.mk H8.fst
      have hts : (strOfNums t).size = t.length := str_size t
      have e1 : (((held cur).length : Int) == (held cur).length) = true := beq_self_eq_true _
      have e2 : (((held F).length : Int) == (held F).length) = true := beq_self_eq_true _
      have e3 : ((t.length : Int) == t.length) = true := beq_self_eq_true _
      have hw : IntKind.i64.wrap ((t.length : Int) + b.length) = (t.length : Int) + b.length := IntWalk.i64_in _ (by omega)
      have e4 : (((t.length : Int) + b.length) == (t.length : Int) + b.length) = true := beq_self_eq_true _
      clear H7 hconv
      go_wp2_with fail
      refine (H8.out.cread 0 rfl (fun M hM => held_ck hM)).mono ?_
      rintro e w9 ⟨rfl, H9⟩
      replace H9 := Aside0.mk H9
      go_wp2_with fail
      refine (H9.out.cskip (fun Z hZ => Cx.toBelow (riffleref34_Held.calls (strOfNums cur) _ _ (heldF cur)))).mono ?_
      rintro e w10 ⟨rfl, H10⟩
      replace H10 := Aside0.mk H10
      go_wp2_with fail
      refine (H10.out.cread 0 rfl (fun M hM => came_ck hM)).mono ?_
      rintro e w11 ⟨rfl, H11⟩
      replace H11 := Aside0.mk H11
      go_wp2_with fail
      refine (H11.out.cread 1 rfl (fun M hM => held_ck hM)).mono ?_
      rintro e w12 ⟨rfl, H12⟩
      replace H12 := Aside0.mk H12
      go_wp2_with fail
      refine (H12.out.cskip (fun Z hZ => Cx.toBelow (riffleref34_Held.calls (strOfNums F) _ _ (heldF F)))).mono ?_
      rintro e w13 ⟨rfl, H13⟩
      replace H13 := Aside0.mk H13
      go_wp2_with fail
      refine (H13.out.cread 1 rfl (fun M hM => came_ck hM)).mono ?_
      rintro e w14 ⟨rfl, H14⟩
      replace H14 := Aside0.mk H14
      clear H8 H9 H10 H11 H12 H13
      go_wp2_with fail
      refine lives_true.mono ?_
      rintro e wl ⟨rfl, hb⟩
      have HL := Aside0.mk (H14.out.skip hb)
      clear hb
      go_wp2
      go_ret
      exact ⟨rfl, HL.out.below⟩
end
theorem apart_walk (w : World) (A : Option Addr) (c : Nat) (l : List (List Int)) (hl : l.length ≤ c) (hC : K88.C w A l.length l) (hw : ∀ d ∈ l, ∀ x ∈ d, (Lit.int .u8 x).wf = true) (A2 : Option Addr) (c2 : Nat) (b : List Int) (hl2 : b.length ≤ c2) (hC2 : K8.C w A2 b.length b) (hw2 : ∀ x ∈ b, (Lit.int .u8 x).wf = true) :
    Calls Try.prog 5 #[.slice A l.length c, .slice A2 b.length c2] w fun e w' => e = .returned (.bool true) ∧ Below w.heap.size w w' := by
  obtain ⟨r, hr, hx⟩ := great_any l
  cases r with
  | true => exact apart_great A c l hl hC A2 c2 b hl2 hC2 hr
  | false =>
    by_cases h : 4000 < b.length
    · exact apart_long A c l hl hC A2 c2 b hl2 hC2 hr h
    · exact apart_small A c l hl hC A2 c2 b hl2 hC2 hr (hx rfl) (by omega) (fun d hd x hx => u8_wf (hw d hd x hx)) (fun x hx => u8_wf (hw2 x hx))
end Go.Proofs.Ytbndpdjpfehdnaa.Chunk
