/- ChunkPieces, walked. No condition but that the arguments read. -/
import Derived.Test.YtbndpdjpfehdnaaChunk5
set_option linter.unusedVariables false
set_option linter.unusedSimpArgs false
set_option maxHeartbeats 3200000
set_option maxRecDepth 100000
namespace Go.Proofs.Ytbndpdjpfehdnaa.Chunk
open Go.RowKit Go.RK Go.Proofs.YtbndpdjpfehdnaaW.PrintWords
variable {W : World} {M Z : Nat → Prop} {g : Nat} {v : Value} {cur b : List Int} {came : Int}
def lcs : List (ByteArray × Bool) → List Value
  | [] => []
  | x :: l => .string x.1 :: .bool x.2 :: lcs l
theorem lcs_len : ∀ l, (lcs l).length = l.length * 2
  | [] => rfl
  | x :: l => by simp only [lcs, List.length_cons, lcs_len l]; omega
theorem lcs_app : ∀ l m, lcs (l ++ m) = lcs l ++ lcs m
  | [], m => rfl
  | x :: l, m => by simp only [List.cons_append, lcs, lcs_app l m]
theorem lcs_one : ∀ l, ∀ u ∈ lcs l, u.oneCell' = true
  | [], u, hu => by simp [lcs] at hu
  | x :: l, u, hu => by
    simp only [lcs] at hu
    rcases List.mem_cons.1 hu with rfl | hu
    · rfl
    · rcases List.mem_cons.1 hu with rfl | hu
      · rfl
      · exact lcs_one l u hu
theorem lcs_at : ∀ (l : List (ByteArray × Bool)) (k : Nat) (x : ByteArray × Bool), l[k]? = some x → (lcs l)[k * 2]? = some (.string x.1) ∧ (lcs l)[k * 2 + 1]? = some (.bool x.2)
  | [], k, x, h => by simp at h
  | y :: l, 0, x, h => by simp at h; subst h; exact ⟨rfl, rfl⟩
  | y :: l, k + 1, x, h => by
    have := lcs_at l k x (by simpa using h)
    have e : (k + 1) * 2 = k * 2 + 1 + 1 := by omega
    rw [e]
    exact this
theorem src_lcs {A : Option Addr} {xs : List (ByteArray × Bool)} (h : (HP.rd kL A xs).at_ W M) (hp : 0 < xs.length) : ∃ ad, A = some ad ∧ ∀ j u, (lcs xs)[j]? = some u → W.cell? (ad.add j) = some u := by
  obtain ⟨ad, _, hA, _, _⟩ := HP.rd_get h 0 (List.getElem?_eq_getElem hp)
  refine ⟨ad, hA, fun j u hj => ?_⟩
  have hjl : j < xs.length * 2 := by rw [← lcs_len]; exact (List.getElem?_eq_some_iff.1 hj).1
  have hk : j / 2 < xs.length := by omega
  obtain ⟨ad', cs, h1, hK, hc⟩ := HP.rd_get h (j / 2) (List.getElem?_eq_getElem hk)
  rw [hA] at h1
  injection h1 with h1
  subst h1
  obtain ⟨c1, c2, rfl, h2, h3⟩ := HP.foot_now hK
  have h2 : c1 = [.string xs[j / 2].1] := h2
  have h3 : c2 = [.bool xs[j / 2].2] := h3
  subst h2 h3
  have ha := lcs_at xs (j / 2) _ (List.getElem?_eq_getElem hk)
  have hsz : kL.sz = 2 := rfl
  rw [hsz] at hc
  rcases Nat.mod_two_eq_zero_or_one j with hm | hm
  · have e : j / 2 * 2 = j := by omega
    rw [e] at ha
    rw [ha.1] at hj
    injection hj with hj
    subst hj
    have := hc 0 _ rfl
    rwa [e] at this
  · have e : j / 2 * 2 + 1 = j := by omega
    rw [e] at ha
    rw [ha.2] at hj
    injection hj with hj
    subst hj
    have := hc 1 _ rfl
    rwa [e] at this
/-- lines put behind lines of the call's own -/
theorem app_lines {M0 Z0 : Nat → Prop} {W0 W : World} {Φ : HP} {Ψs : List HP} (h : Cx M0 Z0 W0 W Φ Ψs) (i : Nat) {v : Value} {out L : List (ByteArray × Bool)} {A : Option Addr} {c : Nat} (hi : Ψs[i]? = some (HP.raw W0.heap.size 35 2 v out.length (lcs out))) (hL : ∀ Z, Φ.at_ W Z → (HP.rd kL A L).at_ W Z) (hb : out.length + L.length ≤ 1000000) :
    ∃ A1 c1 w1, (Builtin.append_ #[28, 28] 28 #[v, .slice A L.length c]).run Try.prog W = .ok (.slice A1 (out ++ L).length c1) w1 ∧ Cx M0 Z0 W0 w1 Φ (Ψs.set i (HP.raw W0.heap.size 35 2 (.slice A1 (out ++ L).length c1) (out ++ L).length (lcs (out ++ L)))) := by
  have hrd := hL _ h.now.choose_spec
  obtain ⟨v1, w1, hrun, H⟩ := h.app (P := Try.prog) i 28 28 35 (.agg #[.string ⟨#[]⟩, .bool false]) 2 24 hi (Nat.le_refl _) Try.underlying28 infoL rfl (by omega) (by omega) A L.length c (lcs L) (lcs_len L) (fun hp => src_lcs hrd hp) (lcs_one L) (by omega)
  rw [show out.length + L.length = (out ++ L).length from List.length_append.symm, ← lcs_app] at H
  have hil : i < Ψs.length := (List.getElem?_eq_some_iff.1 hi).1
  obtain ⟨A1, c1, hv1, _⟩ := HP.raw_form (H.get i (by rw [List.getElem?_set]; simp [hil]; rfl)).choose_spec
  subst hv1
  rw [show out.length + L.length = (out ++ L).length from List.length_append.symm] at hrun H
  exact ⟨A1, c1, w1, hrun, H⟩
theorem take2_of {α : Type} {L : List α} {q : Nat} {a b : α} (h1 : L[q]? = some a) (h2 : L[q + 1]? = some b) : (L.drop q).take 2 = [a, b] := by
  obtain ⟨hq, rfl⟩ := List.getElem?_eq_some_iff.1 h1
  obtain ⟨hq2, rfl⟩ := List.getElem?_eq_some_iff.1 h2
  rw [List.drop_eq_getElem_cons hq, List.drop_eq_getElem_cons hq2]
  rfl
theorem reps_lcs (l : List (ByteArray × Bool)) : (HP.reps kL l (lcs l)).at_ W M := fun W' hW => by
  refine ⟨lcs_len l, fun j p hj => ?_⟩
  obtain ⟨h1, h2⟩ := lcs_at l j p hj
  have e : ((lcs l).drop (j * kL.sz)).take kL.sz = [.string p.1, .bool p.2] := take2_of h1 h2
  rw [e]
  exact ⟨[.string p.1], [.bool p.2], rfl, rfl, rfl⟩
theorem eq_line (d : Nat) (w : World) (x0 y0 : ByteArray) (x1 y1 : Bool) : (Op.equalIn (d + 2) 35 (.agg #[.string x0, .bool x1]) (.agg #[.string y0, .bool y1])).run Try.prog w = .ok (x0.toList == y0.toList && (x1 == y1)) w := by
  refine eqA_of Try.underlying35 (by kernel_rfl) ?_
  refine eqf_cons (by rfl) (by go_simp; rfl) (by go_simp; rfl) (by go_simp) ?_
  exact eqf_last (by rfl) (by go_simp; rfl) (by go_simp; rfl) (by go_simp)
theorem eq_same (w : World) (x0 : ByteArray) (x1 : Bool) : (Op.equalIn 10000 35 (.agg #[.string x0, .bool x1]) (.agg #[.string x0, .bool x1])).run Try.prog w = .ok true w := by
  have h := eq_line 9998 w x0 x0 x1 x1
  rw [beq_self_eq_true, beq_self_eq_true] at h
  exact h
abbrev K16 : Kd Int := Kd.int .u16
theorem num_at {A : Option Addr} {xs : List Int} (h : (HP.rd K16 A xs).at_ W M) (k : Nat) {x : Int} (hx : xs[k]? = some x) : ∃ ad, A = some ad ∧ W.cell? (ad.add k) = some (.int .u16 x) := by
  obtain ⟨ad, cs, e, hK, hc⟩ := HP.rd_get h k hx
  have hK' : cs = [.int .u16 x] := HP.foot_now hK
  subst hK'
  have := hc 0 _ rfl
  rw [show k * K16.sz + 0 = k by show k * 1 + 0 = k; omega] at this
  exact ⟨ad, e, this⟩
theorem pieces_great {A A' : Option Addr} {c c' : Nat} {cuts : List Int} (h : 6000 < b.length ∨ 60 < cuts.length) :
    Calls Try.prog 4 #[.slice A b.length c, .slice A' cuts.length c'] W fun e w' => e = .returned (.bool true) ∧ Below W.heap.size W w' := by
  by_cases h1 : 6000 < b.length
  · clear h
    go_enter Try.func4, Try.ntmps4
    go_wp2_with fail
    refine lives_true.mono ?_
    rintro e wl ⟨rfl, hb⟩
    go_wp2
    go_ret
    exact ⟨rfl, hb⟩
  · have h2 : 60 < cuts.length := by omega
    clear h
    go_enter Try.func4, Try.ntmps4
    go_wp2_with fail
    refine lives_true.mono ?_
    rintro e wl ⟨rfl, hb⟩
    go_wp2
    go_ret
    exact ⟨rfl, hb⟩
theorem pieces_small {A A' : Option Addr} {c c' : Nat} {cuts : List Int} (hl : b.length ≤ c) (hC : K8.C W A b.length b) (hC' : K16.C W A' cuts.length cuts) (hbb : ∀ x ∈ b, 0 ≤ x ∧ x < 256) (hcc : ∀ x ∈ cuts, 0 ≤ x ∧ x < 65536) (h1 : b.length ≤ 6000) (h2 : cuts.length ≤ 60) :
    Calls Try.prog 4 #[.slice A b.length c, .slice A' cuts.length c'] W fun e w' => e = .returned (.bool true) ∧ Below W.heap.size W w' := by
  have H0 := Aside0.mk (Cx.start0 (Φ := (HP.val K8 (.slice A b.length c) b).and (HP.rd K16 A' cuts)) ⟨⟨A, c, rfl, hl, Kd.C_F (Kd.heap_int _) hC⟩, Kd.C_F (Kd.heap_int _) hC'⟩)
  obtain ⟨T, hT⟩ : ∃ T, (feed [] b).1.map lineV = T := ⟨_, rfl⟩
  obtain ⟨F, hF⟩ : ∃ F, (feed [] b).2 = F := ⟨_, rfl⟩
  have hTl : T.length ≤ 6000 := by rw [← hT, List.length_map]; have := (feed_len b []).1; omega
  have hT' := Lib.hid hT
  have hF' := Lib.hid hF
  replace hbb := Lib.hid hbb
  replace hcc := Lib.hid hcc
  clear hC hC' hT hF
  go_enter Try.func4, Try.ntmps4
  go_wp2_with fail
  refine (H0.out.cnew (α := Nat) (R := fun g e => e = .returned (.pointer (some ⟨g, 0, none⟩))) (Ψ' := fun g => Ck g [] 0) new_ck).mono ?_
  rintro e w1 ⟨g1, rfl, H1⟩
  replace H1 := Aside0.mk H1
  clear H0
  go_wp2_with fail
  refine (H1.out.cnew (α := Nat) (R := fun g e => e = .returned (.pointer (some ⟨g, 0, none⟩))) (Ψ' := fun g => Ck g [] 0) new_ck).mono ?_
  rintro e w2 ⟨g2, rfl, H2⟩
  replace H2 := Aside0.mk H2
  clear H1
  go_wp2_with fail
  refine (H2.out.cuse (α := Option Addr × Nat) (R := fun q e => e = .returned (.slice q.1 T.length q.2)) (Φ' := fun q => HP.val kL (.slice q.1 T.length q.2) T) (Ψ' := fun q => Ck g1 F b.length) 0 rfl (fun M Z hM hZ hd => feed_as (n := b.length) T F b.length rfl hT'.out hF'.out (by omega) hM hZ.1 hd (by omega) hbb.out (by omega) (by omega))).mono ?_
  rintro e w3 ⟨⟨AT, cT⟩, rfl, H3⟩
  have H4 := Aside0.mk (((H3.add (HP.raw_nil W.heap.size 35 2 _ _)).imp (Φ' := (((HP.val K8 (.slice A b.length c) b).and (HP.rd K16 A' cuts)).and (HP.val kL (.slice AT T.length cT) T)).and (HP.val K8 (.slice A b.length c) b)) (fun Z hz => ⟨hz, hz.1.1⟩)))
  clear H2 H3
  go_wp2
  go_loopw [8, 9, 35] (fun v8 v9 i wr => ∃ (k : Nat) (xs cur : List Int) (A3 : Option Addr) (c3 : Nat) (out : List (ByteArray × Bool)) (A6 : Option Addr) (c6 : Nat) (came : Int), k ≤ cuts.length ∧ i = .int .i64 k ∧ v9 = .slice A3 xs.length c3 ∧ v8 = .slice A6 out.length c6 ∧ Hid (∀ x ∈ xs, 0 ≤ x ∧ x < 256) ∧ Hid (out ++ (feed cur xs).1.map lineV = T ∧ (feed cur xs).2 = F) ∧ came + xs.length = b.length ∧ 0 ≤ came ∧ Aside0 (Cx (fun _ => False) (fun k => k < W.heap.size) W wr ((((HP.val K8 (.slice A b.length c) b).and (HP.rd K16 A' cuts)).and (HP.val kL (.slice AT T.length cT) T)).and (HP.val K8 (.slice A3 xs.length c3) xs)) [Ck g1 F b.length, Ck g2 cur came, HP.raw W.heap.size 35 2 (.slice A6 out.length c6) out.length (lcs out)])) (fun _ _ i _ => cuts.length - (intOf i).toNat)
  case atStart => exact ⟨0, b, [], A, c, [], none, 0, 0, by omega, rfl, rfl, rfl, hbb, Lib.hid ⟨hT'.out, hF'.out⟩, by omega, by omega, H4⟩
  case round =>
    clear H4
    obtain ⟨k, xs, cur, A3, c3, out, A6, c6, came, hk, rfl, rfl, rfl, hxb, hinv, hcm, hcm0, H⟩ := hrel
    have hol : out.length ≤ 6000 := by have := congrArg List.length hinv.out.1; rw [List.length_append] at this; omega
    by_cases hlt : k < cuts.length
    · obtain ⟨n, hn⟩ : ∃ n, cuts[k]? = some n := ⟨_, List.getElem?_eq_getElem hlt⟩
      have hn1 := hcc.out n (List.mem_of_getElem? hn)
      obtain ⟨ad, rfl, q0⟩ := num_at H.out.now.choose_spec.1.1.2 k hn
      have hk0 : (0 : Int) ≤ k := by omega
      have hk1 : (k : Int) < cuts.length := by omega
      have hn0 := hn1.1
      have hn2 := hn1.2
      obtain ⟨m, hm⟩ : ∃ m : Nat, m = min n.toNat xs.length := ⟨_, rfl⟩
      have hmin : ∀ w ty ats, (Builtin.min_ ats ty #[.int .i64 n, .int .i64 xs.length]).run Try.prog w = .ok (.int .i64 m) w := by
        intro w ty ats
        have e : (if (xs.length : Int) < n then (xs.length : Int) else n) = (m : Int) := by split <;> omega
        rw [Go.Proofs.YtbndpdjpfehdnaaW.PrintMore.min_two, Go.Proofs.YtbndpdjpfehdnaaW.PrintMore.min2_int, e]
        rfl
      have hml : m ≤ xs.length := by omega
      have hcap := HP.val_le H.out.now.choose_spec.2
      obtain ⟨hct, hvt⟩ := cut_take (P := Try.prog) (d := K8) 27 5 Try.underlying27 (info_parts info8).choose_spec.1 A3 c3 xs (m : Int) (by omega) (by omega) hcap
      obtain ⟨A8, hcd, hvd⟩ := cut_drop (P := Try.prog) (d := K8) 27 5 Try.underlying27 (info_parts info8).choose_spec.1 (info_parts info8).choose_spec.2.2.1 A3 c3 xs (m : Int) (by omega) (by omega) hcap
      rw [Int.toNat_natCast] at hct hvt hcd hvd
      have happ := feed_app (xs.take m) (xs.drop m) cur
      rw [List.take_append_drop] at happ
      have hPb : Hid (∀ x ∈ xs.take m, 0 ≤ x ∧ x < 256) := Lib.hid (fun x hx => hxb.out x (List.mem_of_mem_take hx))
      have hQb : Hid (∀ x ∈ xs.drop m, 0 ≤ x ∧ x < 256) := Lib.hid (fun x hx => hxb.out x (List.mem_of_mem_drop hx))
      have hPQ : (xs.take m).length + (xs.drop m).length = xs.length := by rw [← List.length_append, List.take_append_drop]
      generalize hP : xs.take m = P at *
      generalize hQ : xs.drop m = Q at *
      obtain ⟨L1, hL1⟩ : ∃ L1, (feed cur P).1.map lineV = L1 := ⟨_, rfl⟩
      obtain ⟨cur1, hcur1⟩ : ∃ cur1, (feed cur P).2 = cur1 := ⟨_, rfl⟩
      have hinv1 : Hid ((out ++ L1) ++ (feed cur1 Q).1.map lineV = T ∧ (feed cur1 Q).2 = F) := by
        have h := hinv.out
        rw [happ] at h
        simp only [List.map_append] at h
        rw [hL1, hcur1] at h
        exact Lib.hid ⟨by rw [List.append_assoc]; exact h.1, h.2⟩
      have hL1l : L1.length ≤ 6000 := by rw [← hL1, List.length_map]; have := (feed_len P cur).1; omega
      replace hP := Lib.hid hP
      replace hQ := Lib.hid hQ
      replace happ := Lib.hid happ
      replace hL1 := Lib.hid hL1
      replace hcur1 := Lib.hid hcur1
      replace hm := Lib.hid hm
      have hvt0 := Aside0.mk hvt
      have hvd0 := Aside0.mk hvd
      replace hn := Lib.hid hn
      have hcm1 : Hid (came + P.length = came + P.length) := Lib.hid rfl
      clear hvt hvd hn1
      go_wp2_with fail
      refine (H.out.cuse (α := Option Addr × Nat) (R := fun q e => e = .returned (.slice q.1 L1.length q.2)) (Φ' := fun q => HP.val kL (.slice q.1 L1.length q.2) L1) (Ψ' := fun q => Ck g2 cur1 (came + P.length)) 1 rfl (fun M Z hM hZ hd => feed_as (n := P.length) L1 cur1 (came + P.length) rfl hL1.out hcur1.out rfl hM (hvt0.out _ _ hZ.2) hd (by omega) hPb.out (by omega) (by omega))).mono ?_
      rintro e w4 ⟨⟨A7, c7⟩, rfl, H5⟩
      obtain ⟨A9, c9, w5, hrun, H6⟩ := app_lines H5 2 (out := out) (L := L1) (A := A7) (c := c7) rfl (fun Z hz => HP.val_rd hz.2) (by omega)
      generalize hO : out ++ L1 = o1 at *
      have ho1 : o1.length ≤ 12000 := by rw [← hO, List.length_append]; omega
      replace hO := Lib.hid hO
      replace hrun := Aside0.mk hrun
      replace H6 := Aside0.mk H6
      clear H H5 q0
      go_wp2_with (first | refine wpList_app rfl rfl rfl rfl hrun.out ?_ | fail)
      refine (H6.out.cuse (α := Option Addr × Nat) (R := fun q e => e = .returned (.slice q.1 0 q.2)) (Φ' := fun q => HP.val kL (.slice q.1 0 q.2) []) (Ψ' := fun q => Ck g2 cur1 (came + P.length)) 1 rfl (fun M Z hM hZ hd => feed_as (b := []) (n := 0) [] cur1 (came + P.length) rfl rfl rfl (by simp) hM (HP.val_nil _ _ _) hd (by simp) (by simp) (by omega) (by omega))).mono ?_
      rintro e w6 ⟨⟨A10, c10⟩, rfl, H7⟩
      obtain ⟨A11, c11, w7, hrun2, H8⟩ := app_lines H7 2 (out := o1) (L := []) (A := A10) (c := c10) rfl (fun Z hz => HP.val_rd (xs := []) hz.2) (by simp; omega)
      rw [List.append_nil] at hrun2 H8
      replace hrun2 := Aside0.mk hrun2
      have H9 := Aside0.mk (H8.imp (Φ' := (((HP.val K8 (.slice A b.length c) b).and (HP.rd K16 (some ad) cuts)).and (HP.val kL (.slice AT T.length cT) T)).and (HP.val K8 (.slice A8 Q.length (c3 - m)) Q)) (fun Z hz => ⟨hz.1.1.1, hvd0.out _ _ hz.1.1.2⟩))
      clear H6 H7 H8 hrun
      go_wp2_with (refine wpList_app rfl rfl rfl rfl hrun2.out ?_)
      go_roundw
      case rel => exact ⟨k + 1, Q, cur1, A8, c3 - m, o1, A11, c11, came + P.length, by omega, by go_num, rfl, rfl, hQb, hinv1, by omega, by omega, H9⟩
      case measure => simp [intOf]; omega
    · obtain ⟨L1, hL1⟩ : ∃ L1, (feed cur xs).1.map lineV = L1 := ⟨_, rfl⟩
      have hi := hinv.out
      rw [hL1] at hi
      have hL1l : L1.length ≤ 6000 := by have := congrArg List.length hi.1; rw [List.length_append] at this; omega
      have hT2 : out ++ L1 = T := hi.1
      have hF2 : (feed cur xs).2 = F := hi.2
      have hxl : xs.length ≤ 6000 := by omega
      replace hL1 := Lib.hid hL1
      replace hF2 := Lib.hid hF2
      clear hi
      go_wp2_with fail
      refine (H.out.cuse (α := Option Addr × Nat) (R := fun q e => e = .returned (.slice q.1 L1.length q.2)) (Φ' := fun q => HP.val kL (.slice q.1 L1.length q.2) L1) (Ψ' := fun q => Ck g2 F b.length) 1 rfl (fun M Z hM hZ hd => feed_as (n := xs.length) L1 F b.length rfl hL1.out hF2.out (by omega) hM hZ.2 hd (by omega) hxb.out (by omega) (by omega))).mono ?_
      rintro e w4 ⟨⟨A7, c7⟩, rfl, H5⟩
      obtain ⟨A9, c9, w5, hrun, H6⟩ := app_lines H5 2 (out := out) (L := L1) (A := A7) (c := c7) rfl (fun Z hz => HP.val_rd hz.2) (by omega)
      rw [hT2] at hrun H6
      replace hrun := Aside0.mk hrun
      have hff : ((T.length : Int) == T.length) = true := beq_self_eq_true _
      have hhh : (((held F).length : Int) == (held F).length) = true := beq_self_eq_true _
      have hbl : ((b.length : Int) == b.length) = true := beq_self_eq_true _
      have H7 := Aside0.mk ((H6.freezeRow 2 rfl (Nat.le_refl _)).imp (Φ' := (HP.val kL (.slice AT T.length cT) T).and (HP.val kL (.slice A9 T.length c9) T)) (fun Z hz => ⟨hz.1.1.1.2, HP.val_of (d := kL) hz.2 (reps_lcs T)⟩))
      clear H H5 H6
      go_wp2_with (refine wpList_app rfl rfl rfl rfl hrun.out ?_)
      refine (H7.out.cread 0 rfl (fun M hM => held_ck hM)).mono ?_
      rintro e w6 ⟨rfl, H8⟩
      replace H8 := Aside0.mk H8
      go_wp2_with fail
      refine (H8.out.cread 1 rfl (fun M hM => held_ck hM)).mono ?_
      rintro e w7 ⟨rfl, H9⟩
      replace H9 := Aside0.mk H9
      go_wp2_with fail
      refine (H9.out.cread 0 rfl (fun M hM => came_ck hM)).mono ?_
      rintro e w8 ⟨rfl, H10⟩
      replace H10 := Aside0.mk H10
      go_wp2_with fail
      refine (H10.out.cread 1 rfl (fun M hM => came_ck hM)).mono ?_
      rintro e w9 ⟨rfl, H11⟩
      replace H11 := Aside0.mk H11
      clear H7 H8 H9 H10 hrun
      have heq := eq_same
      have hgd : Try.prog.eqGuardType Try.prog.depth 35 = false := by kernel_rfl
      go_wp2
      go_loopw [85] (fun i wr => ∃ j : Nat, j ≤ T.length ∧ i = .int .i64 j ∧ Aside0 (Cx (fun _ => False) (fun k => k < W.heap.size) W wr ((HP.val kL (.slice AT T.length cT) T).and (HP.val kL (.slice A9 T.length c9) T)) [Ck g1 F b.length, Ck g2 F b.length, HP.tt])) (fun i _ => T.length - (intOf i).toNat)
      case atStart => exact ⟨0, by omega, rfl, H11⟩
      case round =>
        clear H11
        obtain ⟨j, hj, rfl, H⟩ := hrel
        by_cases hjl : j < T.length
        · obtain ⟨x, hx⟩ : ∃ x, T[j]? = some x := ⟨_, List.getElem?_eq_getElem hjl⟩
          obtain ⟨ad1, rfl, p0, p1⟩ := line_at (HP.val_rd H.out.now.choose_spec.1) j hx
          obtain ⟨ad2, rfl, q0, q1⟩ := line_at (HP.val_rd H.out.now.choose_spec.2) j hx
          have hj0 : (0 : Int) ≤ j := by omega
          have hj1 : (j : Int) < T.length := by omega
          obtain ⟨s, l⟩ := x
          simp only at p0 p1 q0 q1
          replace hx := Lib.hid hx
          go_wp2
          go_quiet (fail)
          go_wp2
          go_roundw
          case rel => exact ⟨j + 1, by omega, by go_num, ⟨H.out.drewN _⟩⟩
          case measure => simp [intOf]; omega
        · obtain rfl : j = T.length := by omega
          have hj1 : ¬ (T.length : Int) < T.length := by omega
          obtain ⟨s, l, hE⟩ : ∃ s l, lineV F = (s, l) := ⟨_, _, rfl⟩
          obtain ⟨ok, hok⟩ : ∃ ok, ok = !F.isEmpty := ⟨_, rfl⟩
          replace hE := Lib.hid hE
          replace hok := Lib.hid hok
          have hkk : (ok == ok) = true := beq_self_eq_true _
          have hu := Try.underlying35
          go_wp2_with fail
          refine (H.out.cobj 0 rfl (fun M Z hM hZ hd => end_ck hM hd s l ok hE hok)).mono ?_
          rintro e w10 ⟨rfl, H12⟩
          have H13 := Aside0.mk (H12.alloc (.cells #[.string s, .bool l] 35 (0, 0)))
          clear H H12
          go_wp2_with fail
          refine (H13.out.cobj 1 rfl (fun M Z hM hZ hd => end_ck hM hd s l ok hE hok)).mono ?_
          rintro e w11 ⟨rfl, H14⟩
          have H15 := Aside0.mk (H14.alloc (.cells #[.string s, .bool l] 35 (0, 0)))
          have p0 := H15.out.cell 3 rfl 0 rfl
          have p1 := H15.out.cell 3 rfl 1 rfl
          have q0 := H15.out.cell 4 rfl 0 rfl
          have q1 := H15.out.cell 4 rfl 1 rfl
          clear H13 H14
          go_wp2_with fail
          refine lives_true.mono ?_
          rintro e wl ⟨rfl, hb⟩
          have HL := Aside0.mk (H15.out.skip hb)
          clear hb
          go_wp2
          go_ret
          exact ⟨rfl, HL.out.below⟩
theorem u8_wf {x : Int} (h : (Lit.int .u8 x).wf = true) : 0 ≤ x ∧ x < 256 := by
  simp [Lit.wf] at h
  have h1 : IntKind.u8.min = 0 := rfl
  have h2 : IntKind.u8.max = 255 := rfl
  omega
theorem u16_wf {x : Int} (h : (Lit.int .u16 x).wf = true) : 0 ≤ x ∧ x < 65536 := by
  simp [Lit.wf] at h
  have h1 : IntKind.u16.min = 0 := rfl
  have h2 : IntKind.u16.max = 65535 := rfl
  omega
theorem pieces_walk (w : World) (A : Option Addr) (c : Nat) (b : List Int) (hl : b.length ≤ c) (hC : K8.C w A b.length b) (hb : ∀ x ∈ b, (Lit.int .u8 x).wf = true) (A' : Option Addr) (c' : Nat) (cuts : List Int) (_hl : cuts.length ≤ c') (hC' : K16.C w A' cuts.length cuts) (hb' : ∀ x ∈ cuts, (Lit.int .u16 x).wf = true) :
    Calls Try.prog 4 #[.slice A b.length c, .slice A' cuts.length c'] w fun e w' => e = .returned (.bool true) ∧ Below w.heap.size w w' := by
  by_cases h : 6000 < b.length ∨ 60 < cuts.length
  · exact pieces_great h
  · exact pieces_small hl hC hC' (fun x hx => u8_wf (hb x hx)) (fun x hx => u16_wf (hb' x hx)) (by omega) (by omega)
end Go.Proofs.Ytbndpdjpfehdnaa.Chunk
