/- The methods of a window's best, by what the window holds. No condition. -/
import Derived.Test.YtpakcfbjjlmcaaaDeque2
set_option linter.unusedVariables false
set_option linter.unusedSimpArgs false
set_option maxHeartbeats 3200000
set_option maxRecDepth 100000
namespace Go.Proofs.Ytpakcfbjjlmcaaa.Deque
open Go.RowKit Go.RK Go.DQ Go.Proofs.YtpakcfbjjlmcaaaW.PrintWords
variable {W : World} {M Z : Nat → Prop} {g : Nat} {least : Bool} {most p : Int} {L : List Int}
theorem kept_len (least : Bool) (p : Int) : ∀ L : List Int, (kept least p L).length ≤ L.length := by
  intro L
  induction L generalizing p with
  | nil => simp [kept]
  | cons x xs ih =>
    have := ih (p + 1)
    simp only [kept]
    split <;> simp only [List.length_cons] <;> omega
theorem push_nil (n : Int) : Calls Try.prog 51 #[.pointer none, .int .i64 n] W fun e w' => e = .returned (.int .i64 1) ∧ Below W.heap.size W w' := by
  have H1 := Aside0.mk (((Cx.startz (W := W) (Φ := HP.tt) (Z := fun _ => False) trivial).alloc (.cells #[.pointer none] 77 (0, 0))).alloc1 (.cells #[.int .i64 n] 2 (0, 0)))
  have k2 := H1.out.cell 0 rfl 0 rfl
  go_enter Try.func51, Try.ntmps51
  go_wp2
  go_ret
  exact ⟨rfl, H1.out.below⟩
theorem push_full (n : Int) (h : (DqH g least most p L).at_ W M) (hZ : ∀ k, Z k → ¬ M k) (hp : 0 ≤ p) (h2 : p + L.length ≤ 1000000) (hl : (L.length : Int) = most) :
    Calls Try.prog 51 #[.pointer (some ⟨g, 0, none⟩), .int .i64 n] W fun e w' => e = .returned (.int .i64 19) ∧ Does W M Z HP.tt (DqH g least most p L) w' := by
  obtain ⟨A, c, ha⟩ := DqH.opn h
  have H1 := Aside0.mk (((start2 (Φ := HP.tt) ha trivial hZ).alloc (.cells #[.pointer (some ⟨g, 0, none⟩)] 77 (0, 0))).alloc1 (.cells #[.int .i64 n] 2 (0, 0)))
  have hb : ((L.length : Int) == most) = true := by simp [hl]
  have hcl := Lib.hid (show p + (L.length : Int) - p = L.length by omega)
  replace hl := Lib.hid hl
  clear h ha
  go_enter Try.func51, Try.ntmps51
  have k2 := H1.out.cell 2 rfl 0 rfl
  go_upto_region 3 with (fail)
  clear k2
  go_region_held3 (fun w' => w'.cell? ⟨W.heap.size, 0, none⟩ = some (.pointer (some ⟨g, 0, none⟩)) ∧ w'.cell? ⟨g, 2, none⟩ = some (.int .i64 most)) (exact ⟨H1.out.cell 2 rfl 0 rfl, H1.out.cell 0 rfl 2 rfl⟩)
    (first | (go_at_call 54; refine (H1.out.drew.cread 0 rfl (fun M hM => len_blk (L.length : Int) hM.1 hcl hp (by omega) h2)).mono ?_; rintro e Wh ⟨rfl, H2⟩; replace H1 := Aside0.mk H2; clear H2))
  rename_i hHeld
  clear hHeld
  go_wp2
  go_ret
  exact ⟨rfl, done2 H1.out rfl rfl rfl rfl⟩
theorem push_ok (n : Int) (h : (DqH g least most p L).at_ W M) (hZ : ∀ k, Z k → ¬ M k) (hp : 0 ≤ p) (h2 : p + L.length ≤ 1000000) (hl : (L.length : Int) ≠ most) (hl2 : L.length ≤ 1000) :
    Calls Try.prog 51 #[.pointer (some ⟨g, 0, none⟩), .int .i64 n] W fun e w' => e = .returned (.int .i64 0) ∧ Does W M Z HP.tt (DqH g least most p (L ++ [n])) w' := by
  obtain ⟨A, c, ha⟩ := DqH.opn h
  have hkl := kept_len least p L
  have hks := kept_sorted (least := least) p L
  have hkp := kept_push (least := least) n p L
  have hcl := Lib.hid (show p + (L.length : Int) - p = L.length by omega)
  generalize hE : kept least p L = E at *
  generalize hcm : p + (L.length : Int) = cm at *
  have H1 := Aside0.mk (((start2 (Φ := HP.tt) ha trivial hZ).alloc (.cells #[.pointer (some ⟨g, 0, none⟩)] 77 (0, 0))).alloc1 (.cells #[.int .i64 n] 2 (0, 0)))
  have hb : ((L.length : Int) == most) = false := by rw [beq_eq_false_iff_ne]; exact hl
  have hpc : p ≤ cm := by omega
  have hw : IntKind.i64.wrap (cm + 1) = cm + 1 := IntWalk.i64_in _ (by omega)
  replace hl := Lib.hid hl
  replace hE := Lib.hid hE
  replace hcm := Lib.hid hcm
  replace hkp := Lib.hid hkp
  replace hks := Lib.hid hks
  clear h ha
  go_enter Try.func51, Try.ntmps51
  have k2 := H1.out.cell 2 rfl 0 rfl
  go_upto_region 3 with (fail)
  clear k2
  go_region_held3 (fun w' => w'.cell? ⟨W.heap.size, 0, none⟩ = some (.pointer (some ⟨g, 0, none⟩)) ∧ w'.cell? ⟨g, 2, none⟩ = some (.int .i64 most)) (exact ⟨H1.out.cell 2 rfl 0 rfl, H1.out.cell 0 rfl 2 rfl⟩)
    (first | (go_at_call 54; refine (H1.out.drew.cread 0 rfl (fun M hM => len_blk (L.length : Int) hM.1 hcl hp (by omega) h2)).mono ?_; rintro e Wh ⟨rfl, H2⟩; replace H1 := Aside0.mk H2; clear H2))
  rename_i hHeld
  clear hHeld
  have k2 := H1.out.cell 2 rfl 0 rfl
  go_wp2_with fail
  clear k2
  refine (beaten_cx n (by omega) H1).mono ?_
  rintro e w1 ⟨rfl, j, hj, hd1, hd2, H2⟩
  have hpp := Lib.hid (popped n E hks.out j hj hd1 hd2)
  replace H1 := Aside0.mk H2
  clear H2 hd1 hd2
  go_wp2
  go_region_held3 (fun w' => w'.cell? ⟨W.heap.size, 0, none⟩ = some (.pointer (some ⟨g, 0, none⟩)) ∧ w'.cell? ⟨W.heap.size + 1, 0, none⟩ = some (.int .i64 n) ∧ w'.cell? ⟨g, 3, none⟩ = some (.int .i64 cm)) (first | exact ⟨H1.out.cell 2 rfl 0 rfl, H1.out.cell 3 rfl 0 rfl, H1.out.cell 0 rfl 3 rfl⟩)
    (first | (go_at_call 85; refine (put_cx (E := E.take j) (rest := [_, _]) n cm (by omega) ⟨H1.out.drew⟩).mono ?_; rintro e Wh ⟨rfl, A2, c2, H2⟩; replace H1 := Aside0.mk H2; clear H2))
  rename_i hHeld
  clear hHeld
  have k2 := H1.out.cell 2 rfl 0 rfl
  have k3 := H1.out.cell 0 rfl 3 rfl
  have kf := fun j => H1.out.unfrozen 0 rfl j
  go_wp2
  go_ret
  refine ⟨rfl, done2 (rest := [_, _]) (H1.out.put 0 rfl 3 (.int .i64 (cm + 1))) ?_ ?_ ?_ rfl⟩
  · rw [hkp.out, hpp.out]
  · rw [hkp.out, ← hpp.out]; simp; omega
  · rw [← hcm.out]; simp; omega

theorem raw_blk {v : Value} {n : Nat} {cells : List Value} (h : (HP.raw 0 139 2 v n cells).at_ W M) (hn : 0 < n) : ∃ gb c, v = .slice (some ⟨gb, 0, none⟩) n c ∧ n ≤ c ∧ ∀ j u, cells[j]? = some u → W.cell? ⟨gb, j, none⟩ = some u := by
  obtain ⟨⟨hl, h1⟩, _⟩ := h
  rcases h1 with ⟨_, rfl⟩ | ⟨gb, cap, cur, rfl, _, hh, h3, h4, h5, h6⟩
  · omega
  · refine ⟨gb, cap, rfl, h3, fun j u hj => cell_blk hh ?_⟩
    rw [← h6, List.getElem?_take] at hj
    split at hj
    · simpa using hj
    · cases hj
theorem src_ecs {A : Option Addr} {n : Nat} {xs : List (Int × Int)} (h : dE.C W A n xs) (hp : 0 < n) : ∃ ad, A = some ad ∧ ∀ j u, (ecs xs)[j]? = some u → W.cell? (ad.add j) = some u := by
  obtain ⟨ad, e, hc⟩ := h.2.2 hp
  refine ⟨ad, e, fun j u hu => ?_⟩
  have hj : j < xs.length * 2 := by rw [← ecs_len]; exact (List.getElem?_eq_some_iff.1 hu).1
  have hi : j / 2 < xs.length := by omega
  obtain ⟨c, hs, ⟨c0, c1, rfl, hK0, hK1⟩, hcell⟩ := hc (j / 2) _ (List.getElem?_eq_getElem hi)
  have hK0' : c0 = [.int .i64 xs[j / 2].1] := hK0
  have hK1' : c1 = [.int .i64 xs[j / 2].2] := hK1
  subst hK0' hK1'
  have h2 := ecs_at (j / 2) xs _ (List.getElem?_eq_getElem hi)
  have hsz : dE.sz = 2 := rfl
  rw [hsz] at hcell
  rcases Nat.mod_two_eq_zero_or_one j with hm | hm
  · have e0 : j / 2 * 2 = j := by omega
    rw [e0] at h2 hcell
    rw [h2.1] at hu
    injection hu with hu
    rw [← hu]
    exact hcell 0 _ rfl
  · have e0 : j / 2 * 2 + 1 = j := by omega
    rw [e0] at h2
    rw [h2.2] at hu
    injection hu with hu
    rw [← hu]
    have := hcell 1 _ rfl
    rwa [e0] at this
theorem clone_ents (A : Option Addr) (c : Nat) (xs : List (Int × Int)) (hr : dE.C W A xs.length xs) (hb : xs.length ≤ 1000000) :
    Calls Try.prog 86 #[.slice A xs.length c] W fun e w' => ∃ v, e = .returned v ∧ Below W.heap.size W w' ∧ (HP.raw W.heap.size 139 2 v xs.length (ecs xs)).at_ w' (fun k => W.heap.size ≤ k) := by
  have heq := fun w => Lib.run_eql_slice_nil (P := Try.prog) w 128 139 A xs.length c 0 0 Try.underlying128
  rcases A with _ | ad
  · obtain rfl : xs = [] := by
      rcases xs with _ | ⟨x, xs⟩
      · rfl
      · obtain ⟨_, h, _⟩ := hr.2.2 (by simp)
        cases h
    simp only [Option.isNone_none, List.length_nil] at heq
    clear hr hb
    go_enter Try.func86, Try.ntmps86
    go_wp2
    go_ret
    exact ⟨_, rfl, Below.refl _ _, HP.raw_nil _ _ _ _ _⟩
  · simp only [Option.isNone_some] at heq
    have H := Aside0.mk ((Cx.startz (W := W) (Φ := HP.tt) (Z := fun _ => False) trivial).alloc (.cells #[] 139 (0, 0)))
    have H1 := Aside0.mk (H.out.impi (Ψ' := HP.raw W.heap.size 139 2 (.slice (some ⟨W.heap.size, 0, none⟩) 0 0) 0 []) 0 rfl (fun M hM => raw_zero hM (Nat.le_refl _)))
    have hrd : dE.C (W.alloc (.cells #[] 139)) (some ad) xs.length xs := Kd.C_below hr (below_alloc (Below.refl _ _) _)
    obtain ⟨v1, w1, hrun, H2⟩ := H1.out.app (P := Try.prog) 0 128 128 139 (.agg #[.int .i64 0, .int .i64 0]) 2 16 rfl (Nat.le_refl _) Try.underlying128 infoD rfl (by omega) (by omega) (some ad) xs.length c (ecs xs) (ecs_len xs) (fun hp => src_ecs hrd hp) (fun u hu => by
      simp only [ecs, List.mem_flatMap, ec] at hu
      obtain ⟨q, _, hq⟩ := hu
      rcases List.mem_cons.1 hq with rfl | hq
      · rfl
      · rw [List.mem_singleton.1 hq]; rfl) (by omega)
    simp only [Nat.zero_add, List.nil_append] at H2
    obtain ⟨A1, c1, rfl, _⟩ := HP.raw_form (H2.get 0 rfl).choose_spec
    replace hrun := Aside0.mk hrun
    have H4 := Aside0.mk ((H2.freezeRow 0 rfl (Nat.le_refl _)).done0)
    clear H H1 H2 hrd hr hb
    go_enter Try.func86, Try.ntmps86
    go_wp2_with (refine wpList_app rfl rfl rfl rfl hrun.out ?_)
    go_ret
    exact ⟨_, rfl, H4.out.1, HP.mono H4.out.2.2 (fun k hk _ => by rcases hk with hk | hk; exact hk.elim; exact hk)⟩
theorem clone_cx {M0 Z0 : Nat → Prop} {W0 : World} {Φ : HP} {Ψs : List HP} (H : Cx M0 Z0 W0 W Φ Ψs) {A : Option Addr} {c : Nat} {xs : List (Int × Int)} (hr : dE.C W A xs.length xs) (hb : xs.length ≤ 1000000) :
    Calls Try.prog 86 #[.slice A xs.length c] W fun e w' => ∃ A1 c1, e = .returned (.slice A1 xs.length c1) ∧ Cx M0 Z0 W0 w' Φ (Ψs ++ [HP.raw 0 139 2 (.slice A1 xs.length c1) xs.length (ecs xs)]) := by
  refine (clone_ents A c xs hr hb).mono ?_
  rintro e w1 ⟨v, rfl, hb, hr⟩
  obtain ⟨A1, c1, rfl, _⟩ := HP.raw_form hr
  exact ⟨A1, c1, rfl, (H.made (Φ' := HP.tt) (Ψ' := HP.raw 0 139 2 (.slice A1 xs.length c1) xs.length (ecs xs)) ⟨own_weaken hr.1 (Nat.zero_le _), hr.2⟩ hb trivial (fun k hk => hk)).fst⟩
/-- the oldest entry goes if it came as number q -/
theorem gone_hit {M0 Z0 : Nat → Prop} {W0 : World} {Φ : HP} {v b m c4 c5 : Value} {E : List (Int × Int)} (n q : Int) (T : List (Int × Int)) (hE : E = (n, q) :: T) (hl : E.length ≤ 1000)
    (H0 : Aside0 (Cx M0 Z0 W0 W Φ [HP.blk g (.cells #[v, b, m, c4, c5] 132 (0, 0)), HP.raw 0 139 2 v E.length (ecs E)])) :
    Calls Try.prog 82 #[.pointer (some ⟨g, 0, none⟩), .int .i64 q] W fun e w' => e = .returned (.tuple #[]) ∧ ∃ v', Cx M0 Z0 W0 w' Φ [HP.blk g (.cells #[v', b, m, c4, c5] 132 (0, 0)), HP.raw 0 139 2 v' T.length (ecs T)] := by
  have hpos : 0 < E.length := by rw [hE]; simp
  obtain ⟨gb, c, rfl, hc, hcell⟩ := raw_blk (H0.out.get 1 rfl).choose_spec hpos
  have hd : (HP.val dE (.slice (some ⟨gb, 0, none⟩) E.length c) E).at_ W _ := HP.val_of (H0.out.get 1 rfl).choose_spec (reps_ecs E)
  obtain ⟨A1, hcut, hval⟩ := cut_drop (P := Try.prog) (d := dE) 128 139 Try.underlying128 (info_parts infoD).choose_spec.1 (info_parts infoD).choose_spec.2.2.1 (some ⟨gb, 0, none⟩) c E 1 (by omega) (by omega) hc
  have hT : E.drop (1 : Int).toNat = T := by rw [hE]; rfl
  rw [hT] at hcut hval
  have hC := Aside0.mk (HP.val_C (hval _ _ hd))
  have h1 := hcell 1 (.int .i64 q) (by rw [hE]; rfl)
  have k0 := H0.out.cell 0 rfl 0 rfl
  have hg0 : (0 : Int) < E.length := by omega
  have hTl : T.length ≤ 1000 := by rw [hE] at hl; simp at hl; omega
  replace hE := Lib.hid hE
  clear hcell hval hd hT
  go_enter Try.func82, Try.ntmps82
  go_wp2_with fail
  refine (clone_cx H0.out hC.out (by omega)).mono ?_
  rintro e w1 ⟨A2, c2, rfl, H1⟩
  replace H1 := Aside0.mk H1
  have q0 := H1.out.cell 0 rfl 0 rfl
  have qf := fun j => H1.out.unfrozen 0 rfl j
  go_wp2
  go_end0
  refine ⟨rfl, .slice A2 T.length c2, ?_⟩
  have := ((H1.out.put 0 rfl 0 (.slice A2 T.length c2)).swap 1 2 rfl (by decide)).take 2
  exact this
theorem gone_miss {M0 Z0 : Nat → Prop} {W0 : World} {Φ : HP} {v b m c4 c5 : Value} {E : List (Int × Int)} (q : Int) (hE : ∀ e, E.head? = some e → e.2 ≠ q) (hl : E.length ≤ 1000)
    (H0 : Aside0 (Cx M0 Z0 W0 W Φ [HP.blk g (.cells #[v, b, m, c4, c5] 132 (0, 0)), HP.raw 0 139 2 v E.length (ecs E)])) :
    Calls Try.prog 82 #[.pointer (some ⟨g, 0, none⟩), .int .i64 q] W fun e w' => e = .returned (.tuple #[]) ∧ Cx M0 Z0 W0 w' Φ [HP.blk g (.cells #[v, b, m, c4, c5] 132 (0, 0)), HP.raw 0 139 2 v E.length (ecs E)] := by
  rcases hEE : E with _ | ⟨⟨n, r⟩, T⟩
  · subst hEE
    obtain ⟨A, c, rfl, _⟩ := HP.raw_form (H0.out.get 1 rfl).choose_spec
    have k0 := H0.out.cell 0 rfl 0 rfl
    go_enter Try.func82, Try.ntmps82
    go_wp2
    go_end0
    exact ⟨rfl, H0.out⟩
  · have hpos : 0 < E.length := by rw [hEE]; simp
    obtain ⟨gb, c, rfl, hc, hcell⟩ := raw_blk (H0.out.get 1 rfl).choose_spec hpos
    have h1 := hcell 1 (.int .i64 r) (by rw [hEE]; rfl)
    have hne : (r == q) = false := by rw [beq_eq_false_iff_ne]; exact hE (n, r) (by rw [hEE]; rfl)
    have k0 := H0.out.cell 0 rfl 0 rfl
    have hg0 : (0 : Int) < E.length := by omega
    rw [← hEE]
    replace hEE := Lib.hid hEE
    clear hcell hE
    go_enter Try.func82, Try.ntmps82
    go_wp2
    go_end0
    exact ⟨rfl, H0.out⟩
end Go.Proofs.Ytpakcfbjjlmcaaa.Deque
