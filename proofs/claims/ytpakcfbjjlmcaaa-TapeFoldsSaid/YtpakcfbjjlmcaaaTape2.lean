/- Row, Clone and the rows' own Clone. No condition. -/
import Derived.Test.YtpakcfbjjlmcaaaTape
set_option linter.unusedVariables false
set_option linter.unusedSimpArgs false
set_option maxHeartbeats 1600000
set_option maxRecDepth 100000
namespace Go.Proofs.Ytpakcfbjjlmcaaa.Tape
open Go.RowKit Go.RK Go.Proofs.YtpakcfbjjlmcaaaW.PrintWords
variable {W : World} {M Z : Nat → Prop} {g : Nat} {first width : Int} {v : Value} {R : List (List Int)}
theorem infoR : (Try.prog.info? 22).map (fun i => (i.zero, i.size, i.bytes)) = some (some (.slice none 0 0), 1, 24) := by kernel_rfl
theorem rows_clone (A : Option Addr) (c : Nat) (hv : (HP.rd KR A R).at_ W Z) (hb : R.length ≤ 1000000) :
    Calls Try.prog 92 #[.slice A R.length c] W fun e w' => ∃ v, e = .returned v ∧ (HP.val KR v R).at_ w' (fun k => Z k ∨ W.heap.size ≤ k) ∧ Below W.heap.size W w' := by
  have heq := fun w => Lib.run_eql_slice_nil (P := Try.prog) w 38 22 A R.length c 0 0 Try.underlying38
  obtain ⟨cells, hcl, hreps, hone, hsrc⟩ := rd_cells (d := KR) rfl hv
  rcases A with _ | ad
  · obtain rfl : R = [] := by
      rcases R with _ | ⟨x, xs⟩
      · rfl
      · obtain ⟨_, h, _⟩ := hsrc (by simp)
        cases h
    simp only [Option.isNone_none, List.length_nil] at heq
    clear hv hreps hone hsrc hb hcl
    go_enter Try.func92, Try.ntmps92
    go_wp2
    go_ret
    exact ⟨_, rfl, HP.val_nil _ _ _, Below.refl _ _⟩
  · simp only [Option.isNone_some] at heq
    have H := Aside0.mk ((Cx.startz (W := W) hreps).alloc (.cells #[] 22 (0, 0)))
    have H1 := Aside0.mk (H.out.rowed 0 22 rfl (Nat.le_refl _))
    obtain ⟨v1, w1, hrun, H2⟩ := H1.out.app (P := Try.prog) 0 38 38 22 (.slice none 0 0) 1 24 rfl (Nat.le_refl _) Try.underlying38 infoR rfl (by omega) (by omega) (some ad) R.length c cells (by omega) (fun hp => by
      obtain ⟨ad', h1, h2⟩ := hsrc hp
      exact ⟨ad', h1, fun j u hj => cell_al (h2 j u hj) _⟩) hone (by omega)
    simp only [Nat.zero_add, List.nil_append] at H2
    obtain ⟨A1, c1, rfl, _⟩ := HP.raw_form (H2.get 0 rfl).choose_spec
    replace hrun := Aside0.mk hrun
    have H4 := Aside0.mk (((H2.freezeRow 0 rfl (Nat.le_refl _)).imp (Φ' := HP.val KR (.slice A1 R.length c1) R) (fun Z hz => HP.val_of (d := KR) hz.2 hz.1)).done0)
    clear H H1 H2 hv hreps hone hsrc hb hcl
    go_enter Try.func92, Try.ntmps92
    go_wp2_with (refine wpList_app rfl rfl rfl rfl hrun.out ?_)
    go_ret
    exact ⟨_, rfl, H4.out.2, H4.out.1⟩
theorem clone_tp {A : Option Addr} {c : Nat} (h : (HP.blk g (tp (.slice A R.length c) first width)).at_ W M) (hv : (HP.val KR (.slice A R.length c) R).at_ W Z) (hd : ∀ k, Z k → ¬ M k) (hb : R.length ≤ 1000000) :
    Calls Try.prog 68 #[.pointer (some ⟨g, 0, none⟩)] W fun e w' => ∃ g' v', e = .returned (.pointer (some ⟨g', 0, none⟩)) ∧ Below W.heap.size W w' ∧ ∃ M1 : Nat → Prop, (HP.blk g' (tp v' first width)).at_ w' M1 ∧ (HP.val KR v' R).at_ w' (fun k => (Z k ∨ W.heap.size ≤ k) ∧ ¬ M1 k) ∧ ∀ k, M1 k → W.heap.size ≤ k := by
  have k0 : W.cell? ⟨g, 0, none⟩ = some (.slice A R.length c) := cell_blk h.1 rfl
  have k1 : W.cell? ⟨g, 1, none⟩ = some (.int .i64 first) := cell_blk h.1 rfl
  have k2 : W.cell? ⟨g, 2, none⟩ = some (.int .i64 width) := cell_blk h.1 rfl
  have H := Aside0.mk ((Cx.startz (W := W) hv).alloc (tp (.slice A R.length c) first width))
  have hv0 := Aside0.mk hv
  have k0' : (W.alloc (tp (.slice A R.length c) first width)).cell? ⟨g, 0, none⟩ = some (.slice A R.length c) := cell_al k0 _
  clear h hv hd
  go_enter Try.func68, Try.ntmps68
  go_wp2_with fail
  refine (H.out.cvalh (fun Z hZ => rows_clone A c (HP.val_rd hZ) hb)).mono ?_
  rintro e w1 ⟨A1, c1, rfl, H1⟩
  replace H1 := Aside0.mk H1
  have q0 := H1.out.cell 0 rfl 0 rfl
  have qf := fun j => H1.out.unfrozen 0 rfl j
  clear k0 k1 k2 k0'
  go_wp2
  go_ret
  have h := ((H1.out.put 0 rfl 0 (.slice A1 R.length c1)).imp (Φ' := HP.val KR (.slice A1 R.length c1) R) (fun Z hz => hz.2)).doneNew 0 rfl
  obtain ⟨hb, M1, h1, h2, h3⟩ := h
  exact ⟨_, _, rfl, hb, M1, h1, h2, h3⟩
theorem row_nil (i : Int) : Calls Try.prog 62 #[.pointer none, .int .i64 i] W fun e w' => e = .returned (.tuple #[.slice none 0 0, .bool false]) ∧ w' = W := by
  go_enter Try.func62, Try.ntmps62
  go_wp2
  go_ret2
  exact ⟨rfl, rfl⟩
theorem row_miss {A : Option Addr} {n c : Nat} (i : Int) (h : (HP.blk g (tp (.slice A n c) first width)).at_ W M) (h1 : 0 ≤ first) (h2 : first + n ≤ 1000000) (hi : ¬ (first ≤ i ∧ i < first + n)) : Calls Try.prog 62 #[.pointer (some ⟨g, 0, none⟩), .int .i64 i] W fun e w' => e = .returned (.tuple #[.slice none 0 0, .bool false]) ∧ Below W.heap.size W w' := by
  have k1 : W.cell? ⟨g, 1, none⟩ = some (.int .i64 first) := cell_blk h.1 rfl
  have hb := Aside0.mk h.1
  by_cases hlt : i < first
  · clear h hi
    go_enter Try.func62, Try.ntmps62
    go_wp2
    go_ret2
    exact ⟨rfl, Below.refl _ _⟩
  · have hge : first + n ≤ i := by omega
    clear h hi
    go_enter Try.func62, Try.ntmps62
    go_wp2_with fail
    refine (end_tp hb.out h1 h2).mono ?_
    rintro e w1 ⟨rfl, hb⟩
    go_wp2
    go_ret2
    exact ⟨rfl, hb⟩
theorem row_hit {A : Option Addr} {c : Nat} (i : Int) (j : Nat) (row : List Int) (h : (HP.blk g (tp (.slice A R.length c) first width)).at_ W M) (hv : (HP.val KR (.slice A R.length c) R).at_ W Z) (h1 : 0 ≤ first) (h2 : first + R.length ≤ 1000000) (hi : Hid (i = first + j)) (hj : R[j]? = some row) (hl : row.length ≤ 1000000) :
    Calls Try.prog 62 #[.pointer (some ⟨g, 0, none⟩), .int .i64 i] W fun e w' => ∃ v', e = .returned (.tuple #[v', .bool true]) ∧ (HP.val KI v' row).at_ w' (fun k => Z k ∨ W.heap.size ≤ k) ∧ Below W.heap.size W w' := by
  have hjl : j < R.length := (List.getElem?_eq_some_iff.1 hj).1
  have k0 : W.cell? ⟨g, 0, none⟩ = some (.slice A R.length c) := cell_blk h.1 rfl
  have k1 : W.cell? ⟨g, 1, none⟩ = some (.int .i64 first) := cell_blk h.1 rfl
  obtain ⟨ad, cs, rfl, hK, hc⟩ := HP.rd_get (HP.val_rd hv) j hj
  obtain ⟨A1, c1, rfl, hl1, hC⟩ := HP.foot_now hK
  have kr : W.cell? (ad.add j) = some (.slice A1 row.length c1) := by have := hc 0 _ rfl; rwa [show j * KR.sz + 0 = j by show j * 1 + 0 = j; omega] at this
  have hi1 : first ≤ i := by have := hi.out; omega
  have hi2 : i < first + R.length := by have := hi.out; omega
  have hw : IntKind.i64.wrap (i - first) = (j : Int) := by rw [IntWalk.i64_in _ (by omega)]; have := hi.out; omega
  have hb := Aside0.mk h.1
  have H := Aside0.mk (Cx.startz (W := W) (Φ := HP.val KR (.slice (some ad) R.length c) R) hv)
  replace hC := Aside0.mk hC
  clear h hv hK hc hj
  go_enter Try.func62, Try.ntmps62
  go_wp2_with fail
  refine (end_tp hb.out h1 h2).mono ?_
  rintro e w1 ⟨rfl, hb1⟩
  have H1 := Aside0.mk (H.out.skip hb1)
  have q0 := pw_cell_below hb1 k0
  have q1 := pw_cell_below hb1 k1
  have qr := pw_cell_below hb1 kr
  have hC1 := Aside0.mk (Kd.C_below hC.out hb1)
  clear k0 k1 kr
  go_upto_region 3 with (fail)
  go_region_held3 (fun w' => w'.cell? ⟨g, 0, none⟩ = some (.slice (some ad) R.length c) ∧ w'.cell? ⟨g, 1, none⟩ = some (.int .i64 first) ∧ w'.cell? (ad.add j) = some (.slice A1 row.length c1))
    (first | exact ⟨q0, q1, qr⟩ | exact ⟨pw_cell_below hcl q0, pw_cell_below hcl q1, pw_cell_below hcl qr⟩)
    (first | (go_at_call 74; refine (Clones.nums A1 c1 row (Kd.C_below hC1.out (below_drew (Below.refl _ _))) hl).mono ?_; rintro e Wh ⟨v2, rfl, hcl, hraw, _⟩; have H2 := Aside0.mk (H1.out.drew.skip hcl)))
  rename_i hHeld
  clear hHeld
  obtain ⟨A3, c3, rfl, _⟩ := HP.raw_form hraw
  have hres := Aside0.mk (HP.mono (M1 := fun k => Z k ∨ W.heap.size ≤ k) (HP.val_of (d := KI) hraw (HP.reps_scalar _ _ rfl)) (fun k hk _ => .inr (Nat.le_trans hb1.size hk)))
  have hbb := Aside0.mk (H2.out.below)
  clear hraw q0 q1 qr
  go_wp2
  go_ret2
  exact ⟨_, rfl, hres.out, hbb.out⟩
end Go.Proofs.Ytpakcfbjjlmcaaa.Tape
