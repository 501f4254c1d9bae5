/- Forget, and whether rows fit. No condition. -/
import Derived.Test.YtpakcfbjjlmcaaaTape2
import Derived.Laws.MakeOwn
import Derived.Deep.RegionLaw
set_option linter.unusedVariables false
set_option linter.unusedSimpArgs false
set_option maxHeartbeats 1600000
set_option maxRecDepth 100000
namespace Go.Proofs.Ytpakcfbjjlmcaaa.Tape
open Go.RowKit Go.RK Go.Proofs.YtpakcfbjjlmcaaaW.PrintWords
variable {W : World} {M Z : Nat → Prop} {g : Nat} {first width : Int} {v : Value} {R : List (List Int)}
theorem make_rows (q : Nat) (hq : q ≤ 1000000) : ∃ o : Obj, o = .cells (List.replicate q (.slice none 0 0)).toArray 22 (0, 0) ∧ ∀ W : World, (Instr.makeSlice 38 (.int .i64 q) (.int .i64 q)).run Try.prog W = .ok (.slice (some ⟨W.heap.size, 0, none⟩) q q) (W.alloc o) := by
  refine ⟨_, rfl, fun W => ?_⟩
  have hi : ∃ i, Try.prog.info? 22 = some i ∧ i.zero = some (.slice none 0 0) ∧ i.size = 1 ∧ i.bytes = 24 := info_parts infoR
  obtain ⟨i, h1, h2, h3, h4⟩ := hi
  have h := run_make (P := Try.prog) W 38 22 i (.slice none 0 0) Try.underlying38 h1 h2 .i64 .i64 q q (by omega) (by omega) (by rw [h4]; omega) (by omega)
  rw [h, h3, Int.toNat_natCast, Nat.mul_one]
  rw [show (Value.slice none 0 0).cells = #[.slice none 0 0] from rfl, madeCells_one]
theorem forget_nil (b : Int) : Calls Try.prog 65 #[.pointer none, .int .i64 b] W fun e w' => e = .returned (.tuple #[]) ∧ w' = W := by
  go_enter Try.func65, Try.ntmps65
  go_wp2
  exact bodyPost_ret (v := .tuple #[]) (by simp [results, Try.results65, go_sem]) rfl ⟨rfl, rfl⟩
theorem forget_still (b : Int) (h : (HP.blk g (tp v first width)).at_ W M) (hb : b ≤ first) : Calls Try.prog 65 #[.pointer (some ⟨g, 0, none⟩), .int .i64 b] W fun e w' => e = .returned (.tuple #[]) ∧ w' = W := by
  have k1 : W.cell? ⟨g, 1, none⟩ = some (.int .i64 first) := cell_blk h.1 rfl
  clear h
  go_enter Try.func65, Try.ntmps65
  go_wp2
  exact bodyPost_ret (v := .tuple #[]) (by simp [results, Try.results65, go_sem]) rfl ⟨rfl, rfl⟩
theorem forget_to {A : Option Addr} {c : Nat} (b : Int) (k : Nat) (h : (HP.blk g (tp (.slice A R.length c) first width)).at_ W M) (hv : (HP.val KR (.slice A R.length c) R).at_ W Z) (hd : ∀ k, Z k → ¬ M k) (h1 : 0 ≤ first) (h2 : first + R.length ≤ 1000000) (hb : first < b) (hc : b ≤ first + R.length) (hk : Hid (b = first + k)) :
    Calls Try.prog 65 #[.pointer (some ⟨g, 0, none⟩), .int .i64 b] W fun e w' => e = .returned (.tuple #[]) ∧ ∃ v', Does W M Z (HP.val KR v' (R.drop k)) (HP.blk g (tp v' (b) width)) w' := by
  have k1 : W.cell? ⟨g, 1, none⟩ = some (.int .i64 first) := cell_blk h.1 rfl
  have H := Aside0.mk (Cx.start h hv hd)
  have hkl : k ≤ R.length := by have := hk.out; omega
  have hcap := HP.val_le hv
  obtain ⟨A1, hcut, hval⟩ := cut_drop (P := Try.prog) (d := KR) 38 22 Try.underlying38 (info_parts infoR).choose_spec.1 (info_parts infoR).choose_spec.2.2.1 A c R (k : Int) (by omega) (by omega) hcap
  rw [Int.toNat_natCast] at hcut hval
  obtain ⟨R', hR⟩ : ∃ R', R' = R.drop k := ⟨_, rfl⟩
  have hRl : (R'.length : Int) = first + R.length - (b) := by rw [hR, List.length_drop]; have := hk.out; omega
  have hwk : IntKind.i64.wrap (b - first) = (k : Int) := by rw [IntWalk.i64_in _ (by omega)]; have := hk.out; omega
 
  rw [← hR] at hcut hval ⊢
  obtain ⟨o, ho, hmk⟩ := make_rows R'.length (by omega)
  replace ho := Lib.hid ho
  rw [show (R'.length : Int) = (first + R.length - b) by omega] at hmk
  have hRle : R'.length ≤ 1000000 := by omega
  replace hRl := Lib.hid hRl
  replace hR := Lib.hid hR
  have hval0 := Aside0.mk hval
  clear h hv hd hval
  go_enter Try.func65, Try.ntmps65
  go_wp2_with fail
  refine (end_tp (H.out.blk 0 rfl) h1 h2).mono ?_
  rintro e w1 ⟨rfl, hb1⟩
  have H1 := Aside0.mk (H.out.skip hb1)
  go_wp2_with fail
  refine (end_tp (H1.out.blk 0 rfl) h1 h2).mono ?_
  rintro e w2 ⟨rfl, hb2⟩
  have H2 := Aside0.mk ((H1.out.skip hb2).imp (Φ' := HP.val KR (.slice A1 R'.length (c - k)) R') (fun Z hz => hval0.out _ _ hz))
  clear hval0
  have H3 := Aside0.mk (H2.out.more (R := fun cs : List Value => cs.length = R'.length ∧ (∀ u ∈ cs, u.oneCell' = true) ∧ (0 < R'.length → ∃ ad, A1 = some ad ∧ ∀ j u, cs[j]? = some u → w2.cell? (ad.add j) = some u)) (Φ' := fun cs => HP.reps KR R' cs) (fun Z hz => by
    obtain ⟨cs, h1, h2, h3, h4⟩ := rd_cells (d := KR) rfl (HP.val_rd hz)
    exact ⟨cs, ⟨h1, h3, h4⟩, h2⟩))
  obtain ⟨cells, ⟨hcl, hone, hsrc⟩, H4⟩ := H3.out
  obtain ⟨w3, hrun, H5⟩ := (((H4.alloc o).drew).cpy (P := Try.prog) 1 38 38 3 22 22 (cur := List.replicate R'.length (.slice none 0 0)) (by rw [← ho.out]; rfl) Try.underlying38 (by kernel_rfl) A1 R'.length R'.length R'.length (c - k) cells (by rw [hcl]; exact (Nat.min_self _).symm) (fun hp => by
    obtain ⟨ad, e1, e2⟩ := hsrc (by omega)
    exact ⟨ad, e1, fun j u hj => cell_dr (cell_al (e2 j u hj) _)⟩) (by simp [hcl]) hone)
  have hcl0 : cells ++ (List.replicate R'.length (Value.slice none 0 0)).drop cells.length = cells := by rw [hcl]; simp
  rw [hcl0] at H5
  have H6 := (H5.full 1 22 rfl (by have := H4.size; omega) hcl (by omega))
  have H7 := Aside0.mk (((H6.freezeRow 1 rfl (Nat.le_refl _)).imp (Φ' := HP.val KR (.slice (some ⟨w2.heap.size, 0, none⟩) R'.length R'.length) R') (fun Z hz => HP.val_of (d := KR) hz.2 hz.1.2)).take 1)
  rw [hcl] at hrun
  replace hrun := Aside0.mk hrun
  have p0 := ((H4.alloc o)).cell 0 rfl 0 rfl
  have p1 := ((H4.alloc o)).cell 0 rfl 1 rfl
  clear H3 H4 H5 H6 hcl hone hsrc hcl0 H H1 H2
  have qf := fun j => H7.out.unfrozen 0 rfl j
  have q0 := H7.out.cell 0 rfl 0 rfl
  have q1 := H7.out.cell 0 rfl 1 rfl
  go_wp2
  go_region_law ((refine step_cpy (by rfl) (by rfl) (by rfl) (by rfl) hrun.out ?_))
  all_goals
    go_wp2
    go_end0
    exact ⟨rfl, .slice (some ⟨w2.heap.size, 0, none⟩) R'.length R'.length, ((H7.out.put 0 rfl 0 (.slice (some ⟨w2.heap.size, 0, none⟩) R'.length R'.length)).put 0 rfl 1 (.int .i64 (b))).done 0 rfl⟩
theorem forget_all {A : Option Addr} {c : Nat} (b : Int) (k : Nat) (h : (HP.blk g (tp (.slice A R.length c) first width)).at_ W M) (hv : (HP.val KR (.slice A R.length c) R).at_ W Z) (hd : ∀ k, Z k → ¬ M k) (h1 : 0 ≤ first) (h2 : first + R.length ≤ 1000000) (hb : first < b) (hc : first + R.length < b) (hk : Hid (first + R.length = first + k)) :
    Calls Try.prog 65 #[.pointer (some ⟨g, 0, none⟩), .int .i64 b] W fun e w' => e = .returned (.tuple #[]) ∧ ∃ v', Does W M Z (HP.val KR v' (R.drop k)) (HP.blk g (tp v' (first + R.length) width)) w' := by
  have k1 : W.cell? ⟨g, 1, none⟩ = some (.int .i64 first) := cell_blk h.1 rfl
  have H := Aside0.mk (Cx.start h hv hd)
  have hkl : k ≤ R.length := by have := hk.out; omega
  have hcap := HP.val_le hv
  obtain ⟨A1, hcut, hval⟩ := cut_drop (P := Try.prog) (d := KR) 38 22 Try.underlying38 (info_parts infoR).choose_spec.1 (info_parts infoR).choose_spec.2.2.1 A c R (k : Int) (by omega) (by omega) hcap
  rw [Int.toNat_natCast] at hcut hval
  obtain ⟨R', hR⟩ : ∃ R', R' = R.drop k := ⟨_, rfl⟩
  have hRl : (R'.length : Int) = first + R.length - (first + R.length) := by rw [hR, List.length_drop]; have := hk.out; omega
  obtain rfl : k = R.length := by have := hk.out; omega
  have hwk : IntKind.i64.wrap (first + R.length - first) = (R.length : Int) := by rw [IntWalk.i64_in _ (by omega)]; omega
  rw [← hR] at hcut hval ⊢
  obtain ⟨o, ho, hmk⟩ := make_rows R'.length (by omega)
  replace ho := Lib.hid ho
  rw [show (R'.length : Int) = ((0 : Int)) by omega] at hmk
  have hRle : R'.length ≤ 1000000 := by omega
  replace hRl := Lib.hid hRl
  replace hR := Lib.hid hR
  have hval0 := Aside0.mk hval
  clear h hv hd hval
  go_enter Try.func65, Try.ntmps65
  go_wp2_with fail
  refine (end_tp (H.out.blk 0 rfl) h1 h2).mono ?_
  rintro e w1 ⟨rfl, hb1⟩
  have H1 := Aside0.mk (H.out.skip hb1)
  go_wp2_with fail
  refine (end_tp (H1.out.blk 0 rfl) h1 h2).mono ?_
  rintro e w2 ⟨rfl, hb2⟩
  have H2 := Aside0.mk ((H1.out.skip hb2).imp (Φ' := HP.val KR (.slice A1 R'.length (c - R.length)) R') (fun Z hz => hval0.out _ _ hz))
  clear hval0
  have H3 := Aside0.mk (H2.out.more (R := fun cs : List Value => cs.length = R'.length ∧ (∀ u ∈ cs, u.oneCell' = true) ∧ (0 < R'.length → ∃ ad, A1 = some ad ∧ ∀ j u, cs[j]? = some u → w2.cell? (ad.add j) = some u)) (Φ' := fun cs => HP.reps KR R' cs) (fun Z hz => by
    obtain ⟨cs, h1, h2, h3, h4⟩ := rd_cells (d := KR) rfl (HP.val_rd hz)
    exact ⟨cs, ⟨h1, h3, h4⟩, h2⟩))
  obtain ⟨cells, ⟨hcl, hone, hsrc⟩, H4⟩ := H3.out
  obtain ⟨w3, hrun, H5⟩ := (((H4.alloc o).drew).cpy (P := Try.prog) 1 38 38 3 22 22 (cur := List.replicate R'.length (.slice none 0 0)) (by rw [← ho.out]; rfl) Try.underlying38 (by kernel_rfl) A1 R'.length R'.length R'.length (c - R.length) cells (by rw [hcl]; exact (Nat.min_self _).symm) (fun hp => by
    obtain ⟨ad, e1, e2⟩ := hsrc (by omega)
    exact ⟨ad, e1, fun j u hj => cell_dr (cell_al (e2 j u hj) _)⟩) (by simp [hcl]) hone)
  have hcl0 : cells ++ (List.replicate R'.length (Value.slice none 0 0)).drop cells.length = cells := by rw [hcl]; simp
  rw [hcl0] at H5
  have H6 := (H5.full 1 22 rfl (by have := H4.size; omega) hcl (by omega))
  have H7 := Aside0.mk (((H6.freezeRow 1 rfl (Nat.le_refl _)).imp (Φ' := HP.val KR (.slice (some ⟨w2.heap.size, 0, none⟩) R'.length R'.length) R') (fun Z hz => HP.val_of (d := KR) hz.2 hz.1.2)).take 1)
  rw [hcl] at hrun
  replace hrun := Aside0.mk hrun
  have p0 := ((H4.alloc o)).cell 0 rfl 0 rfl
  have p1 := ((H4.alloc o)).cell 0 rfl 1 rfl
  clear H3 H4 H5 H6 hcl hone hsrc hcl0 H H1 H2
  have qf := fun j => H7.out.unfrozen 0 rfl j
  have q0 := H7.out.cell 0 rfl 0 rfl
  have q1 := H7.out.cell 0 rfl 1 rfl
  go_wp2
  go_region_law ((refine step_cpy (by rfl) (by rfl) (by rfl) (by rfl) hrun.out ?_))
  all_goals
    go_wp2
    go_end0
    exact ⟨rfl, .slice (some ⟨w2.heap.size, 0, none⟩) R'.length R'.length, ((H7.out.put 0 rfl 0 (.slice (some ⟨w2.heap.size, 0, none⟩) R'.length R'.length)).put 0 rfl 1 (.int .i64 (first + R.length))).done 0 rfl⟩
end Go.Proofs.Ytpakcfbjjlmcaaa.Tape
