/- The lines of chunks: New, Held, Came, End. No condition but the bounds. -/
import Derived.Test.YtbndpdjpfehdnaaChunk3
set_option linter.unusedVariables false
set_option linter.unusedSimpArgs false
set_option maxHeartbeats 1600000
set_option maxRecDepth 100000
namespace Go.Proofs.Ytbndpdjpfehdnaa.Chunk
open Go.RowKit Go.RK Go.Proofs.YtbndpdjpfehdnaaW.PrintWords
variable {W : World} {M Z : Nat → Prop} {g : Nat} {v : Value} {cur b : List Int} {came : Int}
theorem new_ck : Calls Try.prog 8 #[] W fun e w' => ∃ g, e = .returned (.pointer (some ⟨g, 0, none⟩)) ∧ Below W.heap.size W w' ∧ (Ck g [] 0).at_ w' (fun k => W.heap.size ≤ k) := by
  have hu := Try.underlying47
  go_enter Try.func8, Try.ntmps8
  go_wp2
  go_ret
  exact ⟨W.heap.size, rfl, (Below.refl _ _).alloc (Nat.le_refl _) _, (none, 0), fun k => k = W.heap.size, fun _ => False, ⟨hp_alloc_new _ _, rfl⟩, HP.raw_nil _ _ _ _ _, fun k hk => Nat.le_of_eq hk.symm, fun k hk => hk.elim, fun k _ hk => hk⟩
theorem ck_blk (h : (Ck g cur came).at_ W M) : ∃ A c, W.heap[g]? = some (ckb A (held cur).length c (lg cur) came) := by
  obtain ⟨⟨A, c⟩, a, b, h1, _⟩ := h
  exact ⟨A, c, h1.1⟩
theorem held_ck (h : (Ck g cur came).at_ W M) : Calls Try.prog 11 #[.pointer (some ⟨g, 0, none⟩)] W fun e w' => e = .returned (.int .i64 (held cur).length) ∧ Below W.heap.size W w' := by
  obtain ⟨A, c, hb⟩ := ck_blk h
  have k0 : W.cell? ⟨g, 0, none⟩ = some (.slice A (held cur).length c) := cell_blk hb rfl
  clear h hb
  go_enter Try.func11, Try.ntmps11
  go_wp2
  go_ret
  exact ⟨rfl, Below.refl _ _⟩
theorem came_ck (h : (Ck g cur came).at_ W M) : Calls Try.prog 13 #[.pointer (some ⟨g, 0, none⟩)] W fun e w' => e = .returned (.int .i64 came) ∧ Below W.heap.size W w' := by
  obtain ⟨A, c, hb⟩ := ck_blk h
  have k2 : W.cell? ⟨g, 2, none⟩ = some (.int .i64 came) := cell_blk hb rfl
  clear h hb
  go_enter Try.func13, Try.ntmps13
  go_wp2
  go_ret
  exact ⟨rfl, Below.refl _ _⟩
theorem held_nil : Calls Try.prog 11 #[.pointer none] W fun e w' => e = .returned (.int .i64 0) ∧ w' = W := by
  go_enter Try.func11, Try.ntmps11
  go_wp2
  go_ret
  exact ⟨rfl, rfl⟩
theorem came_nil : Calls Try.prog 13 #[.pointer none] W fun e w' => e = .returned (.int .i64 0) ∧ w' = W := by
  go_enter Try.func13, Try.ntmps13
  go_wp2
  go_ret
  exact ⟨rfl, rfl⟩
theorem clone_nil : Calls Try.prog 16 #[.pointer none] W fun e w' => e = .returned (.pointer none) ∧ w' = W := by
  go_enter Try.func16, Try.ntmps16
  go_wp2
  go_ret
  exact ⟨rfl, rfl⟩
theorem lineV_nil : lineV [] = (⟨#[]⟩, false) := rfl
theorem end_none (o : Option Addr) (h : ∀ g, o = some g → ∃ gg, g = ⟨gg, 0, none⟩ ∧ W.cell? ⟨gg, 1, none⟩ = some (.int .i64 0)) :
    Calls Try.prog 14 #[.pointer o] W fun e w' => e = .returned (.tuple #[.agg #[.string ⟨#[]⟩, .bool false], .bool false]) ∧ Below W.heap.size W w' := by
  have hu := Try.underlying35
  have H0 := Aside0.mk ((Cx.startz (W := W) (Z := fun _ => False) (Φ := HP.tt) trivial).alloc (.cells #[.string ⟨#[]⟩, .bool false] 35 (0, 0)))
  have r0 := H0.out.cell 0 rfl 0 rfl
  have r1 := H0.out.cell 0 rfl 1 rfl
  have qf := fun j => H0.out.unfrozen 0 rfl j
  rcases o with _ | a
  · clear h
    go_enter Try.func14, Try.ntmps14
    go_wp2
    exact bodyPost_ret (v := .tuple #[.agg #[.string ⟨#[]⟩, .bool false], .bool false]) (by simp [results, Try.results14, go_sem, r0, r1]) rfl ⟨rfl, H0.out.below⟩
  · obtain ⟨gg, rfl, k1⟩ := h a rfl
    have k1' := cell_al k1 (.cells #[.string ⟨#[]⟩, .bool false] 35 (0, 0))
    clear h
    go_enter Try.func14, Try.ntmps14
    go_wp2
    exact bodyPost_ret (v := .tuple #[.agg #[.string ⟨#[]⟩, .bool false], .bool false]) (by simp [results, Try.results14, go_sem, r0, r1]) rfl ⟨rfl, H0.out.below⟩
theorem end_nil : Calls Try.prog 14 #[.pointer none] W fun e w' => e = .returned (.tuple #[.agg #[.string ⟨#[]⟩, .bool false], .bool false]) ∧ Below W.heap.size W w' := end_none none (fun g h => by cases h)
theorem end_ck (h : (Ck g cur came).at_ W M) (hd : ∀ k, Z k → ¬ M k) (s : ByteArray) (l ok : Bool) (hs : Hid (lineV cur = (s, l))) (hk : Hid (ok = !cur.isEmpty)) :
    Calls Try.prog 14 #[.pointer (some ⟨g, 0, none⟩)] W fun e w' => e = .returned (.tuple #[.agg #[.string s, .bool l], .bool ok]) ∧ Does W M Z HP.tt (Ck g [] came) w' := by
  obtain ⟨A, c, hb⟩ := ck_blk h
  have k1 : W.cell? ⟨g, 1, none⟩ = some (.int .i64 (lg cur)) := cell_blk hb rfl
  by_cases he : cur = []
  · subst he
    have hs' := hs.out
    rw [lineV_nil] at hs'
    injection hs' with e1 e2
    have e3 := hk.out
    subst e1 e2 e3
    refine (end_none (some ⟨g, 0, none⟩) (fun a ha => ⟨g, (Option.some.inj ha).symm, k1⟩)).mono ?_
    rintro e w' ⟨rfl, hb⟩
    exact ⟨rfl, ((Cx.start (Φ := HP.tt) h trivial hd).skip hb).done 0 rfl⟩
  · have hpos : 0 < cur.length := List.length_pos_iff.2 he
    have hlg : ¬ (lg cur = 0) := by unfold lg; split <;> omega
    have hlg' : (lg cur == 0) = false := by rw [beq_eq_false_iff_ne]; exact hlg
    obtain rfl : ok = true := by rw [hk.out]; cases cur with | nil => exact absurd rfl he | cons x y => rfl
    have hu := Try.underlying35
    have H0 := Aside0.mk ((Cx.start (Φ := HP.tt) h trivial hd).alloc (.cells #[.string ⟨#[]⟩, .bool false] 35 (0, 0)))
    have k1' := cell_al k1 (.cells #[.string ⟨#[]⟩, .bool false] 35 (0, 0))
    have hl1 : strOfNums (held cur) = s := congrArg Prod.fst hs.out
    have hl2 : decide (1600 < cur.length) = l := congrArg Prod.snd hs.out
    replace hlg := Lib.hid hlg
    clear h hd hb k1 he
    go_enter Try.func14, Try.ntmps14
    go_wp2_with fail
    refine (H0.out.cobj 0 rfl (fun M Z hM hZ hd => line_ck hM trivial hd)).mono ?_
    rintro e w1 ⟨rfl, H1⟩
    rw [hl1, hl2]
    have r0 := H1.cell 1 rfl 0 rfl
    have r1 := H1.cell 1 rfl 1 rfl
    have qf := fun j => H1.unfrozen 1 rfl j
    have H2 := Aside0.mk ((H1.put 1 rfl 0 (.string s)).put 1 rfl 1 (.bool l))
    clear H1
    go_wp2
    exact bodyPost_ret (v := .tuple #[.agg #[.string s, .bool l], .bool true]) (by simp [results, Try.results14, go_sem, H2.out.cell 1 rfl 0 rfl, H2.out.cell 1 rfl 1 rfl]) rfl ⟨rfl, H2.out.done 0 rfl⟩
end Go.Proofs.Ytbndpdjpfehdnaa.Chunk
