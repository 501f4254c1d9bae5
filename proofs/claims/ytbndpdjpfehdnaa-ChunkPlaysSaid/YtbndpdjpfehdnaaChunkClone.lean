/- Clones of lines; bytes as a text. No condition but the bounds. -/
import Derived.Test.YtbndpdjpfehdnaaChunk6
set_option linter.unusedVariables false
set_option linter.unusedSimpArgs false
set_option maxHeartbeats 1600000
set_option maxRecDepth 100000
namespace Go.Proofs.Ytbndpdjpfehdnaa.Chunk
open Go.RowKit Go.RK Go.Proofs.YtbndpdjpfehdnaaW.PrintWords
variable {W : World} {M Z : Nat → Prop} {g : Nat} {v : Value} {cur b : List Int} {came : Int}
theorem conv_val {A : Option Addr} {c : Nat} {xs : List Int} (h : (HP.rd K8 A xs).at_ W M) : (convert 27 9 (.slice A xs.length c)).run Try.prog W = .ok (.string (strOfNums xs)) W := by
  have hC := HP.rd_now h
  by_cases hp : 0 < xs.length
  · obtain ⟨ad, rfl, hc⟩ := Cx.src_of (enc := Value.int .u8) (h1 := fun _ => rfl) hC hp
    have hl : (loadCells ad xs.length).run Try.prog W = .ok (xs.map (Value.int .u8)).toArray W := by
      have := run_loadCells_list (P := Try.prog) W ad (xs.map (Value.int .u8)) hc
      simpa using this
    rw [run_convert_bytes_string W 27 9 5 _ xs.length c Try.underlying27 Try.underlying5 Try.underlying9, run_bytesToString W ad xs.length c xs hl, foldl_push_bytes]
    simp [strOfNums, ByteArray.empty, ByteArray.emptyWithCapacity]
    rfl
  · obtain rfl : xs = [] := List.eq_nil_of_length_eq_zero (by omega)
    rcases A with _ | ad
    · exact run_convert_bytes_nil W 27 5 Try.underlying27 Try.underlying5 0 c 9 Try.underlying9
    · have hl : (loadCells ad 0).run Try.prog W = .ok (([] : List Int).map (Value.int .u8)).toArray W := by
        have := run_loadCells_list (P := Try.prog) W ad (([] : List Int).map (Value.int .u8)) (fun j v hj => by simp at hj)
        simpa using this
      show (convert 27 9 (.slice (some ad) 0 c)).run Try.prog W = _
      rw [run_convert_bytes_string W 27 9 5 _ 0 c Try.underlying27 Try.underlying5 Try.underlying9, run_bytesToString W ad 0 c [] hl, foldl_push_bytes]
      simp [strOfNums, ByteArray.empty, ByteArray.emptyWithCapacity]
      rfl
theorem clone_8 (A : Option Addr) (c : Nat) (xs : List Int) (hr : K8.C W A xs.length xs) (hb : xs.length ≤ 1000000) :
    Calls Try.prog 22 #[.slice A xs.length c] W fun e w' => ∃ v, e = .returned v ∧ Below W.heap.size W w' ∧ (HP.raw W.heap.size 5 1 v xs.length (I8 xs)).at_ w' (fun k => W.heap.size ≤ k) := by
  have heq := fun w => Lib.run_eql_slice_nil (P := Try.prog) w 27 5 A xs.length c 0 0 Try.underlying27
  rcases A with _ | ad
  · obtain rfl : xs = [] := by
      rcases xs with _ | ⟨x, xs⟩
      · rfl
      · obtain ⟨_, h, _⟩ := hr.2.2 (by simp)
        cases h
    simp only [Option.isNone_none, List.length_nil] at heq
    clear hr hb
    go_enter Try.func22, Try.ntmps22
    go_wp2
    go_ret
    exact ⟨_, rfl, Below.refl _ _, HP.raw_nil _ _ _ _ _⟩
  · simp only [Option.isNone_some] at heq
    have H := Aside0.mk ((Cx.startz (W := W) (Φ := HP.tt) (Z := fun _ => False) trivial).alloc (.cells #[] 5 (0, 0)))
    have H1 := Aside0.mk (H.out.impi (Ψ' := HP.raw W.heap.size 5 1 (.slice (some ⟨W.heap.size, 0, none⟩) 0 0) 0 []) 0 rfl (fun M hM => raw_zero hM (Nat.le_refl _)))
    have hrd : K8.C (W.alloc (.cells #[] 5)) (some ad) xs.length xs := Kd.C_below hr (below_alloc (Below.refl _ _) _)
    obtain ⟨v1, w1, hrun, H2⟩ := H1.out.app (P := Try.prog) 0 27 27 5 (.int .u8 0) 1 1 rfl (Nat.le_refl _) Try.underlying27 info8 rfl (by omega) (by omega) (some ad) xs.length c (I8 xs) (by simp) (fun hp => Cx.src_of (enc := Value.int .u8) (h1 := fun _ => rfl) hrd hp) (fun u hu => by obtain ⟨q, _, rfl⟩ := List.mem_map.1 hu; rfl) (by omega)
    simp only [Nat.zero_add, List.nil_append] at H2
    obtain ⟨A1, c1, rfl, _⟩ := HP.raw_form (H2.get 0 rfl).choose_spec
    replace hrun := Aside0.mk hrun
    have H4 := Aside0.mk ((H2.freezeRow 0 rfl (Nat.le_refl _)).done0)
    clear H H1 H2 hrd hr hb
    go_enter Try.func22, Try.ntmps22
    go_wp2_with (refine wpList_app rfl rfl rfl rfl hrun.out ?_)
    go_ret
    exact ⟨_, rfl, H4.out.1, HP.mono H4.out.2.2 (fun k hk _ => by rcases hk with hk | hk; exact hk.elim; exact hk)⟩
theorem clone_ck (h : (Ck g cur came).at_ W M) (hb : cur.length ≤ 1000000) :
    Calls Try.prog 16 #[.pointer (some ⟨g, 0, none⟩)] W fun e w' => ∃ g', e = .returned (.pointer (some ⟨g', 0, none⟩)) ∧ Below W.heap.size W w' ∧ (Ck g' cur came).at_ w' (fun k => W.heap.size ≤ k) := by
  obtain ⟨⟨A, c⟩, a, bz, hbk, hraw, _⟩ := h
  have hC : K8.C W A (held cur).length (held cur) := HP.val_C (HP.val_of (d := K8) hraw (HP.reps_scalar _ _ rfl))
  have k0 : W.cell? ⟨g, 0, none⟩ = some (.slice A (held cur).length c) := cell_blk hbk.1 rfl
  have k1 : W.cell? ⟨g, 1, none⟩ = some (.int .i64 (lg cur)) := cell_blk hbk.1 rfl
  have k2 : W.cell? ⟨g, 2, none⟩ = some (.int .i64 came) := cell_blk hbk.1 rfl
  have hhl := held_le cur
  have H := Aside0.mk ((Cx.startz (W := W) (Z := fun _ => False) (Φ := HP.tt) trivial).alloc (ckb A (held cur).length c (lg cur) came))
  have k0' := cell_al k0 (ckb A (held cur).length c (lg cur) came)
  have hC' := Aside0.mk (Kd.C_below hC ((Below.refl W.heap.size W).alloc (Nat.le_refl _) (ckb A (held cur).length c (lg cur) came)))
  have hu := Try.underlying47
  generalize hR : held cur = R at *
  clear hbk hraw hC
  go_enter Try.func16, Try.ntmps16
  go_wp2_with fail
  refine (H.out.cnew (α := Option Addr × Nat) (R := fun q e => e = .returned (.slice q.1 R.length q.2)) (Ψ' := fun q => ckr q.1 q.2 R) ((clone_8 A c R hC'.out (by omega)).mono (fun e w' ⟨v, h1, h2, h3⟩ => by
    obtain ⟨A1, c1, rfl, _⟩ := HP.raw_form h3
    exact ⟨(A1, c1), h1, h2, own_weaken h3.1 (Nat.zero_le _), h3.2⟩))).mono ?_
  rintro e w1 ⟨⟨A1, c1⟩, rfl, H1⟩
  replace H1 := Aside0.mk H1
  have q0 := H1.out.cell 0 rfl 0 rfl
  have qf := fun j => H1.out.unfrozen 0 rfl j
  clear k0 k1 k2 k0' H
  go_wp2
  go_ret
  have h := (((H1.out.put 0 rfl 0 (.slice A1 R.length c1)).glue 0 1 (by decide) rfl rfl).impi 0 rfl (Ψ' := Ck W.heap.size cur came) (fun M hM => ⟨(A1, c1), by rw [hR]; exact hM⟩)).doneNew 0 rfl
  obtain ⟨hb, M1, h1, _, h3⟩ := h
  exact ⟨_, rfl, hb, HP.mono h1 (fun k hk _ => h3 k hk)⟩
end Go.Proofs.Ytbndpdjpfehdnaa.Chunk
