/- PProduct: what this claim needs of a text of ours. -/
import Derived.Test.YtmfgdgmpblkadaaZCellMakes13
import Derived.Test.YtmfgdgmpblkadaaZCellMakes14
import Derived.Test.YtmfgdgmpblkadaaZCellMakes15
namespace Go.RK
end Go.RK
namespace Go.RS
end Go.RS
namespace Go.Proofs.YtmfgdgmpblkadaaW.PrintWords
end Go.Proofs.YtmfgdgmpblkadaaW.PrintWords

set_option linter.unusedVariables false
set_option linter.unusedSimpArgs false
set_option maxHeartbeats 400000
set_option maxRecDepth 100000
namespace Go.Proofs.Ytmfgdgmpblkadaa.PAll
open Go.RowKit Go.RK Go.RS Go.Proofs.YtmfgdgmpblkadaaW.PrintWords
def shape_product.f (l0 : List Int) : Option (Int × Bool) := some (if okDims l0 then (prodI l0, decide (prodI l0 ≤ 64)) else (0, false))
theorem times_no (w : World) (b : Nat) (k : Int) (hk : inAxis k = false) :
    Calls Try.prog 197 #[.int .i64 k, .pointer (some ⟨b, 0, none⟩)] w fun e w' => e = .returned (.bool false) ∧ w' = w := by
  have H := Lib.hid hk
  clear hk
  by_cases h0 : k < 0
  · go_enter Try.func197, Try.ntmps197
    go_wp2
    go_ret
    exact ⟨rfl, rfl⟩
  · have h1 : 64 < k := by
      have := H.out
      simp [inAxis] at this
      omega
    go_enter Try.func197, Try.ntmps197
    go_wp2
    go_ret
    exact ⟨rfl, rfl⟩
theorem times_yes (w : World) (b : Nat) (n k : Int) (hk : inAxis k = true) (hb : w.heap[b]? = some (.cells #[.int .i64 n] 3 (0, 0))) (h0 : 0 ≤ n * k) (h1 : n * k ≤ 262144) :
    Calls Try.prog 197 #[.int .i64 k, .pointer (some ⟨b, 0, none⟩)] w fun e w' => e = .returned (.bool true) ∧ w' = w.setCell ⟨b, 0, none⟩ (.int .i64 (n * k)) := by
  obtain ⟨k0, k1⟩ := inAxis_iff.1 hk
  have hc : w.cell? ⟨b, 0, none⟩ = some (.int .i64 n) := cell_blk hb rfl
  have hf : w.frozen? ⟨b, 0, none⟩ = false := frozen_blk hb
  have hw : wrap64 (n * k) = n * k := w64_in (by omega)
  clear hk hb h0 h1
  go_enter Try.func197, Try.ntmps197
  go_wp2
  go_ret
  exact ⟨rfl, rfl⟩
theorem okDims_take {l : List Int} {i : Nat} (hi : i < l.length) : okDims (l.take (i + 1)) = (okDims (l.take i) && (decide (i < 3) && inAxis (l[i]))) := by
  unfold okDims
  rw [List.take_add_one, List.getElem?_eq_getElem hi, Option.toList_some, List.all_append, List.length_append, List.length_take, List.length_singleton, Nat.min_eq_left (by omega)]
  simp only [List.all_cons, List.all_nil, Bool.and_true]
  rw [Bool.eq_iff_iff]
  simp only [Bool.and_eq_true, decide_eq_true_eq]
  constructor
  · rintro ⟨h1, h2, h3⟩; exact ⟨⟨by omega, h2⟩, by omega, h3⟩
  · rintro ⟨⟨h1, h2⟩, h3, h4⟩; exact ⟨by omega, h2, h4⟩
theorem okDims_no {l : List Int} {i : Nat} (h : okDims (l.take i) = false) : okDims l = false := by
  rw [Bool.eq_false_iff] at h ⊢
  intro hh
  apply h
  unfold okDims at hh ⊢
  simp only [Bool.and_eq_true, decide_eq_true_eq] at hh ⊢
  refine ⟨by rw [List.length_take]; omega, ?_⟩
  rw [List.all_eq_true] at hh ⊢
  exact fun x hx => hh.2 x (List.mem_of_mem_take hx)
theorem shape_product.calls (A0 : Option Addr) (c0 : Nat) (l0 : List Int) (r1 : Int) (r2 : Bool) (w : World) (hr0 : Kd.C (Kd.int .i64) w A0 l0.length l0) (hc0 : l0.length ≤ c0) (h : shape_product.f l0 = some (r1, r2)) :
    Calls Try.prog 143 #[.slice A0 l0.length c0] w fun e w' => e = .returned (.tuple #[.int .i64 r1, .bool r2]) ∧ Below w.heap.size w w' := by
  have hr : ReadsInt w .i64 A0 l0.length l0 := Kd.reads_of_C (enc := Value.int .i64) (d := (0 : Int)) (h1 := fun _ => rfl) hr0
  have hm := hr.2.1
  have HR := Aside0.mk hr
  have HF := Lib.hid h
  clear hr0 hr h hc0
  go_enter Try.func143, Try.ntmps143
  go_wp2_with fail
  go_loopw [10] (fun i wr => ∃ k : Nat, k ≤ l0.length ∧ i = .int .i64 k ∧ Aside0 (okDims (l0.take k) = true) ∧ Aside0 (wr.heap[w.heap.size]? = some (.cells #[.int .i64 (prodI (l0.take k))] 3 (0, 0))) ∧ Aside0 (Below w.heap.size w wr)) (fun i _ => l0.length - (intOf i).toNat)
  case atStart => exact ⟨0, by omega, rfl, ⟨rfl⟩, ⟨hp_alloc_new _ _⟩, ⟨(Below.refl _ _).alloc (Nat.le_refl _) _⟩⟩
  case round =>
    obtain ⟨k, hk, rfl, HD, HB, HW⟩ := hrel
    by_cases hlt : k < l0.length
    · obtain ⟨ad, x, rfl, hx, hcell⟩ := rd_at (HR.out.below HW.out) k hlt
      have hxk : l0[k] = x := by rw [List.getElem?_eq_getElem hlt] at hx; exact Option.some.inj hx
      have hstep := okDims_take hlt
      rw [HD.out, hxk, Bool.true_and] at hstep
      have hall : (l0.take k).all inAxis = true := by have := HD.out; unfold okDims at this; rw [Bool.and_eq_true] at this; exact this.2
      have htk : prodI (l0.take (k + 1)) = prodI (l0.take k) * x := by rw [List.take_add_one, hx, Option.toList_some, prodI_snoc]
      have HX := Aside0.mk hstep
      have HA := Aside0.mk hall
      have HT := Aside0.mk htk
      clear hx hxk hstep hall htk
      by_cases h3 : k < 3
      · by_cases hin : inAxis x = true
        · have hnext : okDims (l0.take (k + 1)) = true := by rw [HX.out, hin]; simp; exact h3
          have hbd := prodI_bd (d := l0.take (k + 1)) (by have := hnext; unfold okDims at this; rw [Bool.and_eq_true] at this; exact this.2) (by rw [List.length_take]; omega)
          rw [HT.out] at hbd
          have HN := Aside0.mk hnext
          clear hnext
          go_wp2_with fail
          refine (times_yes _ _ _ x hin HB.out hbd.1 hbd.2).mono ?_
          rintro e w1 ⟨rfl, rfl⟩
          clear hbd
          go_wp2
          go_roundw
          case rel => exact ⟨k + 1, by omega, by go_num, HN, ⟨by rw [hp_setCell_same HB.out, HT.out]; rfl⟩, ⟨HW.out.setCell (Nat.le_refl _) _⟩⟩
          case measure => simp [intOf]; omega
        · have hn : inAxis x = false := by simpa using hin
          have hf : okDims l0 = false := okDims_no (i := k + 1) (by rw [HX.out, hn]; simp)
          have h := HF.out
          unfold shape_product.f at h
          rw [if_neg (by rw [hf]; simp)] at h
          obtain ⟨rfl, rfl⟩ := Prod.mk.inj (Option.some.inj h)
          clear hin hf h
          go_wp2_with fail
          refine (times_no _ _ x hn).mono ?_
          rintro e w1 ⟨rfl, rfl⟩
          clear hn
          go_wp2
          go_ret2
          exact ⟨rfl, HW.out⟩
      · have hf : okDims l0 = false := okDims_no (i := k + 1) (by rw [HX.out]; simp; omega)
        have h := HF.out
        unfold shape_product.f at h
        rw [if_neg (by rw [hf]; simp)] at h
        obtain ⟨rfl, rfl⟩ := Prod.mk.inj (Option.some.inj h)
        clear hf h
        go_wp2
        go_ret2
        exact ⟨rfl, HW.out⟩
    · have hl : l0.take k = l0 := List.take_of_length_le (by omega)
      have hcell : wr.cell? ⟨w.heap.size, 0, none⟩ = some (.int .i64 (prodI l0)) := cell_blk HB.out (by rw [hl]; rfl)
      have h := HF.out
      unfold shape_product.f at h
      rw [if_pos (by rw [← hl]; exact HD.out)] at h
      obtain ⟨rfl, rfl⟩ := Prod.mk.inj (Option.some.inj h)
      clear hl h
      go_wp2
      go_quiet (fail)
      go_wp2
      go_ret2
      exact ⟨rfl, pw_below_drewN HW.out _⟩
end Go.Proofs.Ytmfgdgmpblkadaa.PAll
