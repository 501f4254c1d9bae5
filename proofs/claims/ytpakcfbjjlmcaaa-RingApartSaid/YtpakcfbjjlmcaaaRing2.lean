/- What At, Pop, Rows and Clone of a ring do, by the rows that it holds. No condition. -/
import Derived.Test.YtpakcfbjjlmcaaaRing
set_option linter.unusedVariables false
set_option linter.unusedSimpArgs false
set_option maxHeartbeats 400000
set_option maxRecDepth 100000
namespace Go.Proofs.Ytpakcfbjjlmcaaa.Ring
open Go.RowKit Go.RK Go.RL Go.Proofs.YtpakcfbjjlmcaaaW.PrintWords
section
variable {w : World} {g gn cap : Nat} {nums : List Int} {sp : List Value} {rows width first many : Int}

theorem rowsOf_get (nums : List Int) (rows width first many : Int) (i : Nat) (hi : (i : Int) < many) : (rowsOf nums rows width first many)[i]? = some ((nums.drop (at_ rows width first i)).take width.toNat) := by
  unfold rowsOf
  rw [List.getElem?_map, List.getElem?_range (by omega)]
  rfl

/-- the row in its place reads -/
theorem RingAt.reads (h : RingAt w g gn cap nums sp rows width first many) (i : Nat) (off : Nat) (ho : width ≠ 0 → off = at_ rows width first i) :
    ReadsInt w .i64 (some ⟨gn, off, none⟩) ((nums.drop (at_ rows width first i)).take width.toNat).length ((nums.drop (at_ rows width first i)).take width.toNat) := by
  obtain ⟨p0, p1, q0, q1, q2⟩ := h.bounds i
  have w0 := h.w0
  have w1 := h.w1
  have hat : at_ rows width first i + width.toNat ≤ nums.length := by unfold at_; omega
  have hl : ((nums.drop (at_ rows width first i)).take width.toNat).length = width.toNat := by simp; omega
  refine ⟨rfl, by omega, fun hp => ⟨_, rfl, fun j hj => ?_⟩⟩
  rw [hl] at hp hj
  rw [ho (by omega), List.getD_eq_getElem?_getD, List.getElem?_take_of_lt hj, List.getElem?_drop]
  have e : (⟨gn, at_ rows width first i, none⟩ : Addr).add j = ⟨gn, at_ rows width first i + j, none⟩ := by
    unfold Addr.add
    split
    · rename_i h0; rw [h0, Nat.add_zero]
    · rfl
  rw [e]
  refine cell_blk h.hgn ?_
  rw [List.getElem?_toArray, List.getElem?_append_left (by simp; omega), List.getElem?_map, List.getElem?_eq_getElem (by omega)]
  rfl

theorem row_len (h : RingAt w g gn cap nums sp rows width first many) (i : Nat) : ((nums.drop (at_ rows width first i)).take width.toNat).length = width.toNat := by
  obtain ⟨p0, p1, q0, q1, q2⟩ := h.bounds i
  have w0 := h.w0
  have hat : at_ rows width first i + width.toNat ≤ nums.length := by unfold at_; omega
  simp; omega

theorem at_nil (i : Int) : Calls Try.prog 25 #[.pointer none, .int .i64 i] w fun e w' => e = .returned (.tuple #[.slice none 0 0, .bool false]) ∧ w' = w := by
  go_enter Try.func25, Try.ntmps25
  go_wp2
  go_ret2
  exact ⟨rfl, rfl⟩

theorem at_no (i : Int) {L : List (List Int)} (h : RingL w g gn rows width L) (hi : ¬ (0 ≤ i ∧ i < L.length)) : Calls Try.prog 25 #[.pointer (some ⟨g, 0, none⟩), .int .i64 i] w fun e w' => e = .returned (.tuple #[.slice none 0 0, .bool false]) ∧ w' = w := by
  obtain ⟨cap, nums, sp, first, h, hL⟩ := h
  clear hL
  have c4 : w.cell? ⟨g, 4, none⟩ = some (.int .i64 L.length) := cell_blk h.hg rfl
  clear h
  have H := Lib.hid hi
  clear hi
  by_cases h0 : i < 0
  · go_enter Try.func25, Try.ntmps25
    go_wp2
    go_ret2
    exact ⟨rfl, rfl⟩
  · have h1 : (L.length : Int) ≤ i := by have := H.out; omega
    go_enter Try.func25, Try.ntmps25
    go_wp2
    go_ret2
    exact ⟨rfl, rfl⟩

theorem at_ok (i : Nat) {L : List (List Int)} (h : RingL w g gn rows width L) (hi : i < L.length) : Calls Try.prog 25 #[.pointer (some ⟨g, 0, none⟩), .int .i64 i] w fun e w' => ∃ v, e = .returned (.tuple #[v, .bool true]) ∧ w'.ownsRow w.heap.size 2 1 v L[i].length (I64 L[i]) ∧ Below w.heap.size w w' := by
  obtain ⟨cap, nums, sp, first, h, hL⟩ := h
  have hLi : L[i] = (nums.drop (at_ rows width first i)).take width.toNat := by
    have := rowsOf_get nums rows width first L.length i (by omega)
    rw [← hL, List.getElem?_eq_getElem hi] at this
    exact Option.some.inj this
  clear hL
  have c4 : w.cell? ⟨g, 4, none⟩ = some (.int .i64 L.length) := cell_blk h.hg rfl
  have b1 := h.r2
  have b2 := h.m1
  have H := Aside0.mk h
  clear h
  have hi' : (i : Int) < L.length := by omega
  go_enter Try.func25, Try.ntmps25
  go_wp2_with fail
  refine (place_some H.out i (by omega) (by omega)).mono ?_
  rintro e w1 ⟨off, rfl, hoff, n, rfl⟩
  have hr := (H.out.reads i off hoff).drewN n
  have hl := row_len H.out i
  rw [← hLi] at hr hl
  have hb : L[i].length * 8 ≤ 140737488351232 := by have := H.out.w1; omega
  have HR := Aside0.mk hr
  have HL := Aside0.mk hl
  have HX := Aside0.mk hLi
  clear hoff hr hl hLi
  rw [← HL.out]
  go_wp2_with fail
  refine (clone_any _ _ L[i].length L[i] HR.out hb).mono ?_
  rintro e w2 ⟨v, rfl, hown, hbel, _⟩
  have HO := Aside0.mk hown
  have HB := Aside0.mk hbel
  clear hown hbel
  go_wp2
  go_ret2
  exact ⟨v, rfl, HO.out, below_undrew HB.out⟩

theorem pop_nil : Calls Try.prog 18 #[.pointer none] w fun e w' => e = .returned (.tuple #[.slice none 0 0, .bool false]) ∧ w' = w := by
  go_enter Try.func18, Try.ntmps18
  go_wp2_with fail
  refine (at_nil 0).mono ?_
  rintro e w1 ⟨rfl, rfl⟩
  go_wp2
  go_ret2
  exact ⟨rfl, rfl⟩

theorem pop_empty (h : RingL w g gn rows width []) : Calls Try.prog 18 #[.pointer (some ⟨g, 0, none⟩)] w fun e w' => e = .returned (.tuple #[.slice none 0 0, .bool false]) ∧ w' = w := by
  go_enter Try.func18, Try.ntmps18
  go_wp2_with fail
  refine (at_no 0 h (by simp)).mono ?_
  rintro e w1 ⟨rfl, rfl⟩
  go_wp2
  go_ret2
  exact ⟨rfl, rfl⟩

theorem rowsOf_pop (h : RingAt w g gn cap nums sp rows width first many) (hm : 0 < many) :
    rowsOf nums rows width ((first + 1) % rows) (many - 1) = (rowsOf nums rows width first many).tail := by
  obtain ⟨n, rfl⟩ := Int.eq_ofNat_of_zero_le h.m0
  obtain ⟨k, rfl⟩ : ∃ k, n = k + 1 := ⟨n - 1, by omega⟩
  have r1 := h.r1
  unfold rowsOf
  rw [show (((k + 1 : Nat) : Int) - 1).toNat = k by omega, Int.toNat_natCast, List.range_succ_eq_map, List.map_cons, List.tail_cons, List.map_map]
  refine List.map_congr_left fun i _ => ?_
  have : at_ rows width ((first + 1) % rows) i = at_ rows width first ((i + 1 : Nat) : Int) := by
    unfold at_
    rw [Int.emod_add_emod]
    congr 3
    omega
  simp only [Function.comp, this]

theorem pop_ok (x : List Int) (L : List (List Int)) (h : RingL w g gn rows width (x :: L)) : Calls Try.prog 18 #[.pointer (some ⟨g, 0, none⟩)] w fun e w' => ∃ v, e = .returned (.tuple #[v, .bool true]) ∧ w'.ownsRow w.heap.size 2 1 v x.length (I64 x) ∧ RingL w' g gn rows width L ∧ Fr (fun k => k = g) w w' := by
  have H := Aside0.mk h
  clear h
  go_enter Try.func18, Try.ntmps18
  go_wp2_with fail
  refine (at_ok 0 H.out (by simp)).mono ?_
  rintro e w1 ⟨v, rfl, hown, hbel⟩
  obtain ⟨cap, nums, sp, first, h, hL⟩ := H.out
  have h1 : RingAt w1 g gn cap nums sp rows width first (x :: L).length := { h with hg := (hbel.block g (lt_of_blk h.hg)).trans h.hg, hgn := (hbel.block gn (lt_of_blk h.hgn)).trans h.hgn }
  have H1 := Aside0.mk h1
  have HL := Aside0.mk hL
  have HB := Aside0.mk hbel
  have HO := Aside0.mk hown
  have c1 : w1.cell? ⟨g, 1, none⟩ = some (.int .i64 rows) := cell_blk h1.hg rfl
  have c3 : w1.cell? ⟨g, 3, none⟩ = some (.int .i64 first) := cell_blk h1.hg rfl
  have c4 : w1.cell? ⟨g, 4, none⟩ = some (.int .i64 (L.length + 1)) := cell_blk h1.hg rfl
  have f4 : w1.frozen? ⟨g, 4, none⟩ = false := frozen_blk h1.hg
  have f3 : w1.frozen? ⟨g, 3, none⟩ = false := frozen_blk h1.hg
  have b1 := h.r1; have b2 := h.r2; have b3 := h.f0; have b4 := h.f1
  have b5 : (L.length : Int) + 1 ≤ 64 := by have := h.m1; simp at this; omega
  clear h h1 hL hbel hown
  go_wp2
  go_region
  go_wp2
  go_ret2
  have h := H1.out
  have hfr : Fr (fun k => k = g) w1 (((w1.setCell ⟨g, 3, none⟩ (.int .i64 ((first + 1) % rows))).setCell ⟨g, 4, none⟩ (.int .i64 L.length)).drew) := (((Fr.refl (fun k => k = g) w1).setCell (fun _ => rfl) _).setCell (fun _ => rfl) _).drew
  refine ⟨v, rfl, own_fr HO.out hfr (fun k hk _ _ he => by have := H.out.ltg.1; omega), ⟨cap, nums, sp, (first + 1) % rows, ?_, ?_⟩, Fr.step (Fr.of_below HB.out) hfr (fun _ _ h => h)⟩
  · have p0 : 0 ≤ (first + 1) % rows := Int.emod_nonneg _ (by omega)
    have p1 : (first + 1) % rows < rows := Int.emod_lt_of_pos _ (by omega)
    refine { h with hg := ?_, hgn := hfr.blk h.hgn (fun e => h.ne e.symm), f0 := p0, f1 := p1, m0 := by omega, m1 := by have := h.m1; simp at this; omega }
    show (((w1.setCell ⟨g, 3, none⟩ _).setCell ⟨g, 4, none⟩ _)).heap[g]? = _
    rw [hp_setCell_same (hp_setCell_same h.hg _ _)]
    simp
  · have hp := rowsOf_pop h (by simp)
    rw [← HL.out, List.tail_cons] at hp
    rw [show ((L.length : Nat) : Int) = ((x :: L).length : Int) - 1 by simp]
    exact hp.symm

/-- Rows of a ring that isn't there. -/
theorem rows_nil : Calls Try.prog 26 #[.pointer none] w fun e w' => e = .returned (.slice none 0 0) ∧ w' = w := by
  go_enter Try.func26, Try.ntmps26
  go_wp2_with fail
  refine len_nil.mono ?_
  rintro e w1 ⟨rfl, rfl⟩
  go_wp2
  go_loop [3, 7] (fun v i => v = .slice none 0 0 ∧ i = .int .i64 0) (fun _ _ => 0)
  case atStart => exact ⟨rfl, rfl⟩
  case round =>
    obtain ⟨rfl, rfl⟩ := hrel
    go_wp2
    go_ret
    exact ⟨rfl, rfl⟩

theorem clone_nil : Calls Try.prog 28 #[.pointer none] w fun e w' => e = .returned (.pointer none) ∧ w' = w := by
  go_enter Try.func28, Try.ntmps28
  go_wp2
  go_ret
  exact ⟨rfl, rfl⟩

theorem clone_ring {L : List (List Int)} (h : RingL w g gn rows width L) : Calls Try.prog 28 #[.pointer (some ⟨g, 0, none⟩)] w fun e w' => ∃ g' gn', e = .returned (.pointer (some ⟨g', 0, none⟩)) ∧ w.heap.size ≤ g' ∧ w.heap.size ≤ gn' ∧ RingL w' g' gn' rows width L ∧ Below w.heap.size w w' := by
  obtain ⟨cap, nums, sp, first, h, hL⟩ := h
  have c0 : w.cell? ⟨g, 0, none⟩ = some (.slice (some ⟨gn, 0, none⟩) nums.length cap) := cell_blk h.hg rfl
  have c1 : w.cell? ⟨g, 1, none⟩ = some (.int .i64 rows) := cell_blk h.hg rfl
  have c2 : w.cell? ⟨g, 2, none⟩ = some (.int .i64 width) := cell_blk h.hg rfl
  have c3 : w.cell? ⟨g, 3, none⟩ = some (.int .i64 first) := cell_blk h.hg rfl
  have c4 : w.cell? ⟨g, 4, none⟩ = some (.int .i64 L.length) := cell_blk h.hg rfl
  have c0' := cell_al c0
  have H := Aside0.mk h
  have HL := Aside0.mk hL
  have hu := Try.underlying111
  clear h hL
  go_enter Try.func28, Try.ntmps28
  go_wp2_with fail
  have hr : ReadsInt (w.alloc (.cells #[.slice (some ⟨gn, 0, none⟩) nums.length cap, .int .i64 rows, .int .i64 width, .int .i64 first, .int .i64 L.length] 111)) .i64 (some ⟨gn, 0, none⟩) nums.length nums := by
    have h := H.out
    refine ReadsInt.below (w := w) ⟨rfl, ?_, fun hp => ⟨_, rfl, fun j hj => ?_⟩⟩ ((Below.refl _ _).alloc (Nat.le_refl _) _)
    · have := (h.bounds 0).1; have := h.len; have := Int.mul_le_mul_of_nonneg_right h.r2 h.w0; have := h.w1; omega
    · rw [add_plain]
      refine cell_blk h.hgn ?_
      rw [List.getElem?_toArray, List.getElem?_append_left (by simpa using hj), List.getElem?_map, List.getElem?_eq_getElem hj, List.getD_eq_getElem?_getD, List.getElem?_eq_getElem hj]
      rfl
  have hb : nums.length * 8 ≤ 140737488351232 := by
    have h := H.out
    have := h.len; have := Int.mul_le_mul_of_nonneg_right h.r2 h.w0; have := h.w1; omega
  refine (clone_any _ _ cap nums hr hb).mono ?_
  rintro e w2 ⟨v, rfl, hown, hbel, hnn⟩
  obtain ⟨gn', cap', sp', rfl, hgb, hgn', hcap', _⟩ := own_form hown (hnn (by simp))
  have hcc := hbel.block w.heap.size (by simp)
  rw [hp_alloc_new] at hcc
  have f0 : w2.frozen? ⟨w.heap.size, 0, none⟩ = false := frozen_blk hcc
  have d0 : w2.cell? ⟨w.heap.size, 0, none⟩ = some (.slice (some ⟨gn, 0, none⟩) nums.length cap) := cell_blk hcc rfl
  have hz : w.heap.size < w2.heap.size := lt_of_blk hcc
  have HC := Aside0.mk hcc
  have HB := Aside0.mk hbel
  have HO := Aside0.mk hgn'
  have HGB := Aside0.mk hgb
  have HCAP := Aside0.mk hcap'
  clear hr hb hcc hbel hown c0 c1 c2 c3 c4 c0' hnn hgn' hgb hcap'
  go_wp2
  go_ret
  have h := H.out
  have hgb := HGB.out
  rw [hp_alloc_size] at hgb
  refine ⟨w.heap.size, gn', rfl, Nat.le_refl _, by omega, ⟨cap', nums, sp', first, ?_, HL.out⟩, ?_⟩
  · refine { h with hg := ?_, hgn := ?_, ne := by omega, cap := HCAP.out }
    · rw [hp_setCell_same HC.out]
      simp
    · exact hp_setCell_other HO.out (by show gn' ≠ w.heap.size; omega) _
  · exact (((Below.refl _ _).alloc (Nat.le_refl _) _).trans (HB.out.mono (by simp))).setCell (Nat.le_refl _) _


end
end Go.Proofs.Ytpakcfbjjlmcaaa.Ring
