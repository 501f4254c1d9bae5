/- What each method of a ring does, by the ring's blocks. No condition. -/
import Derived.Test.YtpakcfbjjlmcaaaProg
import Derived.Test.YtpakcfbjjlmcaaaKit
import Derived.Test.YtpakcfbjjlmcaaaLists
set_option linter.unusedVariables false
set_option linter.unusedSimpArgs false
set_option maxHeartbeats 400000
set_option maxRecDepth 100000
namespace Go.Proofs.Ytpakcfbjjlmcaaa.Ring
open Go.RowKit Go.RK Go.RL Go.Proofs.YtpakcfbjjlmcaaaW.PrintWords

theorem infoI : (Try.prog.info? 2).map (fun i => (i.zero, i.size, i.bytes)) = some (some (.int .i64 0), 1, 8) := by kernel_rfl

/-- the ring's block, and the numbers' block -/
structure RingAt (w : World) (g gn : Nat) (cap : Nat) (nums : List Int) (spare : List Value) (rows width first many : Int) : Prop where
  hg : w.heap[g]? = some (.cells #[.slice (some ⟨gn, 0, none⟩) nums.length cap, .int .i64 rows, .int .i64 width, .int .i64 first, .int .i64 many] 111 (0,0))
  hgn : w.heap[gn]? = some (.cells (nums.map (Value.int .i64) ++ spare).toArray 2 (0,0))
  ne : g ≠ gn
  len : (nums.length : Int) = rows * width
  cap : nums.length + spare.length = cap
  r1 : 1 ≤ rows
  r2 : rows ≤ 64
  w0 : 0 ≤ width
  w1 : width ≤ 64
  f0 : 0 ≤ first
  f1 : first < rows
  m0 : 0 ≤ many
  m1 : many ≤ rows

theorem new_no (rows width : Int) (w : World) (h : ¬ (1 ≤ rows ∧ rows ≤ 64 ∧ 0 ≤ width ∧ width ≤ 64)) : Calls Try.prog 16 #[.int .i64 rows, .int .i64 width] w fun e w' => e = .returned (.tuple #[.pointer none, .int .i64 1]) ∧ w' = w := by
  have H := Lib.hid h
  clear h
  by_cases h1 : rows < 1
  · go_enter Try.func16, Try.ntmps16
    go_wp2
    go_ret2
    exact ⟨rfl, rfl⟩
  by_cases h2 : 64 < rows
  · go_enter Try.func16, Try.ntmps16
    go_wp2
    go_ret2
    exact ⟨rfl, rfl⟩
  by_cases h3 : width < 0
  · go_enter Try.func16, Try.ntmps16
    go_wp2
    go_ret2
    exact ⟨rfl, rfl⟩
  by_cases h4 : 64 < width
  · go_enter Try.func16, Try.ntmps16
    go_wp2
    go_ret2
    exact ⟨rfl, rfl⟩
  · exact absurd (by omega) H.out

theorem new_yes (rows width : Int) (w : World) (h1 : 1 ≤ rows) (h2 : rows ≤ 64) (h3 : 0 ≤ width) (h4 : width ≤ 64) : Calls Try.prog 16 #[.int .i64 rows, .int .i64 width] w fun e w' => e = .returned (.tuple #[.pointer (some ⟨w.heap.size + 1, 0, none⟩), .int .i64 0]) ∧ Below w.heap.size w w' ∧ ∃ nums cap spare, RingAt w' (w.heap.size + 1) w.heap.size cap nums spare rows width 0 0 := by
  obtain ⟨n, hn⟩ : ∃ n : Nat, (n : Int) = rows * width := ⟨(rows * width).toNat, Int.toNat_of_nonneg (Int.mul_nonneg (by omega) h3)⟩
  have hn1 : (n : Int) ≤ 4096 := by rw [hn]; calc rows * width ≤ 64 * width := Int.mul_le_mul_of_nonneg_right h2 h3
                              _ ≤ 64 * 64 := by omega
  have hw : wrap64 (rows * width) = (n : Int) := by rw [← hn]; unfold wrap64; omega
  have Hn := Lib.hid hn
  clear hn
  have hmk := print_make_int (P := Try.prog) 22 2 (.int .i64 0) 8 Try.underlying22 infoI rfl (by omega) (n : Int) (by omega) (by omega)
  simp only [Int.toNat_natCast, madeCells_one] at hmk
  have hu := Try.underlying111
  go_enter Try.func16, Try.ntmps16
  go_wp2
  go_ret2
  refine ⟨rfl, ((Below.refl _ _).alloc (Nat.le_refl _) _).alloc (by simp) _, List.replicate n 0, n, [], ?_⟩
  refine { hg := ?_, hgn := ?_, ne := by omega, len := by simp; exact Hn.out, cap := by simp, r1 := h1, r2 := h2, w0 := h3, w1 := h4, f0 := by omega, f1 := by omega, m0 := by omega, m1 := by omega }
  · rw [List.length_replicate]
    have := hp_alloc_new (w.alloc (Obj.cells (Array.replicate n (Value.int IntKind.i64 0)) 2))
    simp only [hp_alloc_size] at this
    exact this _
  · rw [List.map_replicate, List.append_nil]; exact hp_alloc_old (hp_alloc_new _ _) _

section
variable {w : World} {g gn cap : Nat} {nums : List Int} {sp : List Value} {rows width first many : Int}

/-- where a row stands -/
def at_ (rows width first i : Int) : Nat := ((first + i) % rows * width).toNat

theorem RingAt.bounds (h : RingAt w g gn cap nums sp rows width first many) (i : Int) : 0 ≤ (first + i) % rows ∧ (first + i) % rows < rows ∧ 0 ≤ (first + i) % rows * width ∧ (first + i) % rows * width + width ≤ nums.length ∧ (first + i) % rows * width ≤ 4096 := by
  have r1 := h.r1; have r2 := h.r2; have w0 := h.w0; have w1 := h.w1; have hl := h.len
  have p0 : 0 ≤ (first + i) % rows := Int.emod_nonneg _ (by omega)
  have p1 : (first + i) % rows < rows := Int.emod_lt_of_pos _ (by omega)
  generalize (first + i) % rows = p at *
  refine ⟨p0, p1, Int.mul_nonneg p0 w0, ?_, ?_⟩
  · rw [hl]; calc p * width + width = (p + 1) * width := by rw [Int.add_mul, Int.one_mul]
      _ ≤ rows * width := Int.mul_le_mul_of_nonneg_right (by omega) w0
  · calc p * width ≤ 64 * width := Int.mul_le_mul_of_nonneg_right (by omega) w0
      _ ≤ 64 * 64 := by omega

theorem place_some (h : RingAt w g gn cap nums sp rows width first many) (i : Int) (h7 : 0 ≤ i) (h8 : i ≤ 64) :
   Calls Try.prog 69 #[.pointer (some ⟨g, 0, none⟩), .int .i64 i] w fun e w' => ∃ off, e = .returned (.slice (some ⟨gn, off, none⟩) width.toNat width.toNat) ∧ (width ≠ 0 → off = at_ rows width first i) ∧ ∃ n, w' = w.drewN n := by
  have c0 : w.cell? ⟨g, 0, none⟩ = some (.slice (some ⟨gn, 0, none⟩) nums.length cap) := cell_blk h.hg rfl
  have c1 : w.cell? ⟨g, 1, none⟩ = some (.int .i64 rows) := cell_blk h.hg rfl
  have c2 : w.cell? ⟨g, 2, none⟩ = some (.int .i64 width) := cell_blk h.hg rfl
  have c3 : w.cell? ⟨g, 3, none⟩ = some (.int .i64 first) := cell_blk h.hg rfl
  have r1 := h.r1; have r2 := h.r2; have w0 := h.w0; have w1 := h.w1; have f0 := h.f0; have f1 := h.f1
  obtain ⟨p0, p1, q0, q1, q2⟩ := h.bounds i
  have hc := h.cap
  clear h
  unfold at_
  generalize hp : (first + i) % rows = p at *
  generalize hq : p * width = q at *
  have hsl := run_slice3 (P := Try.prog) 22 2 Try.underlying22 (info_parts infoI).choose_spec.1 (some ⟨gn, 0, none⟩) nums.length cap q (q + width) (q + width) q0 (by omega) (by omega) (by omega)
  have hsz : (info_parts infoI).choose.size = 1 := (info_parts infoI).choose_spec.2.2.1
  obtain ⟨off, hf1, hf3⟩ : ∃ off, (some (⟨gn, off, none⟩ : Addr)) = (if q + width = q then some ⟨gn, 0, none⟩ else (some (⟨gn, 0, none⟩ : Addr)).map (·.add (q.toNat * (info_parts infoI).choose.size))) ∧ (width ≠ 0 → off = q.toNat) := by
    rw [hsz]
    by_cases hz : width = 0
    · exact ⟨0, by rw [if_pos (by omega)], fun h => absurd hz h⟩
    · exact ⟨q.toNat, by rw [if_neg (by omega), Nat.mul_one, Option.map_some, add_plain], fun _ => rfl⟩
  have hf2 : (q + width - q).toNat = width.toNat := by omega
  rw [← hf1, hf2] at hsl
  have HF := Lib.hid hf3
  clear hf3
  have hw : wrap64 (p * width) = q := by rw [hq]; unfold wrap64; omega
  have HC := Lib.hid hc
  have HQ := Lib.hid hq
  have HP := Lib.hid hp
  clear hc hq hf1 hf2 hsz
  go_enter Try.func69, Try.ntmps69
  go_wp2
  go_quiet (fail)
  go_wp2
  rw [HP.out]
  rw [hw]
  go_quiet (fail)
  go_wp2
  go_ret
  exact ⟨off, rfl, HF.out, _, World.drewN_drewN ..⟩

/-- the rows, in their order -/
def rowsOf (nums : List Int) (rows width first many : Int) : List (List Int) := (List.range many.toNat).map fun (i : Nat) => (nums.drop (at_ rows width first i)).take width.toNat

/-- the ring at g (numbers at gn) holds the rows L -/
def RingL (w : World) (g gn : Nat) (rows width : Int) (L : List (List Int)) : Prop :=
  ∃ cap nums sp first, RingAt w g gn cap nums sp rows width first L.length ∧ L = rowsOf nums rows width first L.length

theorem rowsOf_length (nums : List Int) (rows width first many : Int) : (rowsOf nums rows width first many).length = many.toNat := by simp [rowsOf]

theorem RingL.width_ {L : List (List Int)} (h : RingL w g gn rows width L) : ∀ r ∈ L, (r.length : Int) = width := by
  obtain ⟨cap, nums, sp, first, h, he⟩ := h
  intro r hr
  rw [he] at hr
  simp only [rowsOf, List.mem_map, List.mem_range] at hr
  obtain ⟨i, hi, rfl⟩ := hr
  obtain ⟨_, _, q0, q1, _⟩ := h.bounds i
  have w0 := h.w0
  simp only [at_, List.length_take, List.length_drop]
  omega

theorem RingL.fr {w' : World} {S : Nat → Prop} {L : List (List Int)} (h : RingL w g gn rows width L) (hf : Fr S w w') (h1 : ¬ S g) (h2 : ¬ S gn) : RingL w' g gn rows width L := by
  obtain ⟨cap, nums, sp, first, h, he⟩ := h
  exact ⟨cap, nums, sp, first, { h with hg := hf.blk h.hg h1, hgn := hf.blk h.hgn h2 }, he⟩

theorem RingL.drewN {L : List (List Int)} (h : RingL w g gn rows width L) (n : Nat) : RingL (w.drewN n) g gn rows width L := h.fr (S := fun _ => False) ((Fr.refl _ _).drewN n) (fun h => h) (fun h => h)

theorem RingL.ltg {L : List (List Int)} (h : RingL w g gn rows width L) : g < w.heap.size ∧ gn < w.heap.size := by
  obtain ⟨cap, nums, sp, first, h, he⟩ := h
  exact ⟨lt_of_blk h.hg, lt_of_blk h.hgn⟩

theorem RingL.bd {L : List (List Int)} (h : RingL w g gn rows width L) : 1 ≤ rows ∧ rows ≤ 64 ∧ 0 ≤ width ∧ width ≤ 64 ∧ (L.length : Int) ≤ rows := by
  obtain ⟨cap, nums, sp, first, h, he⟩ := h
  exact ⟨h.r1, h.r2, h.w0, h.w1, h.m1⟩

theorem new_ring (hrows : 1 ≤ rows) (h2 : rows ≤ 64) (h3 : 0 ≤ width) (h4 : width ≤ 64) : Calls Try.prog 16 #[.int .i64 rows, .int .i64 width] w fun e w' => e = .returned (.tuple #[.pointer (some ⟨w.heap.size + 1, 0, none⟩), .int .i64 0]) ∧ Below w.heap.size w w' ∧ RingL w' (w.heap.size + 1) w.heap.size rows width [] := by
  refine (new_yes rows width w hrows h2 h3 h4).mono ?_
  rintro e w' ⟨rfl, hb, nums, cap, sp, h⟩
  exact ⟨rfl, hb, cap, nums, sp, 0, h, by simp [rowsOf]⟩

theorem len_nil : Calls Try.prog 17 #[.pointer none] w fun e w' => e = .returned (.int .i64 0) ∧ w' = w := by
  go_enter Try.func17, Try.ntmps17
  go_wp2
  go_ret
  exact ⟨rfl, rfl⟩

theorem len_ring {L : List (List Int)} (h : RingL w g gn rows width L) : Calls Try.prog 17 #[.pointer (some ⟨g, 0, none⟩)] w fun e w' => e = .returned (.int .i64 L.length) ∧ w' = w := by
  obtain ⟨cap, nums, sp, first, h, hL⟩ := h
  clear hL
  have c4 : w.cell? ⟨g, 4, none⟩ = some (.int .i64 L.length) := cell_blk h.hg rfl
  clear h
  go_enter Try.func17, Try.ntmps17
  go_wp2
  go_ret
  exact ⟨rfl, rfl⟩

theorem words_nil : Calls Try.prog 27 #[.pointer none] w fun e w' => e = .returned (.int .i64 0) ∧ w' = w := by
  go_enter Try.func27, Try.ntmps27
  go_wp2
  go_ret
  exact ⟨rfl, rfl⟩

theorem words_ring {L : List (List Int)} (h : RingL w g gn rows width L) : Calls Try.prog 27 #[.pointer (some ⟨g, 0, none⟩)] w fun e w' => e = .returned (.int .i64 (L.length * width)) ∧ ∃ n, w' = w.drewN n := by
  obtain ⟨cap, nums, sp, first, h, hL⟩ := h
  clear hL
  have c4 : w.cell? ⟨g, 4, none⟩ = some (.int .i64 L.length) := cell_blk h.hg rfl
  have c2 : w.cell? ⟨g, 2, none⟩ = some (.int .i64 width) := cell_blk h.hg rfl
  have b1 := h.m1; have b2 := h.w0; have b3 := h.w1; have b4 := h.r2
  have hw : wrap64 (↑L.length * width) = L.length * width := w64_in (by
    have := Int.mul_le_mul_of_nonneg_right (show (L.length : Int) ≤ 64 by omega) b2
    have := Int.mul_nonneg (show (0 : Int) ≤ L.length by omega) b2
    omega)
  clear h
  go_enter Try.func27, Try.ntmps27
  go_wp2
  go_quiet (fail)
  go_wp2
  go_ret
  exact ⟨congrArg (fun z => Ending.returned (.int .i64 z)) hw, _, rfl⟩

end

/-- slices.Clone of numbers that read. -/
theorem clone_any (w : World) (A : Option Addr) (c : Nat) (xs : List Int) (hr : ReadsInt w .i64 A xs.length xs) (hb : xs.length * 8 ≤ 140737488351232) :
    Calls Try.prog 74 #[.slice A xs.length c] w fun e w' => ∃ v, e = .returned v ∧ w'.ownsRow w.heap.size 2 1 v xs.length (I64 xs) ∧ Below w.heap.size w w' ∧ (A ≠ none → v.ownBlock ≠ none) := by
  have heq := fun w => Lib.run_eql_slice_nil (P := Try.prog) w 22 2 A xs.length c 0 0 Try.underlying22
  rcases A with _ | ad
  · obtain rfl : xs = [] := by
      rcases xs with _ | ⟨x, xs⟩
      · rfl
      · obtain ⟨_, h, _⟩ := hr.2.2 (by simp)
        cases h
    simp only [Option.isNone_none, List.length_nil] at heq
    clear hr hb
    go_enter Try.func74, Try.ntmps74
    go_wp2
    go_ret
    exact ⟨_, rfl, own_nil _ _ _ _, Below.refl _ _, fun h => absurd rfl h⟩
  · simp only [Option.isNone_some] at heq
    obtain ⟨v1, w1, hrun, hown, hg, hat⟩ := run_app_of (P := Try.prog) (W := w.alloc (.cells #[] 2)) (Value.int .i64) (0 : Int) 22 22 2 (.int .i64 0) 8 Try.underlying22 infoI rfl (by omega) (fun _ => rfl) w.heap.size (.slice (some ⟨w.heap.size, 0, none⟩) 0 0) [] ⟨rfl, .inr ⟨_, 0, #[], rfl, Nat.le_refl _, hp_alloc_new _ _, by simp, by simp [maxLen], rfl, rfl⟩⟩ (some ad) c xs (hr.below ((Below.refl _ _).alloc (Nat.le_refl _) _)) (by simp) (by simpa using by omega)
    have HO := Aside0.mk hown
    have HG := Aside0.mk hg
    have HR := Aside0.mk hrun
    have HA := Aside0.mk hat
    clear hr hb hown hg hat hrun
    go_enter Try.func74, Try.ntmps74
    go_wp2_with (refine wpList_app rfl rfl rfl rfl HR.out ?_)
    go_ret
    refine ⟨_, rfl, HO.out, ?_, fun _ hn => ?_⟩
    · exact (((Below.refl _ _).alloc (Nat.le_refl _) _).grown HG.out (by simp) (by simp [Value.ownBlock]))
    · have := HA.out
      simp [Value.ownBlock] at this
      simp [Value.ownBlock] at hn
      rw [hn] at this
      simp at this

section
variable {w : World} {g gn cap : Nat} {nums : List Int} {sp : List Value} {rows width first many : Int}

theorem RingAt.drewN (h : RingAt w g gn cap nums sp rows width first many) (n : Nat) : RingAt (w.drewN n) g gn cap nums sp rows width first many :=
  { h with hg := h.hg, hgn := h.hgn }

theorem rowsOf_push (h : RingAt w g gn cap nums sp rows width first many) (hm : many < rows) (xs : List Int) (hx : (xs.length : Int) = width) :
    rowsOf (layIn nums (at_ rows width first many) xs) rows width first (many + 1) = rowsOf nums rows width first many ++ [xs] := by
  have m0 := h.m0
  have w0 := h.w0
  obtain ⟨p0, p1, q0, q1, _⟩ := h.bounds many
  have hfit : at_ rows width first many + xs.length ≤ nums.length := by unfold at_; omega
  obtain ⟨n, rfl⟩ := Int.eq_ofNat_of_zero_le m0
  unfold rowsOf
  rw [show ((n : Int) + 1).toNat = n + 1 by omega, Int.toNat_natCast, List.range_succ, List.map_append, List.map_singleton]
  congr 1
  · refine List.map_congr_left fun i hi => ?_
    rw [List.mem_range] at hi
    obtain ⟨r0, r1, s0, s1, _⟩ := h.bounds i
    refine layIn_apart _ _ _ hfit _ _ ?_
    have := mul_apart _ _ width w0 (mod_apart first i n rows (by omega) (by omega) hm)
    unfold at_
    omega
  · have := layIn_seg nums (at_ rows width first n) xs hfit
    rw [show width.toNat = xs.length by omega, this]

theorem push_no (A : Option Addr) (c : Nat) (xs : List Int) {L : List (List Int)} (h : RingL w g gn rows width L) (hx : (xs.length : Int) ≠ width) :
    Calls Try.prog 19 #[.pointer (some ⟨g, 0, none⟩), .slice A xs.length c] w fun e w' => e = .returned (.int .i64 3) ∧ w' = w := by
  obtain ⟨cap, nums, sp, first, h, hL⟩ := h
  clear hL
  have c2 : w.cell? ⟨g, 2, none⟩ = some (.int .i64 width) := cell_blk h.hg rfl
  clear h
  go_enter Try.func19, Try.ntmps19
  go_wp2
  go_ret
  exact ⟨rfl, rfl⟩

theorem push_full (A : Option Addr) (c : Nat) (xs : List Int) {L : List (List Int)} (h : RingL w g gn rows width L) (hx : (xs.length : Int) = width) (hl : (L.length : Int) = rows) :
    Calls Try.prog 19 #[.pointer (some ⟨g, 0, none⟩), .slice A xs.length c] w fun e w' => e = .returned (.int .i64 19) ∧ ∃ n, w' = w.drewN n := by
  obtain ⟨cap, nums, sp, first, h, hL⟩ := h
  clear hL
  have c1 : w.cell? ⟨g, 1, none⟩ = some (.int .i64 L.length) := cell_blk h.hg (by rw [hl]; rfl)
  have c2 : w.cell? ⟨g, 2, none⟩ = some (.int .i64 xs.length) := cell_blk h.hg (by rw [hx]; rfl)
  have c4 : w.cell? ⟨g, 4, none⟩ = some (.int .i64 L.length) := cell_blk h.hg rfl
  clear h hx hl
  go_enter Try.func19, Try.ntmps19
  go_wp2
  go_quiet (fail)
  go_wp2
  go_ret
  exact ⟨rfl, _, rfl⟩

theorem push_ok (A : Option Addr) (c : Nat) (xs : List Int) {L : List (List Int)} (h : RingL w g gn rows width L) (hr : ReadsInt w .i64 A xs.length xs) (hx : (xs.length : Int) = width) (hl : (L.length : Int) < rows) :
    Calls Try.prog 19 #[.pointer (some ⟨g, 0, none⟩), .slice A xs.length c] w fun e w' => e = .returned (.int .i64 0) ∧ RingL w' g gn rows width (L ++ [xs]) ∧ Fr (fun k => k = g ∨ k = gn) w w' := by
  obtain ⟨cap, nums, sp, first, h, hL⟩ := h
  have HL := Lib.hid hL
  clear hL
  have c1 : w.cell? ⟨g, 1, none⟩ = some (.int .i64 rows) := cell_blk h.hg rfl
  have c2 : w.cell? ⟨g, 2, none⟩ = some (.int .i64 xs.length) := cell_blk h.hg (by rw [hx]; rfl)
  have c4 : w.cell? ⟨g, 4, none⟩ = some (.int .i64 L.length) := cell_blk h.hg rfl
  have b1 := h.r2
  have HX := Lib.hid hx
  have H := Aside0.mk h
  have HR := Aside0.mk hr
  clear h hx hr
  have hne : ((L.length : Int) == rows) = false := by rw [beq_eq_false_iff_ne]; omega
  go_enter Try.func19, Try.ntmps19
  go_wp2
  go_quiet (fail)
  go_wp2_with fail
  refine (place_some (H.out.drewN _) L.length (by omega) (by omega)).mono ?_
  rintro e w1 ⟨off, rfl, hoff, n, rfl⟩
  have HO := Lib.hid hoff
  clear hoff
  obtain ⟨w2, hrun, hgn2, hf2⟩ := run_cpy (P := Try.prog) (W := w.drewN (nq + n)) 22 22 3 2 Try.underlying22 (by kernel_rfl) gn (at_ rows width first L.length) (List.map (Value.int .i64) nums ++ sp) 2 H.out.hgn A width.toNat width.toNat xs.length c (xs.map (Value.int .i64))
    (by have := HX.out; simp only [List.length_map]; exact (Nat.min_eq_left (by omega)).symm)
    (fun hp => by
      obtain ⟨ad, ha, hc⟩ := HR.out.2.2 (by simpa using hp)
      refine ⟨ad, ha, fun j u hu => ?_⟩
      have hj : j < xs.length := by simpa using (List.getElem?_eq_some_iff.1 hu).1
      have := hc j hj
      rw [List.getElem?_map, List.getElem?_eq_getElem hj] at hu
      rw [List.getD_eq_getElem?_getD, List.getElem?_eq_getElem hj] at this
      injection hu with hu
      rw [← hu]
      exact this)
    (by
      have hb := H.out.bounds L.length
      have hw := H.out.w0
      have := HX.out
      simp only [List.length_map, List.length_append, at_]
      omega)
    (fun v hv => by
      obtain ⟨q, _, rfl⟩ := List.mem_map.1 hv
      rfl)
    off (fun hp => HO.out (by have := HX.out; simp at hp; have : 0 < xs.length := by rcases xs with _ | ⟨x, xs⟩; · simp at hp
                                                                                     · simp
                              omega))
  have HRUN := Aside0.mk hrun
  have HG2 := Aside0.mk hgn2
  have HF2 := Aside0.mk hf2
  have hg2 := hf2.blk (g := g) H.out.hg H.out.ne
  have c4' : w2.cell? ⟨g, 4, none⟩ = some (.int .i64 L.length) := cell_blk hg2 rfl
  have f4' : w2.frozen? ⟨g, 4, none⟩ = false := frozen_blk hg2
  have HG := Aside0.mk hg2
  clear hrun hgn2 hf2 hg2 c1 c2 c4
  go_wp2_with (refine wpList_cpy rfl rfl rfl rfl HRUN.out ?_)
  go_ret
  have hx := HX.out
  refine ⟨rfl, ⟨cap, layIn nums (at_ rows width first L.length) xs, sp, first, ?_, ?_⟩, ?_⟩
  · have h := H.out
    have hb := h.bounds L.length
    have hl0 : (layIn nums (at_ rows width first L.length) xs).length = nums.length := layIn_length _ _ _ (by unfold at_; omega)
    refine { h with hg := ?_, hgn := ?_, len := by rw [hl0]; exact h.len, cap := by rw [hl0]; exact h.cap, m0 := by omega, m1 := by simp; omega }
    · rw [hp_setCell_same HG.out, hl0]
      simp
    · rw [hp_setCell_other HG2.out h.ne.symm]
      rw [← layIn_map, ← layIn_append _ _ _ _ (by simp; unfold at_; omega)]
      rfl
  · have := rowsOf_push H.out hl xs hx
    rw [show (((L ++ [xs]).length : Nat) : Int) = (L.length : Int) + 1 by simp, this, ← HL.out]
  · exact (Fr.step ((Fr.refl _ w).drewN _) (HF2.out) (fun i _ hi => .inr hi)).setCell (fun _ => .inl rfl) _
end

end Go.Proofs.Ytpakcfbjjlmcaaa.Ring
