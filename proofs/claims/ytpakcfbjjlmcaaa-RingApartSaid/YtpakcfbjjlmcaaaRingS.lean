/- The ring's methods as steps of an object in a zone of its own. No condition. -/
import Derived.Test.YtpakcfbjjlmcaaaRing2
import Derived.Test.YtpakcfbjjlmcaaaRingLives
import Derived.Test.YtpakcfbjjlmcaaaSep
import Derived.Test.YtpakcfbjjlmcaaaOpen
set_option linter.unusedVariables false
set_option linter.unusedSimpArgs false
set_option maxHeartbeats 400000
set_option maxRecDepth 100000
namespace Go.Proofs.Ytpakcfbjjlmcaaa.Ring
open Go.RowKit Go.RK Go.RL Go.Proofs.YtpakcfbjjlmcaaaW.PrintWords

theorem RingL.mv {w w1 : World} {g gn : Nat} {rows width : Int} {L : List (List Int)} (h : RingL w g gn rows width L) (h1 : w1.heap[g]? = w.heap[g]?) (h2 : w1.heap[gn]? = w.heap[gn]?) : RingL w1 g gn rows width L := by
  obtain ⟨cap, nums, sp, first, h, he⟩ := h
  exact ⟨cap, nums, sp, first, { h with hg := h1.trans h.hg, hgn := h2.trans h.hgn }, he⟩

/-- the ring at g holds the rows L -/
def RingH (g : Nat) (rows width : Int) (L : List (List Int)) : HP := ⟨fun W M => ∃ gn, RingL W g gn rows width L ∧ M g ∧ M gn, fun ⟨gn, h, h1, h2⟩ hm => by
  have e1 := hm g h1 h.ltg.1
  have e2 := hm gn h2 h.ltg.2
  exact ⟨gn, h.mv e1.1 e2.1, e1.2, e2.2⟩⟩

variable {W : World} {M Z : Nat → Prop} {g : Nat} {rows width : Int} {L : List (List Int)}

/-- what Push makes of the rows, and what it tells -/
def pushF (rows width : Int) (L : List (List Int)) (xs : List Int) : List (List Int) × Int := if (xs.length : Int) = width then (if (L.length : Int) = rows then (L, 19) else (L ++ [xs], 0)) else (L, 3)
theorem push_does (h : (RingH g rows width L).at_ W M) (A : Option Addr) (c : Nat) (xs : List Int) (hr : (Kd.int .i64).C W A xs.length xs) :
    Calls Try.prog 19 #[.pointer (some ⟨g, 0, none⟩), .slice A xs.length c] W fun e w' => e = .returned (.int .i64 (pushF rows width L xs).2) ∧ Does W M Z HP.tt (RingH g rows width (pushF rows width L xs).1) w' := by
  obtain ⟨gn, h, h1, h2⟩ := h
  unfold pushF
  by_cases hx : (xs.length : Int) = width
  · rw [if_pos hx]
    by_cases hl : (L.length : Int) = rows
    · rw [if_pos hl]
      refine (push_full A c xs h hx hl).mono ?_
      rintro e w1 ⟨rfl, n, rfl⟩
      exact ⟨rfl, (Fr.refl _ _).drewN n, M, ⟨gn, h.drewN n, h1, h2⟩, trivial, fun k hk => .inl hk⟩
    · rw [if_neg hl]
      refine (push_ok A c xs h (C_ints hr) hx (by have := h.bd.2.2.2.2; omega)).mono ?_
      rintro e w1 ⟨rfl, h3, hf⟩
      exact ⟨rfl, hf.mono (fun k _ hk => by rcases hk with rfl | rfl <;> assumption), M, ⟨gn, h3, h1, h2⟩, trivial, fun k hk => .inl hk⟩
  · rw [if_neg hx]
    refine (push_no A c xs h hx).mono ?_
    rintro e w1 ⟨rfl, rfl⟩
    exact ⟨rfl, Fr.refl _ _, M, ⟨gn, h, h1, h2⟩, trivial, fun k hk => .inl hk⟩
theorem pop_does (h : (RingH g rows width L).at_ W M) :
    Calls Try.prog 18 #[.pointer (some ⟨g, 0, none⟩)] W fun e w' => ∃ v, e = .returned (.tuple #[v, .bool (!L.isEmpty)]) ∧ Does W M Z (HP.val (Kd.int .i64) v (L.headD [])) (RingH g rows width L.tail) w' := by
  obtain ⟨gn, h, h1, h2⟩ := h
  rcases L with _ | ⟨x, L⟩
  · refine (pop_empty h).mono ?_
    rintro e w1 ⟨rfl, rfl⟩
    exact ⟨_, rfl, Fr.refl _ _, M, ⟨gn, h, h1, h2⟩, HP.val_nil _ _ _, fun k hk => .inl hk⟩
  · refine (pop_ok x L h).mono ?_
    rintro e w1 ⟨v, rfl, ho, h3, hf⟩
    refine ⟨v, rfl, hf.mono (fun k _ hk => by rcases hk with rfl; exact h1), fun k => M k ∧ k < W.heap.size, ⟨gn, h3, ⟨h1, h.ltg.1⟩, h2, h.ltg.2⟩, (HP.val _ _ _).mono (HP.val_own ho) (fun k hk _ => ⟨.inr hk, by omega⟩), fun k hk => .inl hk.1⟩
theorem at_reads (h : (RingH g rows width L).at_ W M) (i : Int) :
    Calls Try.prog 25 #[.pointer (some ⟨g, 0, none⟩), .int .i64 i] W fun e w' => ∃ v, e = .returned (.tuple #[v, .bool (decide (0 ≤ i ∧ i < L.length))]) ∧ Does W M Z (HP.val (Kd.int .i64) v (if 0 ≤ i ∧ i < L.length then L.getD i.toNat [] else [])) (RingH g rows width L) w' := by
  obtain ⟨gn, h, h1, h2⟩ := h
  by_cases hi : 0 ≤ i ∧ i < L.length
  · rw [if_pos hi, decide_eq_true hi]
    obtain ⟨n, rfl⟩ := Int.eq_ofNat_of_zero_le hi.1
    have hn : n < L.length := by omega
    refine (at_ok n h hn).mono ?_
    rintro e w1 ⟨v, rfl, ho, hb⟩
    refine ⟨v, rfl, Fr.of_below hb, fun k => M k ∧ k < W.heap.size, ⟨gn, h.fr (S := fun _ => False) (Fr.of_below hb) (fun h => h) (fun h => h), ⟨h1, h.ltg.1⟩, h2, h.ltg.2⟩, ?_, fun k hk => .inl hk.1⟩
    have e : L.getD (n : Int).toNat [] = L[n] := by simp [List.getD_eq_getElem?_getD, hn]
    rw [e]
    exact (HP.val _ _ _).mono (HP.val_own ho) (fun k hk _ => ⟨.inr hk, by omega⟩)
  · rw [if_neg hi, decide_eq_false hi]
    refine (at_no i h hi).mono ?_
    rintro e w1 ⟨rfl, rfl⟩
    exact ⟨_, rfl, Fr.refl _ _, M, ⟨gn, h, h1, h2⟩, HP.val_nil _ _ _, fun k hk => .inl hk⟩
theorem len_reads (h : (RingH g rows width L).at_ W M) :
    Calls Try.prog 17 #[.pointer (some ⟨g, 0, none⟩)] W fun e w' => e = .returned (.int .i64 L.length) ∧ w' = W := by
  obtain ⟨gn, h, h1, h2⟩ := h
  exact len_ring h
theorem words_reads (h : (RingH g rows width L).at_ W M) :
    Calls Try.prog 27 #[.pointer (some ⟨g, 0, none⟩)] W fun e w' => e = .returned (.int .i64 (L.length * width)) ∧ ∃ n, w' = W.drewN n := by
  obtain ⟨gn, h, h1, h2⟩ := h
  exact words_ring h
theorem new_made (hrows : 1 ≤ rows) (h2 : rows ≤ 64) (h3 : 0 ≤ width) (h4 : width ≤ 64) : Calls Try.prog 16 #[.int .i64 rows, .int .i64 width] W fun e w' => ∃ g, e = .returned (.tuple #[.pointer (some ⟨g, 0, none⟩), .int .i64 0]) ∧ Below W.heap.size W w' ∧ (RingH g rows width []).at_ w' (fun k => W.heap.size ≤ k) := by
  refine (new_ring hrows h2 h3 h4).mono ?_
  rintro e w1 ⟨rfl, hb, h⟩
  exact ⟨_, rfl, hb, _, h, by omega, Nat.le_refl _⟩
theorem clone_made (h : (RingH g rows width L).at_ W M) : Calls Try.prog 28 #[.pointer (some ⟨g, 0, none⟩)] W fun e w' => ∃ g', e = .returned (.pointer (some ⟨g', 0, none⟩)) ∧ Below W.heap.size W w' ∧ (RingH g' rows width L).at_ w' (fun k => W.heap.size ≤ k) := by
  obtain ⟨gn, h, h1, h2⟩ := h
  refine (clone_ring h).mono ?_
  rintro e w1 ⟨g', gn', rfl, hg, hgn, h3, hb⟩
  exact ⟨_, rfl, hb, _, h3, hg, hgn⟩

theorem info22 : (Try.prog.info? 22).map (fun i => (i.zero, i.size, i.bytes)) = some (some (.slice none 0 0), 1, 24) := by kernel_rfl
theorem place_reads (h : (RingH g rows width L).at_ W M) (k : Nat) (hk : k < L.length) :
    Calls Try.prog 69 #[.pointer (some ⟨g, 0, none⟩), .int .i64 k] W fun e w' => ∃ A, e = .returned (.slice A L[k].length L[k].length) ∧ (Kd.int .i64).C w' A L[k].length L[k] ∧ A ≠ none ∧ L[k].length ≤ 64 ∧ ∃ n, w' = W.drewN n := by
  obtain ⟨gn, ⟨cap, nums, sp, first, h, hL⟩, _, _⟩ := h
  have hLi : L[k] = (nums.drop (at_ rows width first k)).take width.toNat := by
    have := rowsOf_get nums rows width first L.length k (by omega)
    rw [← hL, List.getElem?_eq_getElem hk] at this
    exact Option.some.inj this
  refine (place_some h k (by omega) (by have := h.m1; have := h.r2; omega)).mono ?_
  rintro e w1 ⟨off, rfl, hoff, n, rfl⟩
  have hr := (h.reads k off hoff).drewN n
  have hl := row_len h k
  rw [← hLi] at hr hl
  refine ⟨some ⟨gn, off, none⟩, by rw [hl], Kd.C_of_reads hr, by simp, by have := h.w1; omega, n, rfl⟩
theorem clone_val (A : Option Addr) (c : Nat) (xs : List Int) (hr : (Kd.int .i64).C W A xs.length xs) (hb : xs.length ≤ 64) :
    Calls Try.prog 74 #[.slice A xs.length c] W fun e w' => ∃ v, e = .returned v ∧ (HP.val (Kd.int .i64) v xs).at_ w' (fun k => Z k ∨ W.heap.size ≤ k) ∧ Below W.heap.size W w' := by
  refine (clone_any W A c xs (C_ints hr) (by omega)).mono ?_
  rintro e w1 ⟨v, rfl, ho, hb, _⟩
  exact ⟨v, rfl, (HP.val _ _ _).mono (HP.val_own ho) (fun k hk _ => .inr hk), hb⟩

theorem rows_does (h : (RingH g rows width L).at_ W M) :
    Calls Try.prog 26 #[.pointer (some ⟨g, 0, none⟩)] W fun e w' => ∃ v, e = .returned v ∧ Does W M Z (HP.val (Kd.slice 2 (Kd.int .i64)) v L) (RingH g rows width L) w' := by
  have hbd : L.length ≤ 64 := by obtain ⟨gn, h, _⟩ := h; have := h.bd; omega
  have H := Aside0.mk ((Cx.start (Φ := HP.tt) (Z := fun _ => False) h trivial (fun k hk => hk.elim)).add (HP.raw_nil 22 1 W _))
  clear h
  go_enter Try.func26, Try.ntmps26
  go_wp2_with fail
  refine (H.out.cread 0 rfl (fun M hM => (len_reads hM).mono (R' := fun e W1 => e = _ ∧ Below W.heap.size W W1) (fun e w1 hx => ⟨hx.1, by rw [hx.2]; exact Below.refl _ _⟩))).mono ?_
  rintro e w1 ⟨rfl, H1⟩
  replace H1 := Aside0.mk H1
  clear H
  go_wp2
  go_loopw [3, 7] (fun v i wr => ∃ (k : Nat) (cells : List Value), k ≤ L.length ∧ i = .int .i64 k ∧ Aside0 (Cx M (fun _ => False) W wr (HP.reps (Kd.slice 2 (Kd.int .i64)) (L.take k) cells) [RingH g rows width L, HP.raw 22 1 v k cells])) (fun _ i _ => L.length - (intOf i).toNat)
  case atStart => exact ⟨0, [], by omega, rfl, ⟨H1.out.imp (fun Z hZ => HP.reps_nil _ _ _)⟩⟩
  case round =>
    clear H1
    obtain ⟨k, cells, hk, rfl, H⟩ := hrel
    by_cases hlt : k < L.length
    · generalize hx : L[k] = x
      have hxs : Hid (L.take (k + 1) = L.take k ++ [x]) := by rw [← hx]; exact Lib.hid (List.take_succ_eq_append_getElem hlt)
      have hpl : ∀ W' M', (RingH g rows width L).at_ W' M' → Calls Try.prog 69 #[.pointer (some ⟨g, 0, none⟩), .int .i64 k] W' fun e w' => ∃ A, e = .returned (.slice A x.length x.length) ∧ (Kd.int .i64).C w' A x.length x ∧ A ≠ none ∧ x.length ≤ 64 ∧ ∃ n, w' = W'.drewN n := by
        subst hx; intro W' M' h; exact place_reads h k hlt
      replace hpl := Aside0.mk hpl
      clear hx
      go_wp2_with fail
      obtain ⟨M', hM'⟩ := H.out.get 0 rfl
      refine (hpl.out _ _ hM').mono ?_
      rintro e w2 ⟨A, rfl, hC, _, hx64, n, rfl⟩
      clear hM'
      replace H := Aside0.mk (H.out.drewN n)
      replace hC := Aside0.mk hC
      go_wp2_with fail
      refine (H.out.cvalh (fun Z hZ => clone_val (Z := Z) A _ x hC.out hx64)).mono ?_
      rintro e w3 ⟨A3, c3, rfl, H3⟩
      clear H hC
      obtain ⟨v4, w4, hrun, H4⟩ := H3.app1 (P := Try.prog) 1 38 38 22 (.slice none 0 0) 1 24 rfl Try.underlying38 info22 rfl (by omega) (by omega) [.slice A3 x.length c3] rfl (by intro u hu; rw [List.mem_singleton.1 hu]; rfl) (by omega)
      replace hrun := Aside0.mk hrun
      replace H4 := Aside0.mk H4
      clear H3
      go_wp2_with (refine wpList_app rfl rfl rfl rfl hrun.out ?_)
      go_roundw
      case rel => exact ⟨k + 1, cells ++ [.slice A3 x.length c3], by omega, by go_num, ⟨by rw [hxs.out]; exact H4.out.imp (fun Z hZ => HP.reps_snoc hZ.1 (HP.kind_val hZ.2))⟩⟩
      case measure => simp [intOf]; omega
    · obtain rfl : k = L.length := by omega
      go_wp2
      go_ret
      refine ⟨_, rfl, ?_⟩
      have hd := ((H.out.freezeS 0 rfl).imp (Φ' := HP.val (Kd.slice 2 (Kd.int .i64)) _ L) (fun Z hZ => by rw [List.take_length] at hZ; exact HP.val_of hZ.2 hZ.1)).done 0 rfl
      exact ⟨hd.fr, let ⟨M1, a, b, c⟩ := hd.ex; ⟨M1, a, HP.mono b (fun k hk _ => ⟨hk.1.elim (fun h => h.elim) .inr, hk.2⟩), c⟩⟩
end Go.Proofs.Ytpakcfbjjlmcaaa.Ring
