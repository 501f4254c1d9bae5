/- What a deed does to a window's best and to the document's list. No condition. -/
import Derived.Test.YtpakcfbjjlmcaaaDeque4
import Derived.Test.YtpakcfbjjlmcaaaUps
import Derived.Test.YtpakcfbjjlmcaaaRingPure
import Derived.Test.YtpakcfbjjlmcaaaDequeLawPure
set_option linter.unusedVariables false
set_option linter.unusedSimpArgs false
set_option maxHeartbeats 1600000
set_option maxRecDepth 100000
namespace Go.Proofs.Ytpakcfbjjlmcaaa.Deque
open Go.RowKit Go.RK Go.DQ Go.Proofs.YtpakcfbjjlmcaaaW.PrintWords Go.Proofs.Ytpakcfbjjlmcaaa.PAll
variable {W : World} {M Z : Nat → Prop} {g n : Nat} {least : Bool} {most p : Int} {L : List Int}
abbrev KI : Kd Int := Kd.int .i64
/-- a window with L in it, whatever came ahead: at most n in all -/
def Win (n g : Nat) (least : Bool) (most : Int) (L : List Int) : HP := HP.ex (fun p : Int => (HP.pure (0 ≤ p ∧ p + L.length ≤ n)).and (DqH g least most p L))
theorem Win.of {p : Int} (h0 : 0 ≤ p) (h1 : p + L.length ≤ n) (h : (DqH g least most p L).at_ W M) : (Win n g least most L).at_ W M := ⟨p, ⟨h0, h1⟩, h⟩
theorem win_of {p : Int} {Φ : HP} {W1 : World} (h0 : 0 ≤ p) (h1 : p + L.length ≤ n) (h : Does W M Z Φ (DqH g least most p L) W1) : Does W M Z Φ (Win n g least most L) W1 :=
  let ⟨M1, a, b, c⟩ := h.ex; ⟨h.fr, M1, Win.of h0 h1 a, b, c⟩
theorem win_drop (T : List Int) (b : Bool) (hT : Hid (L.tail = T ∧ (!L.isEmpty) = b)) (h : (Win n g least most L).at_ W M) (hZ : ∀ k, Z k → ¬ M k) (hn : n ≤ 1000) :
    Calls Try.prog 50 #[.pointer (some ⟨g, 0, none⟩)] W fun e w' => e = .returned (.bool b) ∧ Does W M Z HP.tt (Win (n + 1) g least most T) w' := by
  obtain ⟨rfl, rfl⟩ := hT.out
  obtain ⟨p, ⟨h0, h1⟩, h⟩ := h
  rcases L with _ | ⟨x, xs⟩
  · exact (drop_none h hZ h0 (by omega)).mono (fun e w hx => ⟨hx.1, win_of (p := p) h0 (by simp at h1 ⊢; omega) hx.2⟩)
  · have h2 : (x :: xs).length = xs.length + 1 := rfl
    exact (drop_ok x xs h hZ h0 (by omega) (by omega)).mono (fun e w hx => ⟨hx.1, win_of (p := p + 1) (by omega) (by simp at h1 ⊢; omega) hx.2⟩)
theorem win_push (x : Int) (T : List Int) (c : Int) (hT : Hid ((if (L.length : Int) = most then L else L ++ [x]) = T ∧ (if (L.length : Int) = most then 19 else 0) = c)) (h : (Win n g least most L).at_ W M) (hZ : ∀ k, Z k → ¬ M k) (hn : n ≤ 1000) :
    Calls Try.prog 51 #[.pointer (some ⟨g, 0, none⟩), .int .i64 x] W fun e w' => e = .returned (.int .i64 c) ∧ Does W M Z HP.tt (Win (n + 1) g least most T) w' := by
  obtain ⟨rfl, rfl⟩ := hT.out
  obtain ⟨p, ⟨h0, h1⟩, h⟩ := h
  by_cases hm : (L.length : Int) = most
  · rw [if_pos hm, if_pos hm]
    exact (push_full x h hZ h0 (by omega) hm).mono (fun e w hx => ⟨hx.1, win_of (p := p) h0 (by omega) hx.2⟩)
  · rw [if_neg hm, if_neg hm]
    exact (push_ok x h hZ h0 (by omega) hm (by omega)).mono (fun e w hx => ⟨hx.1, win_of (p := p) h0 (by simp; omega) hx.2⟩)
theorem win_best (m : Int) (b : Bool) (hT : Hid (riffleref13_Best.f 2001000 L least = some (m, b))) (h : (Win n g least most L).at_ W M) (hn : n ≤ 1000) :
    Calls Try.prog 52 #[.pointer (some ⟨g, 0, none⟩)] W fun e w' => e = .returned (.tuple #[.int .i64 m, .bool b]) ∧ Below W.heap.size W w' := by
  obtain ⟨p, ⟨h0, h1⟩, h⟩ := h
  have hT := hT.out
  rcases L with _ | ⟨x, xs⟩
  · rw [DQL.refBest_nil] at hT
    obtain ⟨rfl, rfl⟩ : (0 : Int) = m ∧ false = b := by simpa using hT
    exact best_none h h0 (by simp at h1; omega)
  · rw [DQL.refBest_cons _ x xs (by omega) (by omega)] at hT
    obtain ⟨rfl, rfl⟩ : best least xs x = m ∧ true = b := by simpa using hT
    obtain ⟨q, T, hk⟩ := DQL.kept_best least p x xs
    exact best_ok _ q T hk h h0 (by omega)
theorem win_len (h : (Win n g least most L).at_ W M) (hn : n ≤ 1000) :
    Calls Try.prog 54 #[.pointer (some ⟨g, 0, none⟩)] W fun e w' => e = .returned (.int .i64 L.length) ∧ Below W.heap.size W w' := by
  obtain ⟨p, ⟨h0, h1⟩, h⟩ := h
  exact len_dq h h0 (by omega)
theorem win_kept (K : List Int) (hK : Hid (riffleref13_Kept.f 2001000 L least = some K)) (h : (Win n g least most L).at_ W M) (hn : n ≤ 1000) :
    Calls Try.prog 53 #[.pointer (some ⟨g, 0, none⟩)] W fun e w' => ∃ v, e = .returned v ∧ (HP.val KI v K).at_ w' (fun k => Z k ∨ W.heap.size ≤ k) ∧ Below W.heap.size W w' := by
  obtain ⟨p, ⟨h0, h1⟩, h⟩ := h
  have hK := hK.out
  rw [DQL.refKept _ L (by omega) (by omega) least p] at hK
  injection hK with hK
  subst hK
  exact kept_dq h (by omega)
theorem win_clone (h : (Win n g least most L).at_ W M) (hn : n ≤ 1000) :
    Calls Try.prog 55 #[.pointer (some ⟨g, 0, none⟩)] W fun e w' => ∃ g', e = .returned (.pointer (some ⟨g', 0, none⟩)) ∧ Below W.heap.size W w' ∧ (Win n g' least most L).at_ w' (fun k => W.heap.size ≤ k) := by
  obtain ⟨p, ⟨h0, h1⟩, h⟩ := h
  exact (clone_dq h (by omega)).mono (fun e w ⟨g', he, hb, hx⟩ => ⟨g', he, hb, Win.of h0 h1 hx⟩)
theorem new_win (m : Int) (h1 : 1 ≤ m) (h2 : m ≤ 64) : Calls Try.prog 46 #[.bool least, .int .i64 m] W fun e w' => ∃ g, e = .returned (.tuple #[.pointer (some ⟨g, 0, none⟩), .int .i64 0]) ∧ Below W.heap.size W w' ∧ (Win 0 g least m []).at_ w' (fun k => W.heap.size ≤ k) := by
  refine (new_made (least := least) m h1 h2).mono ?_
  rintro e w1 ⟨g, rfl, hb, h⟩
  exact ⟨g, rfl, hb, Win.of (by omega) (by simp) h⟩
/-- what a deed makes of the list -/
def stepF (most : Int) (L : List Int) (drop : Bool) (x : Int) : List Int := if drop = true then L.tail else if (L.length : Int) = most then L else L ++ [x]
abbrev box (b : Bool) (x : Int) : Obj := .cells #[.bool b, .int .i64 x] 81 (0, 0)
theorem does_drop (h : (Win n g least most L).at_ W M) (v : Value) (hv : (HP.val KI v L).at_ W Z) (hZ : ∀ k, Z k → ¬ M k) (hn : n ≤ 1000) (hl : L.length ≤ 1000) (x : Int) :
    Calls Try.prog 48 #[.pointer (some ⟨g, 0, none⟩), v, .int .i64 most, .agg #[.bool true, .int .i64 x]] W fun e W1 => ∃ v', e = .returned (.tuple #[v', .bool true]) ∧ Does W M Z (HP.val KI v' L.tail) (Win (n + 1) g least most L.tail) W1 := by
  obtain ⟨A0, c0, rfl, hl0, _⟩ := HP.val_now hv
  have H := Aside0.mk (Cx.start (Φ := HP.val KI (.slice A0 L.length c0) L) h hv hZ)
  generalize hT : L.tail = T
  generalize hb : (!L.isEmpty) = b
  have hTb := Lib.hid (And.intro hT hb)
  rcases L with _ | ⟨y, ys⟩
  · simp only [List.tail_nil, List.isEmpty_nil, Bool.not_true] at hT hb
    subst hT; subst hb
    clear h hv hl
    go_enter Try.func48, Try.ntmps48
    go_wp2_with fail
    refine ((H.out.alloc (box true x)).cobj 0 rfl (fun M Z hM hZ hd => win_drop [] false hTb hM hd hn)).mono ?_
    rintro e w1 ⟨rfl, H1⟩
    replace H1 := Aside0.mk H1
    go_wp2
    go_ret2
    exact ⟨_, rfl, H1.out.done 0 rfl⟩
  · simp only [List.tail_cons, List.isEmpty_cons, Bool.not_false] at hT hb
    subst hT; subst hb
    obtain ⟨A1, hcut, hval⟩ := cut_drop (P := Try.prog) (d := KI) 22 2 Try.underlying22 (info_parts infoN).choose_spec.1 (info_parts infoN).choose_spec.2.2.1 A0 c0 (y :: ys) 1 (by omega) (by simp; omega) hl0
    have e1 : ((y :: ys).drop (1 : Int).toNat) = ys := rfl
    rw [e1] at hcut hval
    generalize hL : y :: ys = L at *
    have hne : ((L.length : Int) == 0) = false := by rw [← hL, beq_eq_false_iff_ne]; simp; omega
    have hne2 : 0 < L.length := by rw [← hL]; simp
    replace hL := Lib.hid hL
    replace hval := Lib.hid hval
    clear h hv e1
    go_enter Try.func48, Try.ntmps48
    go_wp2_with fail
    refine ((H.out.alloc (box true x)).cobj 0 rfl (fun M Z hM hZ hd => win_drop _ _ hTb hM hd hn)).mono ?_
    rintro e w1 ⟨rfl, H1⟩
    replace H1 := Aside0.mk H1
    go_wp2
    go_ret2
    exact ⟨_, rfl, (H1.out.imp (fun Z hz => hval.out _ _ hz)).done 0 rfl⟩
theorem does_full (h : (Win n g least most L).at_ W M) (v : Value) (hv : (HP.val KI v L).at_ W Z) (hZ : ∀ k, Z k → ¬ M k) (hn : n ≤ 1000) (x : Int) (hm : (L.length : Int) = most) :
    Calls Try.prog 48 #[.pointer (some ⟨g, 0, none⟩), v, .int .i64 most, .agg #[.bool false, .int .i64 x]] W fun e W1 => ∃ v', e = .returned (.tuple #[v', .bool true]) ∧ Does W M Z (HP.val KI v' L) (Win (n + 1) g least most L) W1 := by
  obtain ⟨A0, c0, rfl, hl0, _⟩ := HP.val_now hv
  have H := Aside0.mk ((Cx.start (Φ := HP.val KI (.slice A0 L.length c0) L) h hv hZ).alloc (box false x))
  have hT : Hid ((if (L.length : Int) = most then L else L ++ [x]) = L ∧ (if (L.length : Int) = most then 19 else 0) = (19 : Int)) := Lib.hid ⟨if_pos hm, if_pos hm⟩
  have hb : ((L.length : Int) == most) = true := by simp [hm]
  clear h hv hm
  go_enter Try.func48, Try.ntmps48
  have k1 := H.out.cell 1 rfl 1 rfl
  go_wp2_with fail
  refine (H.out.cobj 0 rfl (fun M Z hM hZ hd => win_push x _ _ hT hM hd hn)).mono ?_
  rintro e w1 ⟨rfl, H1⟩
  replace H1 := Aside0.mk H1
  clear k1
  go_wp2
  go_ret2
  exact ⟨_, rfl, H1.out.done 0 rfl⟩
theorem does_push (h : (Win n g least most L).at_ W M) (v : Value) (hv : (HP.val KI v L).at_ W Z) (hZ : ∀ k, Z k → ¬ M k) (hn : n ≤ 1000) (hl : L.length ≤ 1000) (x : Int) (hm : ¬ (L.length : Int) = most) :
    Calls Try.prog 48 #[.pointer (some ⟨g, 0, none⟩), v, .int .i64 most, .agg #[.bool false, .int .i64 x]] W fun e W1 => ∃ v', e = .returned (.tuple #[v', .bool true]) ∧ Does W M Z (HP.val KI v' (L ++ [x])) (Win (n + 1) g least most (L ++ [x])) W1 := by
  obtain ⟨A0, c0, rfl, hl0, _⟩ := HP.val_now hv
  have H1 := Aside0.mk ((Cx.start (Φ := HP.val KI (.slice A0 L.length c0) L) h hv hZ).alloc (box false x))
  obtain ⟨L1, hLL⟩ : ∃ L1, L ++ [x] = L1 := ⟨_, rfl⟩
  rw [hLL]
  have hT : Hid ((if (L.length : Int) = most then L else L ++ [x]) = L1 ∧ (if (L.length : Int) = most then 19 else 0) = (0 : Int)) := Lib.hid ⟨by rw [if_neg hm, hLL], if_neg hm⟩
  have hb : ((L.length : Int) == most) = false := by simpa using hm
  have hLx : Hid (L.map (Value.int .i64) ++ [.int .i64 x] = L1.map (Value.int .i64)) := Lib.hid (by rw [← hLL]; simp)
  have hlx : Hid (L.length + 1 = L1.length) := Lib.hid (by rw [← hLL]; simp)
  replace hLL := Lib.hid hLL
  clear h hv hm
  go_enter Try.func48, Try.ntmps48
  go_upto_region 8 with (fail)
  go_region_held3 (fun w' => w'.cell? ⟨W.heap.size, 1, none⟩ = some (.int .i64 x)) (((have k1 : World.cell? _ ⟨W.heap.size, 1, none⟩ = some (.int .i64 x) := H1.out.cell 1 rfl 1 rfl); repeat (first | with_reducible exact k1 | with_reducible refine cell_al ?_ _ | with_reducible refine cell_dr ?_)))
    (first
      | (go_at_call 51
         refine (H1.out.cobj 0 rfl (fun M Z hM hZ hd => win_push x _ _ hT hM hd hn)).mono ?_
         rintro e Wh ⟨rfl, H2⟩
         replace H1 := Aside0.mk H2
         clear H2)
      | (apply Cx.up_step H1.out
         focus (intro h; repeat (first | with_reducible exact h | with_reducible apply Cx.alloc2 (o := .cells #[] 2 (0, 0)) | with_reducible apply Cx.alloc1 (o := .cells #[] 2 (0, 0)) | with_reducible apply Cx.alloc (o := .cells #[] 2 (0, 0)) | with_reducible apply Cx.allocF2 | with_reducible apply Cx.allocF1 | with_reducible apply Cx.allocF | with_reducible apply Cx.drew))
         intro H9
         obtain ⟨Z9, hz⟩ := H9.out.now
         refine Cx.step_appc (H9.out.rowed 2 2 rfl (by omega)) 2 2 (.int .i64 0) 1 8 (L.map (Value.int .i64)) L.length (L.map (Value.int .i64)) (Nat.zero_add _) rfl (by rfl) (by rfl) (by rfl) (by rfl) rfl (by omega) Try.underlying22 infoN rfl (by omega) (by omega) (by simp) (fun hp => Cx.src_of (enc := Value.int .i64) (h1 := fun _ => rfl) (by first | exact HP.val_C hz | exact HP.val_C hz.1 | exact HP.val_C hz.1.1) hp) (fun u hu => by obtain ⟨q, _, rfl⟩ := List.mem_map.1 hu; rfl) (by omega) ?_
         intro A1 c1 w1 H2
         clear hz H9
         replace H1 := Aside0.mk H2.out
         clear H2)
      | (apply Cx.up_step H1.out
         focus (intro h; repeat (first | with_reducible exact h | with_reducible apply Cx.alloc2 (o := .cells #[] 2 (0, 0)) | with_reducible apply Cx.alloc1 (o := .cells #[] 2 (0, 0)) | with_reducible apply Cx.alloc (o := .cells #[] 2 (0, 0)) | with_reducible apply Cx.allocF2 | with_reducible apply Cx.allocF1 | with_reducible apply Cx.allocF | with_reducible apply Cx.drew))
         intro H9
         obtain ⟨Z9, hz⟩ := H9.out.now
         refine Cx.step_appc H9.out 2 2 (.int .i64 0) 1 8 [.int .i64 x] L1.length (L1.map (Value.int .i64)) hlx.out hLx.out (by rfl) (by rfl) (by rfl) (by rfl) rfl (by omega) Try.underlying22 infoN rfl (by omega) (by omega) rfl (fun hp => ⟨_, rfl, fun j u hj => by rw [add_plain]; exact cell_blk (by first | exact hz.2.1 | exact hz.1.2.1 | exact hz.1.1.2.1) (by simpa using hj)⟩) (by intro u hu; rw [List.mem_singleton.1 hu]; rfl) (by omega) ?_
         intro A2 c2 w2 H2
         clear hz H9
         replace H1 := Aside0.mk H2.out
         clear H2))
  all_goals
    rename_i hHeld
    clear hHeld
    go_wp2
    go_ret2
    exact ⟨_, rfl, ((H1.out.freezeRow 2 rfl (Nat.le_refl _)).imp (fun Z hz => HP.val_of (d := KI) hz.2 (HP.reps_scalar _ _ rfl))).done 0 rfl⟩
theorem does_any (h : (Win n g least most L).at_ W M) (v : Value) (hv : (HP.val KI v L).at_ W Z) (hZ : ∀ k, Z k → ¬ M k) (hn : n ≤ 1000) (hl : L.length ≤ 1000) (b : Bool) (x : Int) :
    Calls Try.prog 48 #[.pointer (some ⟨g, 0, none⟩), v, .int .i64 most, .agg #[.bool b, .int .i64 x]] W fun e W1 => ∃ v', e = .returned (.tuple #[v', .bool true]) ∧ Does W M Z (HP.val KI v' (stepF most L b x)) (Win (n + 1) g least most (stepF most L b x)) W1 := by
  unfold stepF
  cases b with
  | true => rw [if_pos rfl]; exact does_drop h v hv hZ hn hl x
  | false =>
    rw [if_neg (by simp)]
    by_cases hm : (L.length : Int) = most
    · rw [if_pos hm]; exact does_full h v hv hZ hn x hm
    · rw [if_neg hm]; exact does_push h v hv hZ hn hl x hm
theorem same_ok (h : (Win n g least most L).at_ W M) (A : Option Addr) (c : Nat) (hv : (HP.val KI (.slice A L.length c) L).at_ W Z) (hZ : ∀ k, Z k → ¬ M k) (hn : n ≤ 1000) (hl : L.length ≤ 1000) :
    Calls Try.prog 49 #[.pointer (some ⟨g, 0, none⟩), .slice A L.length c, .bool least] W fun e W1 => e = .returned (.bool true) ∧ Does W M Z HP.tt (Win n g least most L) W1 := by
  have H := Aside0.mk (Cx.start (Φ := HP.val KI (.slice A L.length c) L) h hv hZ)
  have hB : ∃ m b, riffleref13_Best.f 2001000 L least = some (m, b) := by
    rcases L with _ | ⟨y, ys⟩
    · exact ⟨_, _, DQL.refBest_nil _ _⟩
    · exact ⟨_, _, DQL.refBest_cons _ y ys hl (by omega) _⟩
  obtain ⟨m, b, hB⟩ := hB
  have hK := DQL.refKept 2001000 L hl (by omega) least 0
  have hKl : ((kept least 0 L).map (·.1)).length ≤ 1000 := by
    have := kept_len least 0 L
    rw [List.length_map]; omega
  generalize (kept least 0 L).map (·.1) = K at hK hKl
  have hself := Aside0.mk (RPure.nums_self K (by omega) 2000 (by omega))
  replace hB := Lib.hid hB
  replace hK := Lib.hid hK
  have hmm : (m == m) = true := by simp
  have hbb : (b == b) = true := by simp
  clear h hv
  go_enter Try.func49, Try.ntmps49
  go_wp2_with fail
  refine (H.out.cread 0 rfl (fun M hM => win_best m b hB hM hn)).mono ?_
  rintro e w1 ⟨rfl, H1⟩
  replace H1 := Aside0.mk H1
  go_wp2_with fail
  refine (H1.out.cskip (fun Z hZ => Cx.toBelow (riffleref13_Best.calls 2001000 A c L least m b _ (HP.val_C hZ) (HP.val_le hZ) hB.out))).mono ?_
  rintro e w2 ⟨rfl, H2⟩
  replace H2 := Aside0.mk H2
  go_wp2_with fail
  refine (H2.out.cread 0 rfl (fun M hM => win_len hM hn)).mono ?_
  rintro e w3 ⟨rfl, H3⟩
  replace H3 := Aside0.mk H3
  go_wp2_with fail
  refine (H3.out.crval 0 rfl (fun M hM => win_kept (Z := fun _ => False) K hK hM hn)).mono ?_
  rintro e w4 ⟨A4, c4, rfl, H4⟩
  replace H4 := Aside0.mk H4
  go_wp2_with fail
  refine (H4.out.cval (fun Z hZ => (riffleref13_Kept.calls 2001000 A c L least K _ (HP.val_C hZ.1) (HP.val_le hZ.1) hK.out).mono (fun e w ⟨v, he, hr, hb⟩ => ⟨v, he, V_of_R (e' := 0) (base' := 0) hr (fun k hk => .inr hk), hb⟩))).mono ?_
  rintro e w5 ⟨A5, c5, rfl, H5⟩
  replace H5 := Aside0.mk H5
  go_wp2_with fail
  refine (H5.out.cskip (fun Z hZ => Cx.toBelow (riffleref03_Nums.calls 2000 A4 c4 K A5 c5 K true _ (HP.val_C hZ.1.2) (HP.val_le hZ.1.2) (HP.val_C hZ.2) (HP.val_le hZ.2) hself.out))).mono ?_
  rintro e w6 ⟨rfl, H6⟩
  replace H6 := Aside0.mk H6
  go_wp2
  go_ret
  exact ⟨rfl, (H6.out.imp (fun Z hz => trivial)).done 0 rfl⟩
end Go.Proofs.Ytpakcfbjjlmcaaa.Deque
