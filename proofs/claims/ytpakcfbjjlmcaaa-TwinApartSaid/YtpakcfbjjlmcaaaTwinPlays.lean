/- TwinPlays, walked. No condition but that the arguments read. -/
import Derived.Test.YtpakcfbjjlmcaaaTwinLaw
import Derived.Test.YtpakcfbjjlmcaaaOpen
set_option linter.unusedVariables false
set_option linter.unusedSimpArgs false
set_option maxHeartbeats 1600000
set_option maxRecDepth 100000
namespace Go.Proofs.Ytpakcfbjjlmcaaa.TwinS
open Go.RowKit Go.RK Go.TW Go.Proofs.YtpakcfbjjlmcaaaW.PrintWords Go.Proofs.Ytpakcfbjjlmcaaa.PAll
variable {W : World} {M Z : Nat → Prop} {g : Nat} {most : Int} {L : List ByteArray}
theorem new_win (m : Int) (h1 : 1 ≤ m) (h2 : m ≤ 64) : Calls Try.prog 29 #[.int .i64 m, .func (.func 30) #[] #[]] W fun e w' => ∃ g, e = .returned (.tuple #[.pointer (some ⟨g, 0, none⟩), .int .i64 0]) ∧ Below W.heap.size W w' ∧ (WinH cat g m []).at_ w' (fun k => W.heap.size ≤ k) := by
  refine (new_made (jn := cat) m h1 h2).mono ?_
  rintro e w1 ⟨g, rfl, hb, h⟩
  exact ⟨g, rfl, hb, ([], []), h, rfl⟩
theorem lives_ok : Calls Try.prog 31 #[] W fun e w' => e = .returned (.bool true) ∧ Below W.heap.size W w' := by
  have H0 := Aside0.mk (Cx.startz (W := W) (Φ := HP.tt) (Z := fun _ => False) trivial)
  have hB1 : ∀ y ∈ ([] : List ByteArray), len y ≤ 40 := by simp
  have hB2 : ∀ y ∈ [(⟨#[97]⟩ : ByteArray)], len y ≤ 40 := by decide
  have hB3 : ∀ y ∈ [(⟨#[97]⟩ : ByteArray), ⟨#[98]⟩], len y ≤ 40 := by decide
  have hB4 : ∀ y ∈ [(⟨#[97]⟩ : ByteArray), ⟨#[98]⟩, ⟨#[99]⟩], len y ≤ 40 := by decide
  have hB5 : ∀ y ∈ [(⟨#[98]⟩ : ByteArray), ⟨#[99]⟩], len y ≤ 40 := by decide
  replace hB1 := Lib.hid hB1
  replace hB2 := Lib.hid hB2
  replace hB3 := Lib.hid hB3
  replace hB4 := Lib.hid hB4
  replace hB5 := Lib.hid hB5
  have ha : Aside0 (all cat ByteArray.empty [(⟨#[98]⟩ : ByteArray), ⟨#[99]⟩] = ⟨#[98, 99]⟩) := ⟨rfl⟩
  go_enter Try.func31, Try.ntmps31
  go_wp2_with fail
  refine (H0.out.cnew (new_win 3 (by omega) (by omega))).mono ?_
  rintro e w1 ⟨g, rfl, H1⟩
  replace H1 := Aside0.mk H1
  go_wp2_with fail
  refine (H1.out.cobj 0 rfl (fun M Z hM hZ hd => push_of [⟨#[97]⟩] 0 ⟨#[97]⟩ (Lib.hid ⟨by simp, by simp⟩) hM hd (by simp) hB1.out (by simp [len, ByteArray.size]))).mono ?_
  rintro e w2 ⟨rfl, H2⟩
  replace H2 := Aside0.mk H2
  go_wp2_with fail
  refine (H2.out.cobj 0 rfl (fun M Z hM hZ hd => push_of [⟨#[97]⟩, ⟨#[98]⟩] 0 ⟨#[98]⟩ (Lib.hid ⟨by simp, by simp⟩) hM hd (by simp) hB2.out (by simp [len, ByteArray.size]))).mono ?_
  rintro e w3 ⟨rfl, H3⟩
  replace H3 := Aside0.mk H3
  go_wp2_with fail
  refine (H3.out.cobj 0 rfl (fun M Z hM hZ hd => push_of [⟨#[97]⟩, ⟨#[98]⟩, ⟨#[99]⟩] 0 ⟨#[99]⟩ (Lib.hid ⟨by simp, by simp⟩) hM hd (by simp) hB3.out (by simp [len, ByteArray.size]))).mono ?_
  rintro e w4 ⟨rfl, H4⟩
  replace H4 := Aside0.mk H4
  go_wp2_with fail
  refine (H4.out.cobj 0 rfl (fun M Z hM hZ hd => drop_of [⟨#[98]⟩, ⟨#[99]⟩] true (Lib.hid ⟨rfl, rfl⟩) hM hd (by simp) hB4.out)).mono ?_
  rintro e w5 ⟨rfl, H5⟩
  replace H5 := Aside0.mk H5
  go_wp2_with fail
  refine (H5.out.cread 0 rfl (fun M hM => win_all len cat_len cat_ok cat_assoc hM (by simp) hB5.out)).mono ?_
  rintro e w6 ⟨rfl, H6⟩
  replace H6 := Aside0.mk H6
  rw [ha.out]
  go_wp2
  go_ret
  exact ⟨rfl, H6.out.below⟩
/-- the document's All: put behind one another -/
theorem refAll_eq (L : List ByteArray) (hl : L.length ≤ 64) (hB : ∀ y ∈ L, len y ≤ 40) : riffleref12_All.f 1000 L = some (all cat ByteArray.empty L) := by
  have h : ∀ (d k : Nat) (i : Nat) (acc : ByteArray), i + d = L.length → d < k → acc.size ≤ 40 * (i + 1) → riffleref12_All.l0 k L acc i = some ((L.drop i).foldl cat acc) := by
    intro d
    induction d with
    | zero =>
      intro k i acc hi hk _
      obtain ⟨k, rfl⟩ : ∃ m, k = m + 1 := ⟨k - 1, by omega⟩
      simp only [riffleref12_All.l0]; rw [if_neg (by omega), List.drop_of_length_le (by omega)]; rfl
    | succ d ih =>
      intro k i acc hi hk hs
      obtain ⟨k, rfl⟩ : ∃ m, k = m + 1 := ⟨k - 1, by omega⟩
      have hlt : i < L.length := by omega
      have e : rdOf ByteArray.empty L (i : Int) = L[i] := by unfold rdOf; rw [List.getD_eq_getElem?_getD, Int.toNat_natCast, List.getElem?_eq_getElem hlt]; rfl
      have hsz : L[i].size ≤ 40 := hB _ (List.getElem_mem hlt)
      have hw : wrap64 ((i : Int) + 1) = ((i + 1 : Nat) : Int) := by unfold wrap64; omega
      simp only [riffleref12_All.l0]
      rw [if_pos (by omega), if_pos (by omega), e, if_pos (by omega), hw, ih k (i + 1) (acc ++ L[i]) (by omega) (by omega) (by rw [ByteArray.size_append]; omega), List.drop_eq_getElem_cons hlt]
      rfl
  unfold riffleref12_All.f
  have := h L.length 1000 0 ⟨#[]⟩ (by omega) (by omega) (by simp [ByteArray.size])
  rw [Int.natCast_zero] at this
  rw [this, List.drop_zero]
  rcases L with _ | ⟨x, xs⟩
  · rfl
  · simp only [all, foldL, List.foldl_cons]
    congr 2
/-- Great answers; false: few deeds, short texts -/
theorem great_ok (L : List S59) (d : Nat) : ∀ (k : Nat) (i : Int), 0 ≤ i → i ≤ L.length → i ≤ 80 → 80 - i = d → 2 * d + 2 < k → (∀ j : Nat, (j : Int) < i → (rd_T59 L (j : Int)).f1.size ≤ 40) →
    ∃ r, rifflelaw12_Great.l0 k L i = some r ∧ (r = false → L.length ≤ 80 ∧ ∀ j : Nat, j < L.length → (rd_T59 L (j : Int)).f1.size ≤ 40) := by
  induction d with
  | zero =>
    intro k i h0 h1 h2 hd hk hj
    obtain ⟨k, rfl⟩ : ∃ m, k = m + 2 := ⟨k - 2, by omega⟩
    obtain rfl : i = 80 := by omega
    refine ⟨decide ((L.length : Int) > 80), ?_, fun hr => ?_⟩
    · by_cases hlt : (80 : Int) < L.length
      · simp only [rifflelaw12_Great.l0, rifflelaw12_Great.j1]; rw [if_pos hlt]; simp
      · simp only [rifflelaw12_Great.l0, rifflelaw12_Great.j1]; rw [if_neg hlt]; simp
    · simp at hr
      exact ⟨by omega, fun j hjl => hj j (by omega)⟩
  | succ d ih =>
    intro k i h0 h1 h2 hd hk hj
    obtain ⟨k, rfl⟩ : ∃ m, k = m + 2 := ⟨k - 2, by omega⟩
    have hw : wrap64 (i + 1) = i + 1 := by unfold wrap64; omega
    by_cases hlt : i < (L.length : Int)
    · by_cases hg : (((rd_T59 L i).f1).size : Int) > 40
      · refine ⟨true, ?_, fun h => by cases h⟩
        simp only [rifflelaw12_Great.l0, rifflelaw12_Great.j1]; rw [if_pos hlt, if_pos (by simp; omega), if_pos (by omega), if_pos hlt, if_pos hg]
      · obtain ⟨r, hr, h⟩ := ih k (i + 1) (by omega) (by omega) (by omega) (by omega) (by omega) (fun j hj' => by
          by_cases e : (j : Int) = i
          · rw [e]; omega
          · exact hj j (by omega))
        refine ⟨r, ?_, h⟩
        simp only [rifflelaw12_Great.l0, rifflelaw12_Great.j1]; rw [if_pos hlt, if_pos (by simp; omega), if_pos (by omega), if_pos hlt, if_neg hg, hw]; exact hr
    · refine ⟨decide ((L.length : Int) > 80), ?_, fun hr => ⟨by omega, fun j hjl => hj j (by omega)⟩⟩
      simp only [rifflelaw12_Great.l0, rifflelaw12_Great.j1]; rw [if_neg hlt]; simp
theorem great_any (L : List S59) : ∃ r, rifflelaw12_Great.f 1000 L = some r ∧ (r = false → L.length ≤ 80 ∧ ∀ j : Nat, j < L.length → (rd_T59 L (j : Int)).f1.size ≤ 40) :=
  great_ok L 80 1000 0 (by omega) (by omega) (by omega) (by omega) (by omega) (fun j hj => by omega)
theorem heap59 : Kd.Heap k59 := Kd.heap_iso _ (Kd.heap_pair Kd.heap_bool Kd.heap_string)
theorem same_ok (h : (WinH cat g most L).at_ W M) (A : Option Addr) (c : Nat) (hv : (HP.val Kd.string (.slice A L.length c) L).at_ W Z) (hZ : ∀ k, Z k → ¬ M k) (hl : L.length ≤ 64) (hB : ∀ y ∈ L, len y ≤ 40) :
    Calls Try.prog 34 #[.pointer (some ⟨g, 0, none⟩), .slice A L.length c] W fun e W1 => e = .returned (.bool true) ∧ Does W M Z HP.tt (WinH cat g most L) W1 := by
  have H := Aside0.mk (Cx.start (Φ := HP.val Kd.string (.slice A L.length c) L) h hv hZ)
  have ha := Aside0.mk (refAll_eq L hl hB)
  have hne : ((!L.isEmpty) == decide (0 < L.length)) = true := by cases L <;> rfl
  generalize hE : (!L.isEmpty) = b at hne
  have hal : ∀ {W : World} {M : Nat → Prop}, (WinH cat g most L).at_ W M → Calls Try.prog 41 #[.pointer (some ⟨g, 0, none⟩)] W fun e w' => e = .returned (.tuple #[.string (all cat ByteArray.empty L), .bool b]) ∧ Below W.heap.size W w' := by
    intro W M h
    rw [← hE]
    exact win_all len cat_len cat_ok cat_assoc h hl hB
  replace hal := Aside0.mk @hal
  generalize all cat ByteArray.empty L = s at *
  clear h hv hE hB
  go_enter Try.func34, Try.ntmps34
  go_wp2_with fail
  refine (H.out.cread 0 rfl (fun M hM => hal.out hM)).mono ?_
  rintro e w1 ⟨rfl, H1⟩
  replace H1 := Aside0.mk H1
  go_wp2_with fail
  refine (H1.out.cskip (fun Z hZ => Cx.toBelow (riffleref12_All.calls 1000 A c L s _ (HP.val_C hZ) (HP.val_le hZ) ha.out))).mono ?_
  rintro e w2 ⟨rfl, H2⟩
  replace H2 := Aside0.mk H2
  go_wp2_with fail
  refine (H2.out.cread 0 rfl (fun M hM => win_len hM (by omega))).mono ?_
  rintro e w3 ⟨rfl, H3⟩
  replace H3 := Aside0.mk H3
  go_wp2
  go_ret
  exact ⟨rfl, (H3.out.imp (fun Z hz => trivial)).done 0 rfl⟩

theorem step_sz {b : Bool} {x : ByteArray} (hB : ∀ y ∈ L, len y ≤ 40) (hx : len x ≤ 40) : ∀ y ∈ stepF most L b x, len y ≤ 40 := by
  unfold stepF
  intro y hy
  split at hy
  · exact hB y (List.mem_of_mem_tail hy)
  · split at hy
    · exact hB y hy
    · rcases List.mem_append.1 hy with hy | hy
      · exact hB y hy
      · rw [List.mem_singleton.1 hy]; exact hx
theorem step_len {b : Bool} {x : ByteArray} (hl : (L.length : Int) ≤ most) : ((stepF most L b x).length : Int) ≤ most := by
  unfold stepF
  split
  · rw [List.length_tail]; omega
  · split
    · exact hl
    · simp; omega
theorem plays_not (A : Option Addr) (c : Nat) (l : List S59) (h : ¬ (1 ≤ most ∧ most ≤ 64)) :
    Calls Try.prog 6 #[.int .i64 most, .slice A l.length c] W fun e w' => e = .returned (.bool true) ∧ Below W.heap.size W w' := by
  have H := Lib.hid h
  by_cases h1 : most < 1
  · clear h
    go_enter Try.func6, Try.ntmps6
    go_wp2_with fail
    refine (new_no most _ H.out).mono ?_
    rintro e w1 ⟨rfl, rfl⟩
    go_wp2_with fail
    refine lives_ok.mono ?_
    rintro e w3 ⟨rfl, hb⟩
    go_wp2
    go_ret
    exact ⟨rfl, hb⟩
  · have h2 : 64 < most := by omega
    clear h
    go_enter Try.func6, Try.ntmps6
    go_wp2_with fail
    refine (new_no most _ H.out).mono ?_
    rintro e w1 ⟨rfl, rfl⟩
    go_wp2_with fail
    refine lives_ok.mono ?_
    rintro e w3 ⟨rfl, hb⟩
    go_wp2
    go_ret
    exact ⟨rfl, hb⟩
theorem plays_great (A : Option Addr) (c : Nat) (l : List S59) (hl : l.length ≤ c) (hC : k59.C W A l.length l) (h : 1 ≤ most ∧ most ≤ 64) (hg : rifflelaw12_Great.f 1000 l = some true) :
    Calls Try.prog 6 #[.int .i64 most, .slice A l.length c] W fun e w' => e = .returned (.bool true) ∧ Below W.heap.size W w' := by
  have H0 := Aside0.mk (Cx.start0 (Φ := HP.rd k59 A l) (Kd.C_F heap59 hC))
  have h1 := h.1
  have h2 := h.2
  replace hg := Aside0.mk hg
  clear hC h
  go_enter Try.func6, Try.ntmps6
  go_wp2_with fail
  refine (H0.out.cnew (new_win most h1 h2)).mono ?_
  rintro e w1 ⟨g, rfl, H1⟩
  replace H1 := Aside0.mk H1
  go_wp2_with fail
  refine (H1.out.cskip (fun Z hZ => Cx.toBelow (rifflelaw12_Great.calls 1000 A c l true _ (HP.rd_now hZ) hl hg.out))).mono ?_
  rintro e w2 ⟨rfl, H2⟩
  replace H2 := Aside0.mk H2
  clear H0 H1
  go_wp2_with fail
  refine lives_ok.mono ?_
  rintro e wl ⟨rfl, hb⟩
  have HL := Aside0.mk (H2.out.skip hb)
  clear hb
  go_wp2
  go_ret
  exact ⟨rfl, HL.out.below⟩
theorem plays_small (A : Option Addr) (c : Nat) (l : List S59) (hl : l.length ≤ c) (hC : k59.C W A l.length l) (h : 1 ≤ most ∧ most ≤ 64) (hg : rifflelaw12_Great.f 1000 l = some false) (hs : l.length ≤ 80 ∧ ∀ j : Nat, j < l.length → (rd_T59 l (j : Int)).f1.size ≤ 40) :
    Calls Try.prog 6 #[.int .i64 most, .slice A l.length c] W fun e w' => e = .returned (.bool true) ∧ Below W.heap.size W w' := by
  have hlen := hs.1
  have hrows := Lib.hid hs.2
  clear hs
  have H0 := Aside0.mk (Cx.start0 (Φ := HP.rd k59 A l) (Kd.C_F heap59 hC))
  have h1 := h.1
  have h2 := h.2
  replace hg := Aside0.mk hg
  clear hC h
  go_enter Try.func6, Try.ntmps6
  go_wp2_with fail
  refine (H0.out.cnew (new_win most h1 h2)).mono ?_
  rintro e w1 ⟨g, rfl, H1⟩
  replace H1 := Aside0.mk H1
  go_wp2_with fail
  refine (H1.out.cskip (fun Z hZ => Cx.toBelow (rifflelaw12_Great.calls 1000 A c l false _ (HP.rd_now hZ) hl hg.out))).mono ?_
  rintro e w2 ⟨rfl, H2⟩
  replace H2 := Aside0.mk H2
  clear H0 H1
  go_wp2
  go_loopw [7, 43] (fun v i wr => ∃ (k : Nat) (L : List ByteArray) (A1 : Option Addr) (c1 : Nat), k ≤ l.length ∧ i = .int .i64 k ∧ v = .slice A1 L.length c1 ∧ (L.length : Int) ≤ most ∧ Hid (∀ y ∈ L, len y ≤ 40) ∧ Aside0 (Cx (fun _ => False) (fun k => k < W.heap.size) W wr ((HP.rd k59 A l).and (HP.val Kd.string (.slice A1 L.length c1) L)) [WinH cat g most L])) (fun _ i _ => l.length - (intOf i).toNat)
  case atStart => exact ⟨0, [], none, 0, by omega, rfl, rfl, by simp; omega, Lib.hid (by simp), ⟨H2.out.imp (fun Z hZ => ⟨hZ, HP.val_nil _ _ _⟩)⟩⟩
  case round =>
    clear H2
    obtain ⟨k, L, A1, c1, hk, rfl, rfl, hL, hB, H⟩ := hrel
    by_cases hlt : k < l.length
    · have hrow := hrows.out k hlt
      obtain ⟨Z, hZ⟩ := H.out.now
      obtain ⟨ad, rfl, d0, d1⟩ := at_T59 (HP.rd_now hZ.1) (k : Int) (by omega) (by omega)
      rw [Int.toNat_natCast] at d0 d1
      clear hZ
      generalize rd_T59 l k = x at *
      go_wp2_with fail
      refine ((H.out.junk _).cuval 0 rfl (fun M Z hM hZ hd => does_any hM _ hZ.2 hd (by omega) hB.out _ _ hrow)).mono ?_
      rintro e w4 ⟨A4, c4, rfl, H4⟩
      have hB4 := Lib.hid (step_sz (most := most) (b := x.f0) hB.out hrow)
      have hL4 := step_len (b := x.f0) (x := x.f1) hL
      generalize hS : stepF most L x.f0 x.f1 = L' at *
      replace H4 := Aside0.mk H4
      replace hS := Lib.hid hS
      clear d0 d1
      go_wp2_with fail
      refine (H4.out.cobj 0 rfl (fun M Z hM hZ hd => same_ok hM _ _ hZ.2 hd (by omega) hB4.out)).mono ?_
      rintro e w5 ⟨rfl, H5⟩
      replace H5 := Aside0.mk H5
      go_wp2
      go_roundw
      case rel => exact ⟨k + 1, L', A4, c4, by omega, by go_num, rfl, hL4, hB4, ⟨H5.out.imp (Φ' := (HP.rd k59 (some ad) l).and (HP.val Kd.string (.slice A4 L'.length c4) L')) (fun Z hZ => ⟨hZ.1.1, hZ.2⟩)⟩⟩
      case measure => simp [intOf]; omega
    · go_wp2_with fail
      refine lives_ok.mono ?_
      rintro e wl ⟨rfl, hb⟩
      have HL := Aside0.mk (H.out.skip hb)
      clear hb
      go_wp2
      go_ret
      exact ⟨rfl, HL.out.below⟩
theorem plays_walk (w : World) (most : Int) (_h1 : I64wf most) (A : Option Addr) (c : Nat) (l : List S59) (hl : l.length ≤ c) (hC : k59.C w A l.length l) (_hw : ∀ x ∈ l, True ∧ x.f1.size ≤ maxLen) :
    Calls Try.prog 6 #[.int .i64 most, .slice A l.length c] w fun e w' => e = .returned (.bool true) ∧ Below w.heap.size w w' := by
  by_cases h : 1 ≤ most ∧ most ≤ 64
  · obtain ⟨r, hr, hx⟩ := great_any l
    cases r with
    | true => exact plays_great A c l hl hC h hr
    | false => exact plays_small A c l hl hC h hr (hx rfl)
  · exact plays_not A c l h
end Go.Proofs.Ytpakcfbjjlmcaaa.TwinS
