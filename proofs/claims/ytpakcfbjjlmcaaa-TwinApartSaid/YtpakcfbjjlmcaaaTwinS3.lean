/- A window of string by what it holds, in order: Push, Drop, All, Len. No condition but that the function joins. -/
import Derived.Test.YtpakcfbjjlmcaaaTwinS2
set_option linter.unusedVariables false
set_option linter.unusedSimpArgs false
set_option maxHeartbeats 400000
namespace Go.Proofs.Ytpakcfbjjlmcaaa.TwinS
open Go.RowKit Go.RK Go.TW Go.Proofs.YtpakcfbjjlmcaaaW.PrintWords
variable {jn : ByteArray → ByteArray → ByteArray} {W : World} {M Z : Nat → Prop} {g : Nat} {most : Int} {L : List ByteArray}
/-- the window at g holds L -/
def WinH (jn : ByteArray → ByteArray → ByteArray) (g : Nat) (most : Int) (L : List ByteArray) : HP := HP.ex (fun p : List ByteArray × List ByteArray => (AggH jn g most fj p.1 p.2).and (HP.pure (L = p.1 ++ p.2)))
theorem win_of {Lf Lb : List ByteArray} {Φ : HP} {W1 : World} (h : Does W M Z Φ (AggH jn g most fj Lf Lb) W1) (hL : L = Lf ++ Lb) : Does W M Z Φ (WinH jn g most L) W1 :=
  let ⟨M1, a, b, c⟩ := h.ex; ⟨h.fr, M1, ⟨(Lf, Lb), a, hL⟩, b, c⟩
theorem win_same {Φ : HP} {W1 : World} (h : (WinH jn g most L).at_ W M) (hb : Below W.heap.size W W1) (hΦ : Φ.at_ W1 (fun k => (Z k ∨ W.heap.size ≤ k) ∧ ¬ (M k ∧ k < W.heap.size))) : Does W M Z Φ (WinH jn g most L) W1 :=
  ⟨Fr.of_below hb, fun k => M k ∧ k < W.heap.size, (WinH jn g most L).move h (fun k hk hl => ⟨hb.block k hl, hk, hl⟩), hΦ, fun k hk => .inl hk.1⟩
section
variable (sz : ByteArray → Nat) (hsz : ∀ a b, sz (jn a b) ≤ sz a + sz b) (hj : JoinOk sz jn)
theorem win_len (h : (WinH jn g most L).at_ W M) (hl : L.length ≤ 100) :
    Calls Try.prog 43 #[.pointer (some ⟨g, 0, none⟩)] W fun e w' => e = .returned (.int .i64 L.length) ∧ Below W.heap.size W w' := by
  obtain ⟨⟨Lf, Lb⟩, h, rfl⟩ := h
  simp only at h hl ⊢
  rw [List.length_append] at hl ⊢
  rw [Int.natCast_add]
  exact len_agg h (by omega) (by omega)
include hsz hj
theorem win_push (x : ByteArray) (h : (WinH jn g most L).at_ W M) (hZ : ∀ k, Z k → ¬ M k) (hl : L.length ≤ 64) (hB : ∀ y ∈ L, sz y ≤ 40) (hx : sz x ≤ 40) :
    Calls Try.prog 44 #[.pointer (some ⟨g, 0, none⟩), Value.string x] W fun e w' => e = .returned (.int .i64 (if (L.length : Int) = most then 19 else 0)) ∧ Does W M Z HP.tt (WinH jn g most (if (L.length : Int) = most then L else L ++ [x])) w' := by
  obtain ⟨⟨Lf, Lb⟩, h, hLL⟩ := h
  simp only at h hLL
  subst hLL
  rw [List.length_append] at hl ⊢
  by_cases hm : ((Lf.length + Lb.length : Nat) : Int) = most
  · rw [if_pos hm, if_pos hm]
    refine (push_full x h hZ (by omega) (by omega)).mono ?_
    rintro e w1 ⟨rfl, hd⟩
    exact ⟨rfl, win_of hd rfl⟩
  · rw [if_neg hm, if_neg hm]
    rcases Lb with _ | ⟨y, ys⟩
    · refine (push_first x [] rfl h hZ (by simp at hl; omega) (by simpa using hm)).mono ?_
      rintro e w1 ⟨rfl, hd⟩
      exact ⟨rfl, win_of hd (by simp)⟩
    · have h1 := foldL_sz sz 40 hsz y ys (hB y (by simp)) (fun z hz => hB z (by simp [hz]))
      simp only [List.length_cons] at hl hm
      refine (push_more sz hj x y ys h hZ (by omega) (by omega) (by omega)).mono ?_
      rintro e w1 ⟨rfl, hd⟩
      exact ⟨rfl, win_of hd (by simp)⟩
theorem win_drop (h : (WinH jn g most L).at_ W M) (hZ : ∀ k, Z k → ¬ M k) (hl : L.length ≤ 64) (hB : ∀ y ∈ L, sz y ≤ 40) :
    Calls Try.prog 42 #[.pointer (some ⟨g, 0, none⟩)] W fun e w' => e = .returned (.bool (!L.isEmpty)) ∧ Does W M Z HP.tt (WinH jn g most L.tail) w' := by
  obtain ⟨⟨Lf, Lb⟩, h, hLL⟩ := h
  simp only at h hLL
  subst hLL
  rw [List.length_append] at hl
  rcases Lf with _ | ⟨x, xs⟩
  · rcases Lb with _ | ⟨y, ys⟩
    · refine (drop_none h hZ).mono ?_
      rintro e w1 ⟨rfl, hd⟩
      exact ⟨rfl, win_of hd rfl⟩
    · refine (drop_turn sz hj y ys _ rfl h hZ (by omega) (fun pre a z zs he => ?_)).mono ?_
      · have h1 := foldR_sz sz 40 hsz z zs (hB z (by rw [List.nil_append, he]; simp)) (fun q hq => hB q (by rw [List.nil_append, he]; simp [hq]))
        have h2 := hB a (by rw [List.nil_append, he]; simp)
        have h3 := congrArg List.length he
        simp at h3 hl
        omega
      · rintro e w1 ⟨rfl, hd⟩
        exact ⟨rfl, win_of hd (by simp)⟩
  · refine (drop_front x xs _ rfl h hZ (by omega)).mono ?_
    rintro e w1 ⟨rfl, hd⟩
    exact ⟨rfl, win_of hd (by simp)⟩
theorem win_all (ha : ∀ a b c, jn (jn a b) c = jn a (jn b c)) (h : (WinH jn g most L).at_ W M) (hl : L.length ≤ 64) (hB : ∀ y ∈ L, sz y ≤ 40) :
    Calls Try.prog 41 #[.pointer (some ⟨g, 0, none⟩)] W fun e w' => e = .returned (.tuple #[Value.string (all jn ByteArray.empty L), .bool (!L.isEmpty)]) ∧ Below W.heap.size W w' := by
  obtain ⟨⟨Lf, Lb⟩, h, hLL⟩ := h
  simp only at h hLL
  subst hLL
  rw [List.length_append] at hl
  rcases Lf with _ | ⟨x, xs⟩
  · rcases Lb with _ | ⟨y, ys⟩
    · exact all_none h
    · exact all_back y ys _ rfl h (by omega)
  · have h2 := foldR_sz sz 40 hsz x xs (hB x (by simp)) (fun z hz => hB z (by simp [hz]))
    rcases Lb with _ | ⟨y, ys⟩
    · have := all_front x xs _ rfl h (by omega) rfl
      rw [foldR_foldL ha] at this
      simpa [all] using this
    · have h1 := foldL_sz sz 40 hsz y ys (hB y (by simp)) (fun z hz => hB z (by simp [hz]))
      simp only [List.length_cons] at hl
      have := all_both sz hj x xs _ rfl y ys h rfl (by simp; omega) (by omega)
      rw [foldR_foldL ha, ← foldL_app ha] at this
      simpa [all] using this
end
end Go.Proofs.Ytpakcfbjjlmcaaa.TwinS
