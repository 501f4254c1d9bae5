/- PureKinds: what this claim needs of a text of ours. -/
import Derived.Test.YtmfgdgmpblkadaaZFoldRows23
import Derived.Test.YtmfgdgmpblkadaaZFoldRows25
import Derived.Test.YtmfgdgmpblkadaaZFoldRows11
import Derived.Test.YtmfgdgmpblkadaaZFoldRows13
import Derived.Test.YtmfgdgmpblkadaaZFoldRows14
import Derived.Test.YtmfgdgmpblkadaaZFoldRows15
import Derived.Test.YtmfgdgmpblkadaaZFoldRows20
import Derived.Test.YtmfgdgmpblkadaaZFoldRows21
import Derived.Test.YtmfgdgmpblkadaaZFoldRows22
namespace Go.RS
end Go.RS
namespace Go.RL
end Go.RL
namespace Go.RP
end Go.RP
namespace Go.Proofs.Ytmfgdgmpblkadaa.PAll
end Go.Proofs.Ytmfgdgmpblkadaa.PAll
namespace Go.Proofs.YtmfgdgmpblkadaaW.PrintWords
end Go.Proofs.YtmfgdgmpblkadaaW.PrintWords
namespace Go.Proofs.YtmfgdgmpblkadaaW.PrintLast
end Go.Proofs.YtmfgdgmpblkadaaW.PrintLast

set_option linter.unusedVariables false
set_option linter.unusedSimpArgs false
namespace Go.Proofs.Ytmfgdgmpblkadaa.Pure
open Go.RowKit Go.RS Go.RL Go.RP Go.Proofs.Ytmfgdgmpblkadaa.PAll Go.Proofs.YtmfgdgmpblkadaaW.PrintWords Go.Proofs.YtmfgdgmpblkadaaW.PrintLast
theorem refUnit_eq (c : Int) : riffleref04_Unit.f c = scalar_Unit.f c := by
  unfold riffleref04_Unit.f scalar_Unit.f
  by_cases h1 : c < 1
  · rw [if_pos h1, if_neg (by omega)]
  · rw [if_neg h1]
    by_cases h2 : c > 16
    · rw [if_pos h2, if_neg (by omega)]
    · rw [if_neg h2, if_pos (by omega)]
      simp only [Option.bind_some]
      rw [if_pos (by omega), if_pos (by simp; omega)]
      rfl
theorem wrap_In (x : Int) : In64 (wrap64 x) := wrap_bd x
theorem twoF_in (c a b : Int) (ha : In64 a) (hb : In64 b) : In64 (twoF c a b) := by
  have h01 : ∀ x : Bool, In64 (bI x) := by intro x; cases x <;> simp [bI, In64]
  have h0 : In64 0 := by simp [In64]
  have h1 : In64 1 := by simp [In64]
  have hm : In64 (-1) := by simp [In64]
  have hbits : ∀ o, In64 (Go.bits o .i64 a b) := by
    intro o
    unfold Go.bits
    split <;> (simp only [i64_w]; exact wrap_In _)
  have hover : ∀ a b, In64 (overF a b) := by
    intro a b; unfold overF
    repeat' split
    all_goals first | exact h0 | exact wrap_In _
  have hrest : In64 (restF a b) := by
    unfold restF
    split
    · exact hb
    · exact wrap_In _
  have hpow : In64 (powF a b) := by
    unfold powF
    repeat' split
    all_goals first | exact h0 | exact h1 | exact hm | exact wrap_In _
  have hmx : In64 (mx a b) := by unfold mx; split <;> assumption
  have hmn : In64 (mn a b) := by unfold mn; split <;> assumption
  have ite_in : ∀ (p : Prop) [Decidable p] (x y : Int), In64 x → In64 y → In64 (if p then x else y) := by
    intro p _ x y hx hy; split <;> assumption
  have hb1 := hbits .and
  have hb2 := hbits .or
  unfold twoF
  generalize Go.bits .and .i64 a b = z1 at *
  generalize Go.bits .or .i64 a b = z2 at *
  clear hbits
  repeat' (apply ite_in)
  all_goals first | exact wrap_In _ | exact hover _ _ | assumption | exact h01 _
def doF (c : Int) (s : Bool) (a b : Int) : Int := if s then twoF c b a else twoF c a b
theorem doF_in (c : Int) (s : Bool) (a b : Int) (ha : In64 a) (hb : In64 b) : In64 (doF c s a b) := by
  unfold doF; split
  · exact twoF_in c b a hb ha
  · exact twoF_in c a b ha hb
def foldF (c : Int) (s : Bool) : List Int → Int
  | [] => 0
  | [a] => a
  | a :: t => doF c s a (foldF c s t)
theorem foldF_cons (c : Int) (s : Bool) (a : Int) (t : List Int) (h : t ≠ []) : foldF c s (a :: t) = doF c s a (foldF c s t) := by
  cases t with
  | nil => exact absurd rfl h
  | cons b t => rfl
theorem foldF_in (c : Int) (s : Bool) (l : List Int) (h : ∀ x ∈ l, In64 x) : In64 (foldF c s l) := by
  induction l with
  | nil => simp [foldF, In64]
  | cons a t ih =>
    by_cases ht : t = []
    · subst ht; exact h a (by simp)
    · rw [foldF_cons c s a t ht]
      exact doF_in c s _ _ (h a (by simp)) (ih (fun x hx => h x (by simp [hx])))
def rowF (c : Int) (s : Bool) (l : List Int) : Int × Bool :=
  if hasF c 2 then (if l = [] then (if 1 ≤ c ∧ c ≤ 16 then (unitsL.getD c.toNat 0, true) else (0, false)) else (foldF c s l, true)) else (0, false)
theorem drop_at {l : List Int} {n : Nat} (h : n < l.length) : l.drop n = rd l (n : Int) :: l.drop (n + 1) := by
  rw [rd_get h]; exact List.drop_eq_getElem_cons h
theorem rd_in {l : List Int} {n : Nat} (hl : ∀ x ∈ l, In64 x) (h : n < l.length) : In64 (rd l (n : Int)) := by
  rw [rd_get h]; exact hl _ (List.getElem_mem h)
theorem drop_in {l : List Int} {n : Nat} (hl : ∀ x ∈ l, In64 x) : ∀ x ∈ l.drop n, In64 x := fun x hx => hl x (List.mem_of_mem_drop hx)
theorem do_eq' (c : Int) (s : Bool) (a b : Int) (ha : In64 a) (hb : In64 b) (hh : hasF c 2 = true) (k : Nat) (hk : 64 < k) : scalar_Do.f k c s a b = some (doF c s a b, true) := by
  rw [do_eq c s a b ha hb k hk, if_pos hh]; rfl
theorem refDo_eq' (c : Int) (s : Bool) (a b : Int) (ha : In64 a) (hb : In64 b) (hh : hasF c 2 = true) (k : Nat) (hk : 301 < k) : riffleref04_Do.f k c s a b = some (doF c s a b, true) := by
  rw [refDo_eq c s a b ha hb k hk, if_pos hh]; rfl
theorem fold_loop (c : Int) (s : Bool) (hh : hasF c 2 = true) (l : List Int) (hl : ∀ x ∈ l, In64 x) (hm : l.length ≤ 140737488351232) : ∀ (n k : Nat), n < l.length → n + 66 < k →
    fold_Row.l0 k l (foldF c s (l.drop n)) ((n : Int) - 1) c s = some (foldF c s l, true) := by
  intro n
  induction n with
  | zero =>
    intro k hn hk
    obtain ⟨k, rfl⟩ := succ_of (show 0 < k by omega)
    simp only [fold_Row.l0]
    rw [if_neg (by omega), List.drop_zero]
  | succ n ih =>
    intro k hn hk
    obtain ⟨k, rfl⟩ := succ_of (show 0 < k by omega)
    simp only [fold_Row.l0]
    have e : ((n + 1 : Nat) : Int) - 1 = (n : Int) := by omega
    rw [e, if_pos (by omega), if_pos (by omega), if_pos (by omega), do_eq' c s _ _ (rd_in hl (by omega)) (foldF_in c s _ (drop_in hl)) hh k (by omega)]
    simp only [Option.bind_some]
    have e2 : doF c s (rd l (n : Int)) (foldF c s (l.drop (n + 1))) = foldF c s (l.drop n) := by
      rw [drop_at (show n < l.length by omega), foldF_cons]
      intro h0
      have := congrArg List.length h0
      simp at this; omega
    rw [e2, w64 (by omega)]
    exact ih k (by omega) (by omega)
theorem fold_row (c : Int) (s : Bool) (l : List Int) (hl : ∀ x ∈ l, In64 x) (hm : l.length ≤ 140737488351232) (k : Nat) (hk : l.length + 66 < k) : fold_Row.f k c s l = some (rowF c s l) := by
  unfold fold_Row.f rowF
  rw [has_eq]
  simp only [Option.bind_some]
  by_cases hh : hasF c 2 = true
  · rw [if_pos hh, if_pos hh]
    by_cases h0 : l = []
    · subst h0
      simp [scalar_Unit.f]
    · have hp : 0 < l.length := List.length_pos_iff.2 h0
      rw [if_neg (by omega), if_neg h0, w64 (by omega), w64 (by omega), if_pos (by omega), if_pos (by omega)]
      have e : ((l.length : Int) - 1) = ((l.length - 1 : Nat) : Int) := by omega
      have e2 : ((l.length : Int) - 2) = ((l.length - 1 : Nat) : Int) - 1 := by omega
      have e3 : l.drop (l.length - 1) = [rd l ((l.length - 1 : Nat) : Int)] := by
        rw [drop_at (show l.length - 1 < l.length by omega), List.drop_of_length_le (by omega)]
      have e4 : rd l ((l.length - 1 : Nat) : Int) = foldF c s (l.drop (l.length - 1)) := by rw [e3]; rfl
      rw [e, e2, e4]
      exact fold_loop c s hh l hl hm _ k (by omega) (by omega)
  · rw [if_neg hh, if_neg hh]
theorem ref_row (c : Int) (s : Bool) (l : List Int) (hl : ∀ x ∈ l, In64 x) (hm : l.length ≤ 140737488351232) : ∀ (k : Nat), l.length + 303 < k → riffleref08_Row.f k c s l = some (rowF c s l) := by
  induction l with
  | nil =>
    intro k hk
    obtain ⟨k, rfl⟩ := succ_of (show 0 < k by omega)
    simp only [riffleref08_Row.f]
    rw [refHas_eq, refUnit_eq]
    unfold rowF
    by_cases hh : hasF c 2 = true <;> simp [hh, scalar_Unit.f]
  | cons a t ih =>
    intro k hk
    obtain ⟨k, rfl⟩ := succ_of (show 0 < k by omega)
    simp only [riffleref08_Row.f]
    rw [refHas_eq]
    unfold rowF
    simp only [Option.bind_some, List.length_cons] at hk hm ⊢
    by_cases hh : hasF c 2 = true
    · rw [if_pos hh, if_pos hh, if_neg (show ¬ (a :: t) = [] by simp), if_neg (show ¬ ((t.length + 1 : Nat) : Int) = 0 by omega)]
      have hr : rd (a :: t) 0 = a := rfl
      by_cases ht : t = []
      · subst ht
        rw [if_pos (by simp), if_pos (by simp), hr]; rfl
      · have hp : 0 < t.length := List.length_pos_iff.2 ht
        rw [if_neg (by omega), if_pos (by omega), show (a :: t).drop 1 = t from rfl, ih (fun x hx => hl x (by simp [hx])) (by omega) k (by omega)]
        simp only [Option.bind_some, rowF]
        rw [if_pos hh, if_neg ht, if_pos (by omega), hr]
        simp only
        rw [refDo_eq' c s _ _ (hl a (by simp)) (foldF_in c s t (fun x hx => hl x (by simp [hx]))) hh k (by omega), foldF_cons c s a t ht]
        rfl
    · rw [if_neg hh, if_neg hh]
theorem lives08 : rifflelaw08_lives.f 1000 = some true := by
  unfold rifflelaw08_lives.f
  rw [fold_row 2 false [1, 2, 3] (by simp [In64]) (by simp) 1000 (by simp)]
  decide +kernel
theorem foldRows_all (c : Int) (s : Bool) (l : List Int) (hl : ∀ x ∈ l, In64 x) : rifflelaw08_FoldRows.f 1000 c s l = some true := by
  unfold rifflelaw08_FoldRows.f
  by_cases h : (l.length : Int) > 200
  · rw [if_pos h, lives08]; rfl
  · rw [if_neg h, fold_row c s l hl (by omega) 1000 (by omega), ref_row c s l hl (by omega) 1000 (by omega)]
    simp [lives08]
end Go.Proofs.Ytmfgdgmpblkadaa.Pure
