/- Held: what this claim needs of a text of ours. -/
import Derived.Test.YtmfgdgmpblkadaaZCellMakes14
import Derived.Test.YtmfgdgmpblkadaaZCellMakes13
namespace Go.Proofs.YtmfgdgmpblkadaaW.PrintWords
end Go.Proofs.YtmfgdgmpblkadaaW.PrintWords

set_option linter.unusedVariables false
set_option linter.unusedSimpArgs false
namespace Go.RK
open Go.RowKit Go.Proofs.YtmfgdgmpblkadaaW.PrintWords
def LI (W : World) (A : Option Addr) (c : Nat) (xs : List Int) : Prop := xs.length ≤ c ∧ (Kd.int .i64).C W A xs.length xs
theorem LI.at {W W2 : World} {A : Option Addr} {c : Nat} {xs : List Int} (h : LI W A c xs) (k : Below W.heap.size W W2) : LI W2 A c xs := ⟨h.1, Kd.C_below h.2 k⟩
def OI (e : Nat) (W : World) (A : Option Addr) (c : Nat) (xs : List Int) : Prop := ∃ b, (Kd.int .i64).R e W b (fun _ => True) (.slice A xs.length c) xs
theorem OI.of {e : Nat} {W : World} {b : Nat} {A : Option Addr} {c : Nat} {xs : List Int} (h : (Kd.int .i64).R e W b (fun _ => True) (.slice A xs.length c) xs) : OI e W A c xs := ⟨b, h⟩
theorem OI.li {e : Nat} {W : World} {A : Option Addr} {c : Nat} {xs : List Int} (h : OI e W A c xs) : LI W A c xs := by
  obtain ⟨b, h⟩ := h
  exact ⟨(Kd.R_reads' h).2.1, (Kd.R_reads' h).2.2⟩
theorem OI.step {e : Nat} {W W2 : World} {A : Option Addr} {c : Nat} {xs : List Int} (h : OI e W A c xs) (k : Below W.heap.size W W2) : OI e W2 A c xs := by
  obtain ⟨b, h⟩ := h
  exact ⟨b, Kd.R_below h k⟩
theorem OI.alloc {e : Nat} {W : World} {A : Option Addr} {c : Nat} {xs : List Int} (h : OI e W A c xs) (o : Obj) : OI e (W.alloc o) A c xs := h.step (below_alloc (Below.refl _ _) o)
theorem OI.set {e t g : Nat} {W : World} {A : Option Addr} {c : Nat} {xs : List Int} {cs : Array Value} (h : OI e W A c xs) (hb : W.heap[g]? = some (.cells cs t (0, 0))) (ht : e ≠ t) (j : Nat) (u : Value) : OI e (W.setCell ⟨g, j, none⟩ u) A c xs := by
  obtain ⟨b, h⟩ := h
  refine ⟨b, Kd.R_mono (Kd.R_far (p := ⟨g, j, none⟩) (Kd.R_types h hb (by intro q hq; rcases List.mem_cons.1 hq with hq | hq; (rw [hq]; exact ht); exact (List.not_mem_nil hq).elim)) (fun _ hk => hk.2) u) (fun _ _ => trivial)⟩
theorem OI.nil (e : Nat) (W : World) : OI e W none 0 [] := ⟨0, Kd.R_nil _ _ _ _ _⟩
theorem LI.nil (W : World) : LI W none 0 [] := ⟨Nat.le_refl _, Kd.C_nil _ _⟩
theorem LI.one {W : World} {g t : Nat} {n : Int} (h : W.heap[g]? = some (.cells #[.int .i64 n] t (0, 0))) : LI W (some ⟨g, 0, none⟩) 1 [n] := by
  refine ⟨Nat.le_refl _, rfl, by simp, fun _ => ⟨_, rfl, fun j p hp => ?_⟩⟩
  cases j with
  | zero =>
    simp at hp
    subst hp
    refine ⟨[.int .i64 n], rfl, rfl, fun j u hu => ?_⟩
    cases j with
    | zero =>
      simp at hu
      subst hu
      exact (blk_cell h 0).trans rfl
    | succ j => simp at hu
  | succ j => simp at hp
end Go.RK
