/- Open: what this claim needs of a text of ours. -/
import Derived.Deep.Slices
import Derived.OpenShut
import Derived.Test.YtmfgdgmpblkadaaZCellMakes14
namespace Go.Proofs.YtmfgdgmpblkadaaW.PrintWords
end Go.Proofs.YtmfgdgmpblkadaaW.PrintWords

set_option linter.unusedVariables false
set_option linter.unusedSimpArgs false
namespace Go.RK
open Go.RowKit Go.Proofs.YtmfgdgmpblkadaaW.PrintWords
def Opens {H : Type} (enc : TypeId × Value → H) (P : Program) (w : World) (t : TypeId) {α : Type} (d : Kd α) (Wf : α → Prop) : Prop :=
  ∀ fuel cs x, DataW.trod enc P w 0 (fun _ => true) true fuel t cs = some x → ∃ a : α, d.K w a cs ∧ Wf a
def I64wf (n : Int) : Prop := -9223372036854775808 ≤ n ∧ n ≤ 9223372036854775807
section
variable {H : Type} {enc : TypeId × Value → H} {P : Program} {w : World} {t : TypeId} {α β γ δ : Type}
theorem opens_int {k : IntKind} (ht : P.underlying t = some (.int k)) : Opens enc P w t (Kd.int k) (fun n => (Lit.int k n).wf = true) := by
  intro fuel cs x h
  obtain ⟨n, rfl, _, hw⟩ := DataW.trod_int ht h
  exact ⟨n, rfl, hw⟩
theorem opens_i64 (ht : P.underlying t = some (.int .i64)) : Opens enc P w t (Kd.int .i64) I64wf := by
  intro fuel cs x h
  obtain ⟨n, hk, hw⟩ := opens_int ht fuel cs x h
  exact ⟨n, hk, bounds_i64 hw⟩
theorem opens_slice {e : TypeId} {d : Kd α} {Wf : α → Prop} (ht : P.underlying t = some (.slice e)) (hc : P.cellsOf e = d.sz) (hd : Opens enc P w e d Wf) : Opens enc P w t (Kd.slice e d) (fun xs => ∀ x ∈ xs, Wf x) := by
  classical
  intro fuel cs x h
  rcases Go.Deep.open_slice ht h with ⟨rfl, _⟩ | ⟨a, len, cap, m, n, D, Pl, rfl, _, hl, hm, hmc, _, hel⟩
  · exact ⟨[], ⟨none, 0, rfl, Nat.le_refl _, rfl, by simp, fun h => absurd h (Nat.lt_irrefl 0)⟩, by simp⟩
  · have hmc : m = cap := by simpa using hmc
    have hx : ∀ i, i < len → ∃ p : α, Wf p ∧ ∃ c, c.length = d.sz ∧ d.K w p c ∧ ∀ j u, c[j]? = some u → w.cell? (a.add (i * d.sz + j)) = some u := by
      intro i hi
      obtain ⟨cs', h1, h2⟩ := hel i (by omega)
      obtain ⟨p, hk, hw⟩ := hd n cs' _ h2
      obtain ⟨_, hlen, hcell⟩ := World.cells?_some h1
      refine ⟨p, hw, cs', by rw [hlen, hc], hk, fun j u hu => ?_⟩
      have hj : j < P.cellsOf e := by rw [← hlen]; exact (List.getElem?_eq_some_iff.1 hu).1
      have := hcell j hj
      rw [hu, Go.Deep.add_add, hc] at this
      exact this
    let xs : List α := List.ofFn (fun i : Fin len => Classical.choose (hx i.1 i.2))
    have hxs : xs.length = len ∧ ∀ i (hi : i < len), xs[i]? = some (Classical.choose (hx i hi)) := by
      refine ⟨by simp [xs], fun i hi => ?_⟩
      simp [xs, hi]
    have hb : len ≤ 9223372036854775807 := by simp only [maxLen] at hm; omega
    refine ⟨xs, ⟨some a, cap, by rw [hxs.1], by rw [hxs.1]; exact hl, rfl, by rw [hxs.1]; exact hb, fun _ => ⟨a, rfl, fun j p hp => ?_⟩⟩, fun x hx' => ?_⟩
    · have hj : j < len := by rw [← hxs.1]; exact (List.getElem?_eq_some_iff.1 hp).1
      rw [hxs.2 j hj] at hp
      injection hp with hp
      subst hp
      exact (Classical.choose_spec (hx j hj)).2
    · obtain ⟨j, hj, rfl⟩ := List.getElem_of_mem hx'
      have hj' : j < len := by rw [← hxs.1]; exact hj
      have := hxs.2 j hj'
      rw [List.getElem?_eq_getElem hj] at this
      injection this with this
      rw [this]
      exact (Classical.choose_spec (hx j hj')).1
end
theorem slice_K {w : World} {e : TypeId} {α : Type} {d : Kd α} {xs : List α} {a : Option Addr} {l c : Nat} (h : (Kd.slice e d).K w xs (Value.slice a l c).cells.toList) : l = xs.length ∧ xs.length ≤ c ∧ d.C w a xs.length xs := by
  obtain ⟨A, c', he, hl, hC⟩ := h
  simp [Value.cells] at he
  obtain ⟨rfl, rfl, rfl⟩ := he
  exact ⟨rfl, hl, hC⟩
end Go.RK
