/- Arrays of two and of three read as their elements' kind says. No condition. -/
import Derived.Test.YtbndpdjpfehdnaaOpen
import Derived.WideShapes
set_option linter.unusedVariables false
set_option linter.unusedSimpArgs false
namespace Go.RK
open Go.RowKit Go.Proofs.YtbndpdjpfehdnaaW.PrintWords
section
variable {H : Type} {enc : TypeId × Value → H} {P : Program} {w : World} {t : TypeId} {α : Type}
theorem okWide_array {r : Reach} {base : Nat} {v : Value} {n : Nat} {e : TypeId} (ht : P.underlying t = some (.array n e)) (h : Value.okWide P w r base t v) : ∃ cs, v = .agg cs ∧ cs.size = P.cellsOf t := by
  simp only [Value.okWide, ht] at h
  obtain ⟨cs, h1, h2, _⟩ := h
  exact ⟨cs, h1, h2⟩
theorem opens_array2 {e : TypeId} {d : Kd α} {W : α → Prop} (ht : P.underlying t = some (.array 2 e)) (hc : P.cellsOf e = d.sz) (c : P.cellsOf t = d.sz + d.sz) (o : Opens enc P w e d W) :
    Opens enc P w t (Kd.pair d d) (fun x => W x.1 ∧ W x.2) := by
  intro fuel cs x h
  obtain ⟨xs, m, rfl, rfl, hl, hn, hf⟩ := DataW.trod_array ht h
  have e0 := hf 0 (by omega)
  have e1 := hf 1 (by omega)
  rw [hc, Nat.zero_mul, List.drop_zero, List.getElem?_eq_getElem (by omega)] at e0
  rw [hc, Nat.one_mul, List.getElem?_eq_getElem (by omega)] at e1
  obtain ⟨a, ha, wa⟩ := o _ _ _ e0
  obtain ⟨b, hb, wb⟩ := o _ _ _ e1
  refine ⟨(a, b), ⟨_, _, ?_, ha, hb⟩, wa, wb⟩
  rw [List.take_of_length_le (l := cs.drop d.sz) (by simp; omega), List.take_append_drop]
theorem opens_array3 {e : TypeId} {d : Kd α} {W : α → Prop} (ht : P.underlying t = some (.array 3 e)) (hc : P.cellsOf e = d.sz) (c : P.cellsOf t = d.sz + d.sz + d.sz) (o : Opens enc P w e d W) :
    Opens enc P w t (Kd.pair d (Kd.pair d d)) (fun x => W x.1 ∧ W x.2.1 ∧ W x.2.2) := by
  intro fuel cs x h
  obtain ⟨xs, m, rfl, rfl, hl, hn, hf⟩ := DataW.trod_array ht h
  have e0 := hf 0 (by omega)
  have e1 := hf 1 (by omega)
  have e2 := hf 2 (by omega)
  rw [hc, Nat.zero_mul, List.drop_zero, List.getElem?_eq_getElem (by omega)] at e0
  rw [hc, Nat.one_mul, List.getElem?_eq_getElem (by omega)] at e1
  rw [hc, List.getElem?_eq_getElem (by omega)] at e2
  obtain ⟨a, ha, wa⟩ := o _ _ _ e0
  obtain ⟨b, hb, wb⟩ := o _ _ _ e1
  obtain ⟨g, hg, wg⟩ := o _ _ _ e2
  refine ⟨(a, b, g), ⟨_, _, ?_, ha, _, _, rfl, hb, hg⟩, wa, wb, wg⟩
  rw [List.take_of_length_le (l := cs.drop (2 * d.sz)) (by simp; omega), show 2 * d.sz = d.sz + d.sz by omega, ← List.drop_drop, List.take_append_drop, List.take_append_drop]
end
end Go.RK
