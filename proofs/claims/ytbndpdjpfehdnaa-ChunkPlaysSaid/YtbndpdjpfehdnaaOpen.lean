/- What comes in as data reads as a kind says: integers, bools, strings, slices, structs and arrays of these. No condition. -/
import Derived.Deep.Slices
import Derived.OpenShut
import Derived.Test.YtbndpdjpfehdnaaKit
set_option linter.unusedVariables false
set_option linter.unusedSimpArgs false
namespace Go.RK
open Go.RowKit Go.Proofs.YtbndpdjpfehdnaaW.PrintWords

/-- Whatever is read of type t is a value of the kind d, and Wf holds of it. -/
def Opens {H : Type} (enc : TypeId × Value → H) (P : Program) (w : World) (t : TypeId) {α : Type} (d : Kd α) (Wf : α → Prop) : Prop :=
  ∀ fuel cs x, DataW.trod enc P w 0 (fun _ => true) true fuel t cs = some x → ∃ a : α, d.K w a cs ∧ Wf a

def I64wf (n : Int) : Prop := -9223372036854775808 ≤ n ∧ n ≤ 9223372036854775807

section
variable {H : Type} {enc : TypeId × Value → H} {P : Program} {w : World} {t : TypeId} {α β γ δ : Type}

theorem opens_int {k : IntKind} (ht : P.underlying t = some (.int k)) : Opens enc P w t (Kd.int k) (fun n => (Lit.int k n).wf = true) := by
  intro fuel cs x h
  obtain ⟨n, rfl, _, hw⟩ := DataW.trod_int ht h
  exact ⟨n, rfl, hw⟩
theorem opens_i64 (ht : P.underlying t = some (.int .i64)) : Opens enc P w t (Kd.int .i64) I64wf := by
  intro fuel cs x h
  obtain ⟨n, hk, hw⟩ := opens_int ht fuel cs x h
  exact ⟨n, hk, bounds_i64 hw⟩
theorem opens_bool (ht : P.underlying t = some .bool) : Opens enc P w t Kd.bool (fun _ => True) := by
  intro fuel cs x h
  obtain ⟨n, rfl, _⟩ := DataW.trod_bool ht h
  exact ⟨n, rfl, trivial⟩
theorem opens_string (ht : P.underlying t = some .string) : Opens enc P w t Kd.string (fun s => s.size ≤ maxLen) := by
  intro fuel cs x h
  obtain ⟨n, rfl, _, hs⟩ := DataW.trod_string ht h
  exact ⟨n, rfl, hs⟩
theorem opens_slice {e : TypeId} {d : Kd α} {Wf : α → Prop} (ht : P.underlying t = some (.slice e)) (hc : P.cellsOf e = d.sz) (hd : Opens enc P w e d Wf) : Opens enc P w t (Kd.slice e d) (fun xs => ∀ x ∈ xs, Wf x) := by
  classical
  intro fuel cs x h
  rcases Go.Deep.open_slice ht h with ⟨rfl, _⟩ | ⟨a, len, cap, m, n, D, Pl, rfl, _, hl, hm, hmc, _, hel⟩
  · exact ⟨[], ⟨none, 0, rfl, Nat.le_refl _, rfl, by simp, fun h => absurd h (Nat.lt_irrefl 0)⟩, by simp⟩
  · have hmc : m = cap := by simpa using hmc
    have hx : ∀ i, i < len → ∃ p : α, Wf p ∧ ∃ c, c.length = d.sz ∧ d.K w p c ∧ ∀ j u, c[j]? = some u → w.cell? (a.add (i * d.sz + j)) = some u := by
      intro i hi
      obtain ⟨cs', h1, h2⟩ := hel i (by omega)
      obtain ⟨p, hk, hw⟩ := hd n cs' _ h2
      obtain ⟨_, hlen, hcell⟩ := World.cells?_some h1
      refine ⟨p, hw, cs', by rw [hlen, hc], hk, fun j u hu => ?_⟩
      have hj : j < P.cellsOf e := by rw [← hlen]; exact (List.getElem?_eq_some_iff.1 hu).1
      have := hcell j hj
      rw [hu, Go.Deep.add_add, hc] at this
      exact this
    let xs : List α := List.ofFn (fun i : Fin len => Classical.choose (hx i.1 i.2))
    have hxs : xs.length = len ∧ ∀ i (hi : i < len), xs[i]? = some (Classical.choose (hx i hi)) := by
      refine ⟨by simp [xs], fun i hi => ?_⟩
      simp [xs, hi]
    have hb : len ≤ 9223372036854775807 := by simp only [maxLen] at hm; omega
    refine ⟨xs, ⟨some a, cap, by rw [hxs.1], by rw [hxs.1]; exact hl, rfl, by rw [hxs.1]; exact hb, fun _ => ⟨a, rfl, fun j p hp => ?_⟩⟩, fun x hx' => ?_⟩
    · have hj : j < len := by rw [← hxs.1]; exact (List.getElem?_eq_some_iff.1 hp).1
      rw [hxs.2 j hj] at hp
      injection hp with hp
      subst hp
      exact (Classical.choose_spec (hx j hj)).2
    · obtain ⟨j, hj, rfl⟩ := List.getElem_of_mem hx'
      have hj' : j < len := by rw [← hxs.1]; exact hj
      have := hxs.2 j hj'
      rw [List.getElem?_eq_getElem hj] at this
      injection this with this
      rw [this]
      exact (Classical.choose_spec (hx j hj')).1
theorem opens_imp {d : Kd α} {Wf Wf' : α → Prop} (h : Opens enc P w t d Wf) (hi : ∀ a, Wf a → Wf' a) : Opens enc P w t d Wf' := fun fuel cs x hx => by
  obtain ⟨a, h1, h2⟩ := h fuel cs x hx
  exact ⟨a, h1, hi a h2⟩
theorem opens_iso {d : Kd α} {Wf : α → Prop} (h : Opens enc P w t d Wf) (f : β → α) (g : α → β) (hg : ∀ a, f (g a) = a) : Opens enc P w t (Kd.iso d f) (fun b => Wf (f b)) := fun fuel cs x hx => by
  obtain ⟨a, h1, h2⟩ := h fuel cs x hx
  exact ⟨g a, (by show d.K w (f (g a)) cs; rw [hg]; exact h1), (by show Wf (f (g a)); rw [hg]; exact h2)⟩
theorem opens_struct1 {f0 : Field} {d0 : Kd α} {W0 : α → Prop} (ht : P.underlying t = some (.struct #[f0])) (q0 : f0.offset = 0) (c0 : P.cellsOf f0.type = d0.sz) (c : P.cellsOf t = d0.sz)
    (o0 : Opens enc P w f0.type d0 W0) : Opens enc P w t d0 W0 := by
  intro fuel cs x h
  obtain ⟨xs, n, rfl, _, hl, hn, hf⟩ := DataW.trod_struct ht h
  have e0 := hf 0 f0 rfl
  rw [q0, c0, List.drop_zero, List.getElem?_eq_getElem (by rw [hn]; simp), List.take_of_length_le (by omega)] at e0
  exact o0 _ _ _ e0
theorem opens_struct2 {f0 f1 : Field} {d0 : Kd α} {d1 : Kd β} {W0 : α → Prop} {W1 : β → Prop} (ht : P.underlying t = some (.struct #[f0, f1])) (q0 : f0.offset = 0) (q1 : f1.offset = d0.sz) (c0 : P.cellsOf f0.type = d0.sz) (c1 : P.cellsOf f1.type = d1.sz) (c : P.cellsOf t = d0.sz + d1.sz)
    (o0 : Opens enc P w f0.type d0 W0) (o1 : Opens enc P w f1.type d1 W1) : Opens enc P w t (Kd.pair d0 d1) (fun x => W0 x.1 ∧ W1 x.2) := by
  intro fuel cs x h
  obtain ⟨xs, n, rfl, _, hl, hn, hf⟩ := DataW.trod_struct ht h
  have e0 := hf 0 f0 rfl
  have e1 := hf 1 f1 rfl
  rw [q0, c0, List.drop_zero, List.getElem?_eq_getElem (by rw [hn]; simp)] at e0
  rw [q1, c1, List.getElem?_eq_getElem (by rw [hn]; simp)] at e1
  obtain ⟨a, ha, wa⟩ := o0 _ _ _ e0
  obtain ⟨b, hb, wb⟩ := o1 _ _ _ e1
  refine ⟨(a, b), ⟨_, _, ?_, ha, hb⟩, wa, wb⟩
  rw [List.take_of_length_le (l := cs.drop d0.sz) (by simp; omega), List.take_append_drop]
theorem opens_struct3 {f0 f1 f2 : Field} {d0 : Kd α} {d1 : Kd β} {d2 : Kd γ} {W0 : α → Prop} {W1 : β → Prop} {W2 : γ → Prop} (ht : P.underlying t = some (.struct #[f0, f1, f2])) (q0 : f0.offset = 0) (q1 : f1.offset = d0.sz) (q2 : f2.offset = d0.sz + d1.sz)
    (c0 : P.cellsOf f0.type = d0.sz) (c1 : P.cellsOf f1.type = d1.sz) (c2 : P.cellsOf f2.type = d2.sz) (c : P.cellsOf t = d0.sz + d1.sz + d2.sz)
    (o0 : Opens enc P w f0.type d0 W0) (o1 : Opens enc P w f1.type d1 W1) (o2 : Opens enc P w f2.type d2 W2) : Opens enc P w t (Kd.pair d0 (Kd.pair d1 d2)) (fun x => W0 x.1 ∧ W1 x.2.1 ∧ W2 x.2.2) := by
  intro fuel cs x h
  obtain ⟨xs, n, rfl, _, hl, hn, hf⟩ := DataW.trod_struct ht h
  have e0 := hf 0 f0 rfl
  have e1 := hf 1 f1 rfl
  have e2 := hf 2 f2 rfl
  rw [q0, c0, List.drop_zero, List.getElem?_eq_getElem (by rw [hn]; simp)] at e0
  rw [q1, c1, List.getElem?_eq_getElem (by rw [hn]; simp)] at e1
  rw [q2, c2, List.getElem?_eq_getElem (by rw [hn]; simp)] at e2
  obtain ⟨a, ha, wa⟩ := o0 _ _ _ e0
  obtain ⟨b, hb, wb⟩ := o1 _ _ _ e1
  obtain ⟨g, hg, wg⟩ := o2 _ _ _ e2
  refine ⟨(a, b, g), ⟨_, _, ?_, ha, _, _, rfl, hb, hg⟩, wa, wb, wg⟩
  rw [List.take_of_length_le (l := cs.drop (d0.sz + d1.sz)) (by simp; omega), ← List.drop_drop, List.take_append_drop, List.take_append_drop]
end

/-- a slice that was opened -/
theorem slice_K {w : World} {e : TypeId} {α : Type} {d : Kd α} {xs : List α} {a : Option Addr} {l c : Nat} (h : (Kd.slice e d).K w xs (Value.slice a l c).cells.toList) : l = xs.length ∧ xs.length ≤ c ∧ d.C w a xs.length xs := by
  obtain ⟨A, c', he, hl, hC⟩ := h
  simp [Value.cells] at he
  obtain ⟨rfl, rfl, rfl⟩ := he
  exact ⟨rfl, hl, hC⟩
theorem int_K {w : World} {k : IntKind} {n a : Int} (h : (Kd.int k).K w n (Value.int k a).cells.toList) : a = n := by
  have h : (Value.int k a).cells.toList = [Value.int k n] := h
  simpa [Value.cells] using h
theorem bool_K {w : World} {n a : Bool} (h : Kd.bool.K w n (Value.bool a).cells.toList) : a = n := by
  have h : (Value.bool a).cells.toList = [Value.bool n] := h
  simpa [Value.cells] using h
theorem string_K {w : World} {n a : ByteArray} (h : Kd.string.K w n (Value.string a).cells.toList) : a = n := by
  have h : (Value.string a).cells.toList = [Value.string n] := h
  simpa [Value.cells] using h
theorem C_ints {w : World} {k : IntKind} {A : Option Addr} {n : Nat} {xs : List Int} (h : (Kd.int k).C w A n xs) : ReadsInt w k A n xs := Kd.reads_of_C (enc := Value.int k) (d := (0 : Int)) (h1 := fun _ => rfl) h

end Go.RK
