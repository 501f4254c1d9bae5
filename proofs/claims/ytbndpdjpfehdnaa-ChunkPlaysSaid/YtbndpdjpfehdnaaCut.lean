/- Pieces of a row that is read: the cut as an equation on the run, and what the piece reads as. No condition but the bounds. -/
import Derived.Test.YtbndpdjpfehdnaaSep
import Derived.Laws.Slices
set_option linter.unusedVariables false
set_option linter.unusedSimpArgs false
namespace Go.RK
open Go.RowKit Go.Proofs.YtbndpdjpfehdnaaW.PrintWords
variable {P : Program} {α : Type} {d : Kd α}
theorem elem_of {t e : TypeId} (ht : P.underlying t = some (.slice e)) : P.elem t = e := by simp [Program.elem, ht]
theorem cut_drop (t e : TypeId) {i : TypeInfo} (ht : P.underlying t = some (.slice e)) (hi : P.info? e = some i) (hsz : i.size = d.sz) (A : Option Addr) (c : Nat) (xs : List α) (lo : Int) (h0 : 0 ≤ lo) (h1 : lo ≤ xs.length) (hc : xs.length ≤ c) :
    ∃ A', (∀ W : World, (Instr.slice t (.slice A xs.length c) (some (.int .i64 lo)) none none).run P W = .ok (.slice A' (xs.drop lo.toNat).length (c - lo.toNat)) W) ∧ ∀ (W : World) (M : Nat → Prop), (HP.val d (.slice A xs.length c) xs).at_ W M → (HP.val d (.slice A' (xs.drop lo.toNat).length (c - lo.toNat)) (xs.drop lo.toNat)).at_ W M := by
  have hu : P.underlying t = some (.slice (P.elem t)) := by rw [elem_of ht]; exact ht
  refine ⟨if c = lo.toNat then A else A.map (·.add (lo.toNat * d.sz)), fun W => ?_, fun W M h => ?_⟩
  · rw [run_slice_l W t A xs.length c hu .i64 lo h0 (by omega), elem_of ht]
    simp [sizeOf, typeInfo, hi, hsz, sliced, Result.andThen]
  · refine ⟨_, _, rfl, by rw [List.length_drop]; omega, Kd.F_cut (Kd.V_at (e := 0) (base := 0) h).2.2 (by omega) hc⟩
theorem cut_take (t e : TypeId) {i : TypeInfo} (ht : P.underlying t = some (.slice e)) (hi : P.info? e = some i) (A : Option Addr) (c : Nat) (xs : List α) (hi' : Int) (h0 : 0 ≤ hi') (h1 : hi' ≤ xs.length) (hc : xs.length ≤ c) :
    (∀ W : World, (Instr.slice t (.slice A xs.length c) none (some (.int .i64 hi')) none).run P W = .ok (.slice A (xs.take hi'.toNat).length c) W) ∧ ∀ (W : World) (M : Nat → Prop), (HP.val d (.slice A xs.length c) xs).at_ W M → (HP.val d (.slice A (xs.take hi'.toNat).length c) (xs.take hi'.toNat)).at_ W M := by
  have hu : P.underlying t = some (.slice (P.elem t)) := by rw [elem_of ht]; exact ht
  have hl : (xs.take hi'.toNat).length = hi'.toNat := by rw [List.length_take]; omega
  refine ⟨fun W => ?_, fun W M h => ?_⟩
  · rw [run_slice_h W t A xs.length c hu .i64 hi' h0 (by omega), elem_of ht, hl]
    cases A <;> simp [sizeOf, typeInfo, hi, sliced, Result.andThen, Addr.add]
  · exact ⟨_, _, rfl, by omega, Kd.F_take (Kd.V_at (e := 0) (base := 0) h).2.2 (by omega)⟩
/-- the row of '[]T{}' -/
theorem raw_zero {W : World} {M : Nat → Prop} {base e size g : Nat} (h : (HP.blk g (.cells #[] e (0, 0))).at_ W M) (hb : base ≤ g) : (HP.raw base e size (.slice (some ⟨g, 0, none⟩) 0 0) 0 []).at_ W M := by
  refine ⟨⟨by simp, .inr ⟨g, 0, #[], rfl, hb, h.1, by simp, by simp [maxLen], by simp, by simp⟩⟩, fun k hk => ?_⟩
  have : g = k := by simpa [Value.ownBlock] using hk
  rw [← this]
  exact h.2
theorem raw_cellN {base e size : Nat} {A : Option Addr} {n c : Nat} {cells : List Value} {W : World} {M : Nat → Prop} (h : (HP.raw base e size (.slice A n c) n cells).at_ W M) (j : Nat) (u : Value) (hj : cells[j]? = some u) : ∃ ad, A = some ad ∧ ad.off = 0 ∧ ad.spot = none ∧ W.cell? (ad.add j) = some u := by
  have hjl : j < cells.length := (List.getElem?_eq_some_iff.1 hj).1
  obtain ⟨⟨hl, h1⟩, _⟩ := h
  rcases h1 with ⟨_, rfl⟩ | ⟨g, cap, cur, h1, _, hh, h3, h4, h5, h6⟩
  · omega
  · injection h1 with h1 _ _
    refine ⟨_, h1, rfl, rfl, ?_⟩
    rw [add_plain]
    refine cell_blk hh ?_
    rw [← h6, List.getElem?_take] at hj
    split at hj
    · simpa using hj
    · cases hj
namespace Cx
variable {M0 Z0 : Nat → Prop} {W0 W W1 : World} {Φ Φ' : HP} {Ψs : List HP}
/-- a new block that is written no more -/
theorem allocF (h : Cx M0 Z0 W0 W Φ Ψs) (o : Obj) : Cx M0 Z0 W0 (W.alloc o) (Φ.and (HP.blk W.heap.size o)) Ψs := by
  obtain ⟨Z, _, hn⟩ := h.pure
  exact hn _ _ ((Below.refl _ _).alloc (Nat.le_refl _) o) ⟨hp_alloc_new _ _, .inr (Nat.le_refl _)⟩
theorem cellF (h : Cx M0 Z0 W0 W Φ Ψs) {g : Nat} {cs : Array Value} {t : TypeId} {fr : Nat × Nat} (hx : ∀ Z, Φ.at_ W Z → W.heap[g]? = some (.cells cs t fr)) (j : Nat) {v : Value} (hv : cs[j]? = some v) : W.cell? ⟨g, j, none⟩ = some v := cell_blk (hx _ h.now.choose_spec) hv
/-- two objects change places -/
theorem swap (h : Cx M0 Z0 W0 W Φ Ψs) (i j : Nat) {Ψ : HP} (hj : Ψs[j]? = some Ψ) (hij : i < j) : Cx M0 Z0 W0 W Φ ((Ψs.set i Ψ).set j HP.tt) := by
  obtain ⟨hf, tag, h1, h2, h3⟩ := h
  have hlj : j < Ψs.length := (List.getElem?_eq_some_iff.1 hj).1
  refine ⟨hf, fun k => if tag k = j + 2 then i + 2 else if tag k = i + 2 then j + 2 else tag k, Φ.mono h1 (fun k hk _ => by simp [hk]), fun q Ψq hq => ?_, fun k hk => ?_⟩
  · rw [List.getElem?_set, List.getElem?_set, List.length_set] at hq
    by_cases e2 : j = q
    · subst e2
      simp [hlj] at hq
      subst hq
      trivial
    · rw [if_neg e2] at hq
      by_cases e1 : i = q
      · subst e1
        have : i < Ψs.length := by omega
        simp [this] at hq
        subst hq
        exact Ψ.mono (h2 j Ψ hj) (fun k hk _ => by simp [hk])
      · rw [if_neg e1] at hq
        exact Ψq.mono (h2 q Ψq hq) (fun k hk _ => by
          have a1 : ¬ tag k = j + 2 := by omega
          have a2 : ¬ tag k = i + 2 := by omega
          simp only [a1, a2, if_false]; exact hk)
  · have := h3 k hk
    by_cases e : tag k = j + 2
    · simp only [e, if_true]
      exact ⟨fun h => by omega, fun _ => this.2 (by omega)⟩
    · by_cases e' : tag k = i + 2
      · simp only [e, e', if_true, if_false]
        split
        · exact ⟨fun h => by omega, fun _ => this.2 (by omega)⟩
        · exact ⟨fun h => by omega, fun _ => this.2 (by omega)⟩
      · simp only [e, e', if_false]; exact this
/-- append of one behind a box, in a region that draws its order -/
theorem app1d {o1 : Obj} (h : Cx M0 Z0 W0 (W.alloc o1) Φ Ψs) (i : Nat) {v : Value} {base n : Nat} {xs : List Value} (t ty e : TypeId) (z : Value) (size bytes : Nat) (hi : Ψs[i]? = some (HP.raw base e size v n xs)) (hbase : base ≤ W0.heap.size) (ht : P.underlying t = some (.slice e)) (hinfo : (P.info? e).map (fun i => (i.zero, i.size, i.bytes)) = some (some z, size, bytes)) (hz : z.cells.size = size) (hs0 : 0 < size) (hb0 : 0 < bytes)
    (news : List Value) (hl : news.length = size) (h1 : ∀ u ∈ news, u.oneCell' = true) (hbytes : (n + 1) * bytes ≤ 140737488355328) :
    ∃ v1 w1, (Builtin.append_ #[t, t] ty #[v, .slice (some ⟨W.heap.size + 1, 0, none⟩) 1 1]).run P ((W.alloc o1).alloc (.cells news.toArray e)).drew = .ok v1 w1 ∧ Cx M0 Z0 W0 w1 Φ (Ψs.set i (HP.raw base e size v1 (n + 1) (xs ++ news))) :=
  (h.junk _).drew.app i t ty e z size bytes hi hbase ht hinfo hz hs0 hb0 (some ⟨W.heap.size + 1, 0, none⟩) 1 1 news (by omega) (fun _ => ⟨_, rfl, fun j u hj => by rw [add_plain]; exact cell_blk (w := (W.alloc o1).alloc _) (by rw [← hp_alloc_size W o1]; exact hp_alloc_new _ _) (by simpa using hj)⟩) h1 hbytes
end Cx
/-- append at a step of a region that draws its order -/
theorem step_app {ops : Array Oper} {o : Oper} {a : Act} {Q : Exit → Act → World → Prop} {Kc : Act → World → Prop} {W w1 : World} {s x : Operand} {t : TypeId} {v v1 u : Value} (hw : Region.wanted o (yielded ops a.tmps) = true)
    (ho : o.op = .call { callee := .builtin .append, args := #[s, x], argTypes := #[t, t] }) (hs : a.eval s = v) (hx : a.eval x = u)
    (hr : (Builtin.append_ #[t, t] o.type #[v, u]).run P W = .ok v1 w1) (h : Kc (a.put o.dst v1) w1) :
    if Region.wanted o (yielded ops a.tmps) = true then Oper.wp P o a W Kc Q else Kc (a.put o.dst undef) W := by
  rw [if_pos hw]
  unfold Oper.wp execOp
  simp only [ho, resolve, invoke, builtin, Sem.run_bind, Sem.run_pure, Result.andThen_ok, List.map_toArray, List.map_cons, List.map_nil, hs, hx, hr]
  exact h
end Go.RK
