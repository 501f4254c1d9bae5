/- At a step of a region that draws its order: the facts are brought up to the world at hand. No condition. -/
import Derived.Test.YtbndpdjpfehdnaaCut
set_option linter.unusedVariables false
set_option linter.unusedSimpArgs false
namespace Go.RK
open Go.RowKit Go.Proofs.YtbndpdjpfehdnaaW.PrintWords
theorem cell_dr {W : World} {a : Addr} {v : Value} (h : W.cell? a = some v) : W.drew.cell? a = some v := h
/-- a printed call's own result, as a row that is read -/
theorem V_of_R {α : Type} {d : Kd α} {e e' base base' : Nat} {ok ok' : Nat → Prop} {W : World} {v : Value} {xs : List α} (h : d.R e W base ok v xs) (hk : ∀ k, base ≤ k → ok' k) : Kd.V d e' W base' ok' v xs := (Kd.R_V (e := e) (base' := base') (Kd.R_mono (Kd.R_bound h) (fun k hq => hk k hq.2.1)))
/-- the row of '[]T{a, b, ..}' -/
theorem raw_lit {W : World} {M : Nat → Prop} {base e g n : Nat} {cs : Array Value} (h : (HP.blk g (.cells cs e (0, 0))).at_ W M) (hb : base ≤ g) (hn : cs.size = n) (hm : n ≤ 1000) : (HP.raw base e 1 (.slice (some ⟨g, 0, none⟩) n n) n cs.toList).at_ W M := by
  subst hn
  refine ⟨⟨by simp, .inr ⟨g, cs.size, cs, rfl, hb, h.1, Nat.le_refl _, by simp [maxLen]; omega, by simp, by rw [Nat.mul_one, ← Array.length_toList, List.take_length]⟩⟩, fun k hk => ?_⟩
  have : g = k := by simpa [Value.ownBlock] using hk
  rw [← this]
  exact h.2
namespace Cx
variable {P : Program} {M0 Z0 : Nat → Prop} {W0 W W1 : World} {Φ Φ' : HP} {Ψs Ψs' : List HP}
theorem up_call {f : FuncId} {args : Array Value} {K : Ending → World → Prop} (h : Cx M0 Z0 W0 W1 Φ Ψs) (up : Cx M0 Z0 W0 W1 Φ Ψs → Cx M0 Z0 W0 W Φ' Ψs') (k : Aside0 (Cx M0 Z0 W0 W Φ' Ψs') → Calls P f args W K) : Calls P f args W K := k ⟨up h⟩
theorem up_step {c : Prop} [Decidable c] {o : Oper} {a a' : Act} {Q : Exit → Act → World → Prop} {Kc : Act → World → Prop} (h : Cx M0 Z0 W0 W1 Φ Ψs) (up : Cx M0 Z0 W0 W1 Φ Ψs → Cx M0 Z0 W0 W Φ' Ψs') (k : Aside0 (Cx M0 Z0 W0 W Φ' Ψs') → (if c then Oper.wp P o a W Kc Q else Kc a' W)) : (if c then Oper.wp P o a W Kc Q else Kc a' W) := k ⟨up h⟩
theorem allocF1 {o1 : Obj} (h : Cx M0 Z0 W0 (W.alloc o1) Φ Ψs) (o : Obj) : Cx M0 Z0 W0 ((W.alloc o1).alloc o) (Φ.and (HP.blk (W.heap.size + 1) o)) Ψs := by
  have := h.allocF o
  rwa [hp_alloc_size] at this
theorem allocF2 {o1 o2 : Obj} (h : Cx M0 Z0 W0 ((W.alloc o1).alloc o2) Φ Ψs) (o : Obj) : Cx M0 Z0 W0 (((W.alloc o1).alloc o2).alloc o) (Φ.and (HP.blk (W.heap.size + 1 + 1) o)) Ψs := by
  have := h.allocF o
  rwa [hp_alloc_size, hp_alloc_size] at this
/-- append at a step, by the facts at hand -/
theorem step_appc {ops : Array Oper} {o : Oper} {a : Act} {Q : Exit → Act → World → Prop} {Kc : Act → World → Prop} (h : Cx M0 Z0 W0 W Φ Ψs) (i : Nat) {s x : Operand} {t : TypeId} {v : Value} {A : Option Addr} {m c : Nat} {base n : Nat} {xs : List Value} (e : TypeId) (z : Value) (size bytes : Nat) (news : List Value) (N : Nat) (cells : List Value) (hN : n + m = N) (hcs : xs ++ news = cells)
    (hw : Region.wanted o (yielded ops a.tmps) = true) (ho : o.op = .call { callee := .builtin .append, args := #[s, x], argTypes := #[t, t] }) (hs : a.eval s = v) (hx : a.eval x = .slice A m c)
    (hi : Ψs[i]? = some (HP.raw base e size v n xs)) (hbase : base ≤ W0.heap.size) (ht : P.underlying t = some (.slice e)) (hinfo : (P.info? e).map (fun i => (i.zero, i.size, i.bytes)) = some (some z, size, bytes)) (hz : z.cells.size = size) (hs0 : 0 < size) (hb0 : 0 < bytes)
    (hl : news.length = m * size) (hsrc : 0 < m → ∃ ad, A = some ad ∧ ∀ j u, news[j]? = some u → W.cell? (ad.add j) = some u) (h1 : ∀ u ∈ news, u.oneCell' = true) (hbytes : (n + m) * bytes ≤ 140737488355328)
    (k : ∀ A1 c1 w1, Aside0 (Cx M0 Z0 W0 w1 Φ (Ψs.set i (HP.raw base e size (.slice A1 N c1) N cells))) → Kc (a.put o.dst (.slice A1 N c1)) w1) :
    if Region.wanted o (yielded ops a.tmps) = true then Oper.wp P o a W Kc Q else Kc (a.put o.dst undef) W := by
  subst hN hcs
  obtain ⟨v1, w1, hr, H⟩ := h.app i t o.type e z size bytes hi hbase ht hinfo hz hs0 hb0 A m c news hl hsrc h1 hbytes
  have hil : i < Ψs.length := (List.getElem?_eq_some_iff.1 hi).1
  have hgi : (Ψs.set i (HP.raw base e size v1 (n + m) (xs ++ news)))[i]? = some (HP.raw base e size v1 (n + m) (xs ++ news)) := by rw [List.getElem?_set]; simp [hil]
  obtain ⟨A1, c1, rfl, _⟩ := HP.raw_form (H.get i hgi).choose_spec
  exact step_app hw ho hs hx hr (k A1 c1 w1 ⟨H⟩)
/-- a call that reads an object and tells a row -/
theorem crval {f : FuncId} {args : Array Value} {β : Type} {R : Value → Ending → Prop} {d : Kd β} {xs : List β} {Ψ : HP} (h : Cx M0 Z0 W0 W Φ Ψs) (i : Nat) (hi : Ψs[i]? = some Ψ)
    (hc : ∀ M : Nat → Prop, Ψ.at_ W M → Calls P f args W fun e W1 => ∃ v, R v e ∧ (HP.val d v xs).at_ W1 (fun k => False ∨ W.heap.size ≤ k) ∧ Below W.heap.size W W1) :
    Calls P f args W fun e W1 => ∃ A c, R (.slice A xs.length c) e ∧ Cx M0 Z0 W0 W1 (Φ.and (HP.val d (.slice A xs.length c) xs)) Ψs := by
  obtain ⟨M, hM⟩ := h.get i hi
  obtain ⟨Z, _, hn⟩ := h.pure
  refine (hc M hM).mono (fun e W1 ⟨v, hr, hv, hb⟩ => ?_)
  obtain ⟨A, c, rfl, _⟩ := HP.val_now hv
  exact ⟨A, c, hr, hn _ _ hb (HP.mono hv (fun k hk _ => .inr (by rcases hk with hk | hk; exact hk.elim; exact hk)))⟩
/-- the block of an empty row, as a row -/
theorem rowed (h : Cx M0 Z0 W0 W Φ Ψs) (i : Nat) {g : Nat} (e : TypeId) (hi : Ψs[i]? = some (HP.blk g (.cells #[] e (0, 0)))) (hg : W0.heap.size ≤ g) : Cx M0 Z0 W0 W Φ (Ψs.set i (HP.raw W0.heap.size e 1 (.slice (some ⟨g, 0, none⟩) 0 0) 0 [])) :=
  h.impi i hi (fun M hM => raw_zero hM hg)
end Cx
end Go.RK
