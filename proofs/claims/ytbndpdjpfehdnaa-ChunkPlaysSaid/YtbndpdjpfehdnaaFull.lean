/- append onto a row that has no room: into a block of its own. No condition but the bounds. -/
import Derived.Test.YtbndpdjpfehdnaaUps
import Derived.Laws.AppendOwn
set_option linter.unusedVariables false
set_option linter.unusedSimpArgs false
namespace Go.RK
open Go.RowKit Go.Proofs.YtbndpdjpfehdnaaW.PrintWords
/-- the cells of a row that is read (of one cell each), and what they stand for -/
theorem rd_cells {α : Type} {d : Kd α} (hd : d.sz = 1) {A : Option Addr} {xs : List α} {W : World} {M : Nat → Prop} (h : (HP.rd d A xs).at_ W M) :
    ∃ cells : List Value, cells.length = xs.length ∧ (HP.reps d xs cells).at_ W M ∧ (∀ u ∈ cells, u.oneCell' = true) ∧ (0 < xs.length → ∃ ad, A = some ad ∧ ∀ j u, cells[j]? = some u → W.cell? (ad.add j) = some u) := by
  by_cases hp : 0 < xs.length
  · obtain ⟨ad, _, hA, _, _⟩ := HP.rd_get h 0 (List.getElem?_eq_getElem hp)
    have hk : ∀ k : Nat, (hk : k < xs.length) → ∃ u, W.cell? (ad.add k) = some u ∧ (HP.kind d xs[k] [u]).at_ W M := by
      intro k hk
      obtain ⟨ad', cs, hA', hK, hc⟩ := HP.rd_get h k (List.getElem?_eq_getElem hk)
      rw [hA] at hA'
      injection hA' with hA'
      subst hA'
      have hl := d.K_len (HP.foot_now hK)
      rw [hd] at hl
      obtain ⟨u, rfl⟩ := List.length_eq_one_iff.1 hl
      have := hc 0 u rfl
      rw [hd, Nat.mul_one, Nat.add_zero] at this
      exact ⟨u, this, hK⟩
    have hcl : ∀ (j : Nat) (u : Value), ((List.range xs.length).map (fun k => (W.cell? (ad.add k)).getD (.bool false)))[j]? = some u → j < xs.length ∧ W.cell? (ad.add j) = some u := by
      intro j u hj
      rw [List.getElem?_map] at hj
      obtain ⟨q, hq, hu⟩ := Option.map_eq_some_iff.1 hj
      have hjl := (List.getElem?_eq_some_iff.1 hq).1
      rw [List.length_range] at hjl
      rw [List.getElem?_range hjl] at hq
      injection hq with hq
      subst hq
      obtain ⟨u', hu', _⟩ := hk j hjl
      rw [hu'] at hu
      refine ⟨hjl, ?_⟩
      rw [hu', ← hu]
      rfl
    refine ⟨(List.range xs.length).map (fun k => (W.cell? (ad.add k)).getD (.bool false)), by simp, fun W' hW => ?_, fun u hu => ?_, fun _ => ⟨ad, hA, fun j u hj => (hcl j u hj).2⟩⟩
    · refine ⟨by simp [hd], fun j p hj => ?_⟩
      obtain ⟨hjl, rfl⟩ := List.getElem?_eq_some_iff.1 hj
      obtain ⟨u, hu, hK⟩ := hk j hjl
      have e : (((List.range xs.length).map (fun k => (W.cell? (ad.add k)).getD (.bool false))).drop (j * d.sz)).take d.sz = [u] := by
        rw [hd, Nat.mul_one, List.drop_eq_getElem_cons (by simpa using hjl)]
        simp [hu]
      rw [e]
      exact hK W' hW
    · obtain ⟨j, hj⟩ := List.mem_iff_getElem?.1 hu
      obtain ⟨hjl, hc⟩ := hcl j u hj
      obtain ⟨u', hu', hK⟩ := hk j hjl
      rw [hu'] at hc
      injection hc with hc
      subst hc
      exact d.K_one (HP.foot_now hK) _ (by simp)
  · have : xs = [] := List.eq_nil_of_length_eq_zero (by omega)
    subst this
    exact ⟨[], rfl, HP.reps_nil _ _ _, by simp, fun h => absurd h (by simp)⟩
theorem HP.reps_append {α : Type} {d : Kd α} {xs ys : List α} {cs ds : List Value} {W : World} {M : Nat → Prop} (h1 : (HP.reps d xs cs).at_ W M) (h2 : (HP.reps d ys ds).at_ W M) : (HP.reps d (xs ++ ys) (cs ++ ds)).at_ W M := fun W' hW => by
  obtain ⟨l1, g1⟩ := h1 W' hW
  obtain ⟨l2, g2⟩ := h2 W' hW
  refine ⟨by rw [List.length_append, List.length_append, l1, l2, Nat.add_mul], fun j p hj => ?_⟩
  rw [List.getElem?_append] at hj
  split at hj
  · rename_i hlt
    have hm : (j + 1) * d.sz ≤ xs.length * d.sz := Nat.mul_le_mul_right _ hlt
    rw [Nat.add_mul, Nat.one_mul] at hm
    rw [List.drop_append_of_le_length (by omega), List.take_append_of_le_length (by rw [List.length_drop]; omega)]
    exact g1 j p hj
  · rename_i hge
    have e : j * d.sz = cs.length + (j - xs.length) * d.sz := by
      rw [l1, ← Nat.add_mul]
      congr 1
      omega
    rw [e, List.drop_append, List.drop_of_length_le (by omega), Nat.add_sub_cancel_left, List.nil_append]
    exact g2 _ p hj
namespace Cx
variable {P : Program} {M0 Z0 : Nat → Prop} {W0 W W1 : World} {Φ Φ' : HP} {Ψs Ψs' : List HP}
theorem app_full (h : Cx M0 Z0 W0 W Φ Ψs) (t ty e : TypeId) (z : Value) (size bytes : Nat) (ht : P.underlying t = some (.slice e)) (hinfo : (P.info? e).map (fun i => (i.zero, i.size, i.bytes)) = some (some z, size, bytes)) (hz : z.cells.size = size) (hs0 : 0 < size) (hb0 : 0 < bytes)
    (b : Addr) (n cap : Nat) (olds : List Value) (hlo : olds.length = n * size) (holds : ∀ j v, olds[j]? = some v → W.cell? (b.add j) = some v)
    (a : Addr) (m c : Nat) (news : List Value) (hl : news.length = m * size) (hnews : ∀ j v, news[j]? = some v → W.cell? (a.add j) = some v) (hroom : cap < n + m) (hbytes : (n + m) * bytes ≤ 140737488355328) :
    ∃ A1 c1 w1, (Builtin.append_ #[t, t] ty #[.slice (some b) n cap, .slice (some a) m c]).run P W = .ok (.slice A1 (n + m) c1) w1 ∧ Cx M0 Z0 W0 w1 Φ (Ψs ++ [HP.raw W0.heap.size e size (.slice A1 (n + m) c1) (n + m) (olds ++ news)]) := by
  obtain ⟨i0, hi, hzz⟩ := Option.map_eq_some_iff.1 hinfo
  simp only [Prod.mk.injEq] at hzz
  obtain ⟨hz0, hz1, hz2⟩ := hzz
  subst hz1 hz2
  have hnm : n + m ≤ 140737488355328 := Nat.le_trans (Nat.le_mul_of_pos_right _ hb0) hbytes
  have h63 : n + m ≤ maxLen := by simp only [maxLen]; omega
  have hr := run_append_grow (P := P) (w := W) t ty e i0 z ht hi hz0 b n cap olds hlo holds a m c news hl hnews hroom (by omega) (growslice_fits (by omega) hbytes)
  have hge := grownCap_ge W (n + m) cap e
  have hcm : grownCap W (n + m) cap e ≤ maxLen := grownCap_le_maxLen W (n + m) cap e h63
  have hlen : (olds ++ news).length = (n + m) * i0.size := by rw [List.length_append, hlo, hl, Nat.add_mul]
  refine ⟨_, _, _, hr, ?_⟩
  have H := (h.drew.alloc (.cells (olds.toArray ++ news.toArray ++ Builtin.zeroCells z.cells (grownCap W (n + m) cap e - (n + m))) e (0, 0))).impi Ψs.length (Ψ' := HP.raw W0.heap.size e i0.size (.slice (some ⟨W.heap.size, 0, none⟩) (n + m) (grownCap W (n + m) cap e)) (n + m) (olds ++ news)) (by rw [List.getElem?_append_right (Nat.le_refl _)]; simp; rfl) (fun M hM => by
    refine ⟨⟨hlen, .inr ⟨W.heap.size, _, _, rfl, h.size, hM.1, hge, hcm, ?_, ?_⟩⟩, fun k hk => ?_⟩
    · simp only [Array.size_append, List.size_toArray, size_zeroCells, hz, hlo, hl]
      rw [hlen, ← Nat.add_mul, Nat.add_sub_cancel' hge]
    · simp only [Array.toList_append, List.append_assoc]
      rw [← List.append_assoc, ← hlen]
      exact List.take_left
    · have : W.heap.size = k := by simpa [Value.ownBlock] using hk
      rw [← this]
      exact hM.2)
  rwa [List.set_append_right _ _ (Nat.le_refl _), Nat.sub_self] at H
/-- copy into a block -/
theorem cpy (h : Cx M0 Z0 W0 W Φ Ψs) (i : Nat) {g : Nat} {cur : List Value} (dT sT ty e t : TypeId) (hi : Ψs[i]? = some (HP.blk g (.cells cur.toArray t (0, 0)))) (hu : P.underlying dT = some (.slice e)) (hsz : (P.info? e).map (·.size) = some 1)
    (A : Option Addr) (dLen dCap sLen sCap : Nat) (cs : List Value) (hn : cs.length = Nat.min sLen dLen) (hsrc : 0 < cs.length → ∃ ad, A = some ad ∧ ∀ j u, cs[j]? = some u → W.cell? (ad.add j) = some u) (hfit : cs.length ≤ cur.length) (h1 : ∀ v ∈ cs, v.oneCell' = true) :
    ∃ w1, (Builtin.copy_ #[dT, sT] ty #[.slice (some ⟨g, 0, none⟩) dLen dCap, .slice A sLen sCap]).run P W = .ok (goInt cs.length) w1 ∧ Cx M0 Z0 W0 w1 Φ (Ψs.set i (HP.blk g (.cells (cs ++ cur.drop cs.length).toArray t (0, 0)))) := by
  obtain ⟨M, Z, hM, _, hMZ, hn'⟩ := h.use i hi
  obtain ⟨w1, hr, hh, hf⟩ := run_cpy (P := P) (W := W) dT sT ty e hu hsz g 0 cur t hM.1 A dLen dCap sLen sCap cs hn hsrc (by omega) h1 0 (fun _ => rfl)
  refine ⟨w1, hr, (hn' HP.tt (HP.blk g (.cells (cs ++ cur.drop cs.length).toArray t (0, 0))) w1 ⟨hf.mono (fun k _ hk => by rw [hk]; exact hM.2), M, ⟨by simpa using hh, hM.2⟩, trivial, fun k hk => .inl hk⟩).fst⟩
/-- a block, as a full row -/
theorem full (h : Cx M0 Z0 W0 W Φ Ψs) (i : Nat) {g n : Nat} {cells : List Value} (e : TypeId) (hi : Ψs[i]? = some (HP.blk g (.cells cells.toArray e (0, 0)))) (hg : W0.heap.size ≤ g) (hn : cells.length = n) (hm : n ≤ 1000000) : Cx M0 Z0 W0 W Φ (Ψs.set i (HP.raw W0.heap.size e 1 (.slice (some ⟨g, 0, none⟩) n n) n cells)) :=
  h.impi i hi (fun M hM => by
    subst hn
    refine ⟨⟨by simp, .inr ⟨g, cells.length, cells.toArray, rfl, hg, hM.1, Nat.le_refl _, by simp [maxLen]; omega, by simp, by simp⟩⟩, fun k hk => ?_⟩
    have : g = k := by simpa [Value.ownBlock] using hk
    rw [← this]
    exact hM.2)
end Cx
/-- copy at a step of a region that draws its order -/
theorem step_cpy {P : Program} {ops : Array Oper} {o : Oper} {a : Act} {Q : Exit → Act → World → Prop} {Kc : Act → World → Prop} {W w1 : World} {s x : Operand} {t t' : TypeId} {v v1 u : Value} (hw : Region.wanted o (yielded ops a.tmps) = true)
    (ho : o.op = .call { callee := .builtin .copy, args := #[s, x], argTypes := #[t, t'] }) (hs : a.eval s = v) (hx : a.eval x = u)
    (hr : (Builtin.copy_ #[t, t'] o.type #[v, u]).run P W = .ok v1 w1) (h : Kc (a.put o.dst v1) w1) :
    if Region.wanted o (yielded ops a.tmps) = true then Oper.wp P o a W Kc Q else Kc (a.put o.dst undef) W := by
  rw [if_pos hw]
  unfold Oper.wp execOp
  simp only [ho, resolve, invoke, builtin, Sem.run_bind, Sem.run_pure, Result.andThen_ok, List.map_toArray, List.map_cons, List.map_nil, hs, hx, hr]
  exact h
end Go.RK
