/- Fold of the document. No condition but that the deltas fit, and the bounds. -/
import Derived.Test.YtpakcfbjjlmcaaaTapePlays
import Derived.Test.YtpakcfbjjlmcaaaTapeFoldPure
set_option linter.unusedVariables false
set_option linter.unusedSimpArgs false
set_option maxHeartbeats 3200000
set_option maxRecDepth 100000
namespace Go.RK
open Go.RowKit Go.Proofs.YtpakcfbjjlmcaaaW.PrintWords
theorem take_one_of {α : Type} {L : List α} {q : Nat} {u : α} (h : L[q]? = some u) : (L.drop q).take 1 = [u] := by
  obtain ⟨hq, rfl⟩ := List.getElem?_eq_some_iff.1 h
  rw [List.drop_eq_getElem_cons hq]
  rfl
theorem of_take_one {α : Type} {L : List α} {q : Nat} (hq : q < L.length) : (L.drop q).take 1 = [L[q]] := take_one_of (List.getElem?_eq_getElem hq)
theorem HP.reps_set {α : Type} {d : Kd α} (hd : d.sz = 1) {xs : List α} {cs : List Value} {W : World} {M : Nat → Prop} (h : (HP.reps d xs cs).at_ W M) (j : Nat) {x : α} {u : Value} (hx : (HP.kind d x [u]).at_ W M) : (HP.reps d (xs.set j x) (cs.set j u)).at_ W M := fun W' hW => by
  obtain ⟨l1, g1⟩ := h W' hW
  rw [hd, Nat.mul_one] at l1
  refine ⟨by rw [hd]; simp [l1], fun q p hq => ?_⟩
  rw [hd, Nat.mul_one]
  have hql : q < xs.length := by have := (List.getElem?_eq_some_iff.1 hq).1; simpa using this
  rw [List.getElem?_set] at hq
  by_cases e : j = q
  · subst e
    simp [hql] at hq
    subst hq
    rw [take_one_of (u := u) (by rw [List.getElem?_set]; simp; omega)]
    exact hx W' hW
  · rw [if_neg e] at hq
    have := g1 q p hq
    rw [hd, Nat.mul_one, of_take_one (by omega)] at this
    rw [take_one_of (u := cs[q]'(by omega)) (by rw [List.getElem?_set, if_neg e]; exact List.getElem?_eq_getElem (by omega))]
    exact this
theorem HP.reps_take {α : Type} {d : Kd α} (hd : d.sz = 1) {xs : List α} {cs : List Value} {W : World} {M : Nat → Prop} (h : (HP.reps d xs cs).at_ W M) (m : Nat) : (HP.reps d (xs.take m) (cs.take m)).at_ W M := fun W' hW => by
  obtain ⟨l1, g1⟩ := h W' hW
  rw [hd, Nat.mul_one] at l1
  refine ⟨by rw [hd]; simp [l1], fun q p hq => ?_⟩
  rw [hd, Nat.mul_one]
  rw [List.getElem?_take] at hq
  split at hq
  · rename_i hqm
    have hql := (List.getElem?_eq_some_iff.1 hq).1
    have := g1 q p hq
    rw [hd, Nat.mul_one, of_take_one (by omega)] at this
    rw [take_one_of (u := cs[q]'(by omega)) (by rw [List.getElem?_take_of_lt hqm]; exact List.getElem?_eq_getElem (by omega))]
    exact this
  · cases hq
/-- a store into a row of the call's own -/
theorem Cx.rput {M0 Z0 : Nat → Prop} {W0 W : World} {Φ : HP} {Ψs : List HP} (h : Cx M0 Z0 W0 W Φ Ψs) (i : Nat) {base e n c : Nat} {A : Option Addr} {cells : List Value} (hi : Ψs[i]? = some (HP.raw base e 1 (.slice A n c) n cells)) (j : Nat) (hj : j < n) (u : Value) :
    ∃ g, A = some ⟨g, 0, none⟩ ∧ (∃ old, W.cell? ⟨g, j, none⟩ = some old) ∧ W.frozen? ⟨g, j, none⟩ = false ∧ Cx M0 Z0 W0 (W.setCell ⟨g, j, none⟩ u) Φ (Ψs.set i (HP.raw base e 1 (.slice A n c) n (cells.set j u))) := by
  obtain ⟨M, Z, hM, _, hMZ, hn⟩ := h.use i hi
  obtain ⟨⟨hl, hr⟩, hown⟩ := hM
  rcases hr with ⟨hr, _⟩ | ⟨g, cap, cur, hr, hb, hh, h3, h4, h5, h6⟩
  · injection hr with _ hr; omega
  injection hr with hr1 hr2 hr3
  subst hr1; subst hr3
  have hsz : j < cur.size := by omega
  refine ⟨g, rfl, ⟨_, cell_blk hh (Array.getElem?_eq_getElem hsz)⟩, frozen_blk hh, ?_⟩
  refine (hn HP.tt (HP.raw base e 1 (.slice (some ⟨g, 0, none⟩) n c) n (cells.set j u)) (W.setCell ⟨g, j, none⟩ u) ⟨(Fr.refl M W).setCell (fun _ => hown g rfl) _, M, ⟨⟨by rw [List.length_set]; exact hl, .inr ⟨g, c, _, rfl, hb, hp_setCell_same hh _ _, h3, h4, by simpa using h5, ?_⟩⟩, fun k hk => hown k hk⟩, trivial, fun k hk => .inl hk⟩).fst
  rw [← h6, Array.toList_setIfInBounds, List.take_set]
end Go.RK
namespace Go.Proofs.Ytpakcfbjjlmcaaa.Tape
open Go.RowKit Go.RK Go.TP Go.Proofs.YtpakcfbjjlmcaaaW.PrintWords Go.Proofs.Ytpakcfbjjlmcaaa.PAll
variable {W : World} {M Z : Nat → Prop} {g : Nat} {width : Int} {v : Value} {X : List (List Int)}
def Own (M0 Z0 : Nat → Prop) (W0 W : World) (Φ : HP) (v : Value) (L : List (List Int)) : Prop := ∃ cells, Cx M0 Z0 W0 W (Φ.and (HP.reps KR L cells)) [HP.raw W0.heap.size 22 1 v L.length cells]
section
variable {M0 Z0 : Nat → Prop} {W0 W1 : World} {Φ Φ' : HP}
theorem Own.now {v : Value} {L : List (List Int)} (h : Own M0 Z0 W0 W Φ v L) : ∃ Z, Φ.at_ W Z := let ⟨cells, h⟩ := h; let ⟨Z, hz⟩ := h.now; ⟨Z, hz.1⟩
theorem Own.imp {v : Value} {L : List (List Int)} (h : Own M0 Z0 W0 W Φ v L) (hi : ∀ Z, Φ.at_ W Z → Φ'.at_ W Z) : Own M0 Z0 W0 W Φ' v L := let ⟨cells, h⟩ := h; ⟨cells, h.imp (fun Z hz => ⟨hi Z hz.1, hz.2⟩)⟩
theorem Own.allocF {v : Value} {L : List (List Int)} (h : Own M0 Z0 W0 W Φ v L) (o : Obj) : Own M0 Z0 W0 (W.alloc o) (Φ.and (HP.blk W.heap.size o)) v L := let ⟨cells, h⟩ := h; ⟨cells, (h.allocF o).imp (fun Z hz => ⟨⟨hz.1.1, hz.2⟩, hz.1.2⟩)⟩
theorem Own.more {α : Type} {R : α → Prop} {Φ' : α → HP} {v : Value} {L : List (List Int)} (h : Own M0 Z0 W0 W Φ v L) (hx : ∀ Z, Φ.at_ W Z → ∃ x, R x ∧ (Φ' x).at_ W Z) : ∃ x, R x ∧ Own M0 Z0 W0 W (Φ.and (Φ' x)) v L := by
  obtain ⟨cells, h⟩ := h
  obtain ⟨x, hr, h2⟩ := h.more (fun Z hz => hx Z hz.1)
  exact ⟨x, hr, cells, h2.imp (fun Z hz => ⟨⟨hz.1.1, hz.2⟩, hz.1.2⟩)⟩
theorem Own.snoc {v : Value} {L : List (List Int)} (h : Own M0 Z0 W0 W Φ v L) (x : List Int) (A : Option Addr) (c : Nat) (hx : ∀ Z, Φ.at_ W Z → (HP.val KI (.slice A x.length c) x).at_ W Z) (hb : L.length ≤ 1000000) :
    ∃ A1 c1 w1, (Builtin.append_ #[38, 38] 38 #[v, .slice (some ⟨W.heap.size, 0, none⟩) 1 1]).run Try.prog (W.alloc (.cells #[.slice A x.length c] 22)) = .ok (.slice A1 (L ++ [x]).length c1) w1 ∧ Own M0 Z0 W0 w1 Φ (.slice A1 (L ++ [x]).length c1) (L ++ [x]) := by
  have e : L.length + 1 = (L ++ [x]).length := by simp
  obtain ⟨cells, h⟩ := h
  have h5 := h.imp (Φ' := Φ.and (HP.reps KR (L ++ [x]) (cells ++ [.slice A x.length c]))) (fun Z hz => ⟨hz.1, HP.reps_snoc hz.2 (HP.kind_val (hx Z hz.1))⟩)
  obtain ⟨v1, w1, hrun, H⟩ := h5.app1 (P := Try.prog) 0 38 38 22 (.slice none 0 0) 1 24 rfl (Nat.le_refl _) Try.underlying38 infoR rfl (by omega) (by omega) [.slice A x.length c] rfl (row_one A x.length c) (by omega)
  obtain ⟨A1, c1, rfl, _⟩ := HP.raw_form (H.get 0 rfl).choose_spec
  rw [e] at hrun H
  exact ⟨A1, c1, w1, hrun, _, H⟩
theorem Own.set {A : Option Addr} {c : Nat} {L : List (List Int)} (h : Own M0 Z0 W0 W Φ (.slice A L.length c) L) (j : Nat) (hj : j < L.length) (x : List Int) (B : Option Addr) (b : Nat) (hx : ∀ Z, Φ.at_ W Z → (HP.val KI (.slice B x.length b) x).at_ W Z) :
    ∃ g, A = some ⟨g, 0, none⟩ ∧ (∃ old, W.cell? ⟨g, j, none⟩ = some old) ∧ W.frozen? ⟨g, j, none⟩ = false ∧ Own M0 Z0 W0 (W.setCell ⟨g, j, none⟩ (.slice B x.length b)) Φ (.slice A (L.set j x).length c) (L.set j x) := by
  obtain ⟨cells, h⟩ := h
  have h5 := h.imp (Φ' := Φ.and (HP.reps KR (L.set j x) (cells.set j (.slice B x.length b)))) (fun Z hz => ⟨hz.1, HP.reps_set (d := KR) rfl hz.2 j (HP.kind_val (hx Z hz.1))⟩)
  obtain ⟨g, hA, ho, hf, H⟩ := h5.rput 0 rfl j hj (.slice B x.length b)
  refine ⟨g, hA, ho, hf, cells.set j (.slice B x.length b), ?_⟩
  rw [List.length_set]
  exact H
/-- the first ones, in a row of their own -/
theorem Own.cut {A : Option Addr} {c : Nat} {L : List (List Int)} (h : Own M0 Z0 W0 W Φ (.slice A L.length c) L) (m : Nat) (hm : m ≤ L.length) (hb : L.length ≤ 1000000) :
    (∀ W : World, (Instr.slice 38 (.slice A L.length c) none (some (.int .i64 (m : Int))) none).run Try.prog W = .ok (.slice A m c) W) ∧
    ∃ A1 c1 w1, (Builtin.append_ #[38, 38] 38 #[.slice (some ⟨W.heap.size, 0, none⟩) 0 0, .slice A m c]).run Try.prog (W.alloc (.cells #[] 22)) = .ok (.slice A1 (L.take m).length c1) w1 ∧ Own M0 Z0 W0 w1 Φ (.slice A1 (L.take m).length c1) (L.take m) := by
  have e : 0 + m = (L.take m).length := by rw [List.length_take]; omega
  obtain ⟨cells, h⟩ := h
  have hcap : L.length ≤ c := by obtain ⟨_, _, h1, h2⟩ := HP.raw_form (h.get 0 rfl).choose_spec; injection h1 with _ _ h1; omega
  have hcut := (cut_take (P := Try.prog) (d := KR) 38 22 Try.underlying38 (info_parts infoR).choose_spec.1 A c L (m : Int) (by omega) (by omega) hcap).1
  rw [Int.toNat_natCast, ← e, Nat.zero_add] at hcut
  refine ⟨hcut, ?_⟩
  have hraw := (h.get 0 rfl).choose_spec
  have hcl : cells.length = L.length := by have := hraw.1.1; omega
  have hone : ∀ u ∈ cells, u.oneCell' = true := by
    intro u hu
    obtain ⟨Z, hz⟩ := h.now
    have h2 := HP.foot_now hz.2
    obtain ⟨q, hq⟩ := List.mem_iff_getElem?.1 hu
    have hql := (List.getElem?_eq_some_iff.1 hq).1
    have h3 := h2.2 q _ (List.getElem?_eq_getElem (by omega))
    have e1 : KR.sz = 1 := rfl
    rw [e1, Nat.mul_one, take_one_of hq] at h3
    exact KR.K_one h3 u (by simp)
  have H1 := (h.alloc (.cells #[] 22 (0, 0))).rowed 1 22 rfl h.size
  obtain ⟨v1, w1, hrun, H2⟩ := H1.app (P := Try.prog) 1 38 38 22 (.slice none 0 0) 1 24 rfl (Nat.le_refl _) Try.underlying38 infoR rfl (by omega) (by omega) A m c (cells.take m) (by rw [List.length_take]; omega) (fun hp => by
    obtain ⟨u, hu⟩ : ∃ u, cells[0]? = some u := ⟨_, List.getElem?_eq_getElem (by omega)⟩
    obtain ⟨ad, hA, _⟩ := HP.raw_cell hraw 0 u hu
    refine ⟨ad, hA, fun j u hj => ?_⟩
    rw [List.getElem?_take] at hj
    split at hj
    · obtain ⟨ad', hA', hc⟩ := HP.raw_cell hraw j u hj
      rw [hA] at hA'
      injection hA' with hA'
      subst hA'
      exact cell_al hc _
    · cases hj) (fun u hu => hone u (List.mem_of_mem_take hu)) (by omega)
  simp only [List.nil_append] at H2
  rw [e] at H2
  obtain ⟨A1, c1, rfl, _⟩ := HP.raw_form (H2.get 1 rfl).choose_spec
  exact ⟨A1, c1, w1, hrun, _, ((H2.swap 0 1 rfl (by decide)).take 1).imp (fun Z hz => ⟨hz.1, HP.reps_take (d := KR) rfl hz.2 m⟩)⟩
theorem Own.done {v : Value} {L : List (List Int)} (h : Own (fun _ => False) Z0 W0 W Φ v L) : Below W0.heap.size W0 W ∧ (HP.val KR v L).at_ W (fun k => Z0 k ∨ W0.heap.size ≤ k) := by
  obtain ⟨cells, h⟩ := h
  exact ((h.freezeRow 0 rfl (Nat.le_refl _)).imp (Φ' := HP.val KR v L) (fun Z hz => HP.val_of (d := KR) hz.2 hz.1.2)).done0
theorem Own.start {A : Option Addr} {c : Nat} {L : List (List Int)} (h : Cx M0 Z0 W0 W Φ []) (hv : ∀ Z, Φ.at_ W Z → (HP.val KR (.slice A L.length c) L).at_ W Z) (hb : L.length ≤ 1000000) :
    ∃ A1 c1 w1, (Builtin.append_ #[38, 38] 38 #[.slice (some ⟨W.heap.size, 0, none⟩) 0 0, .slice A L.length c]).run Try.prog (W.alloc (.cells #[] 22)) = .ok (.slice A1 L.length c1) w1 ∧ Own M0 Z0 W0 w1 Φ (.slice A1 L.length c1) L := by
  obtain ⟨cs, ⟨hcl, hone, hsrc⟩, H⟩ := cells_more h hv
  have H1 := (H.alloc (.cells #[] 22 (0, 0))).rowed 0 22 rfl h.size
  obtain ⟨v1, w1, hrun, H2⟩ := H1.app (P := Try.prog) 0 38 38 22 (.slice none 0 0) 1 24 rfl (Nat.le_refl _) Try.underlying38 infoR rfl (by omega) (by omega) A L.length c cs (by omega) (fun hp => by
    obtain ⟨ad, h1, h2⟩ := hsrc hp
    exact ⟨ad, h1, fun j u hj => cell_al (h2 j u hj) _⟩) hone (by omega)
  simp only [List.nil_append] at H2
  rw [Nat.zero_add] at H2
  obtain ⟨A1, c1, rfl, _⟩ := HP.raw_form (H2.get 0 rfl).choose_spec
  exact ⟨A1, c1, w1, hrun, _, H2⟩
end
theorem delta_at {A : Option Addr} {l : List S142} (h : (HP.rd k142 A l).at_ W Z) (k : Nat) {d : S142} (hk : l[k]? = some d) :
    ∃ x : Addr × Option Addr × Nat, (A = some x.1 ∧ W.cell? (x.1.add (k * 3)) = some (.int .i64 d.f0) ∧ W.cell? ⟨(x.1.add (k * 3)).block, (x.1.add (k * 3)).off + 1, none⟩ = some (.int .i64 d.f1) ∧ W.cell? ⟨(x.1.add (k * 3)).block, (x.1.add (k * 3)).off + 2, none⟩ = some (.slice x.2.1 d.f2.length x.2.2)) ∧ (HP.val KI (.slice x.2.1 d.f2.length x.2.2) d.f2).at_ W Z := by
  obtain ⟨ad, cs, e, hK, hc⟩ := HP.rd_get h k hk
  obtain ⟨A3, c3, rfl, hl, hF⟩ := k142_openF hK
  refine ⟨⟨ad, A3, c3⟩, ⟨e, hc 0 _ rfl, ?_, ?_⟩, A3, c3, rfl, hl, hF⟩
  · rw [← add_field _ _ 1 (by omega)]; exact hc 1 _ rfl
  · rw [← add_field _ _ 2 (by omega)]; exact hc 2 _ rfl
end Go.Proofs.Ytpakcfbjjlmcaaa.Tape
