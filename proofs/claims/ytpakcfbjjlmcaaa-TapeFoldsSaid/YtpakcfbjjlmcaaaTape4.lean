/- Whether rows fit; a row of deltas, one put behind it; the rows that are kept. No condition. -/
import Derived.Test.YtpakcfbjjlmcaaaTape3
import Derived.Test.YtpakcfbjjlmcaaaPAllx0
import Derived.Deep.LoopGhost
set_option linter.unusedVariables false
set_option linter.unusedSimpArgs false
set_option maxHeartbeats 1600000
set_option maxRecDepth 100000
namespace Go.Proofs.Ytpakcfbjjlmcaaa.Tape
open Go.RowKit Go.RK Go.Proofs.YtpakcfbjjlmcaaaW.PrintWords
open Go.Proofs.Ytpakcfbjjlmcaaa.PAll (S142 k142 k142_mk k142_mkF info142)
variable {W : World} {M Z : Nat → Prop} {g : Nat} {first width : Int} {v : Value} {R : List (List Int)}
theorem row_len {A : Option Addr} {xs : List (List Int)} {i : Nat} {row : List Int} (h : (HP.rd KR A xs).at_ W Z) (hi : xs[i]? = some row) : ∃ ad A1 c1, A = some ad ∧ W.cell? (ad.add i) = some (.slice A1 row.length c1) ∧ row.length ≤ c1 ∧ (HP.val KI (.slice A1 row.length c1) row).at_ W Z := by
  obtain ⟨ad, cs, rfl, hK, hc⟩ := HP.rd_get h i hi
  obtain ⟨A1, c1, rfl, hl1, hC⟩ := HP.foot_now hK
  have kr := hc 0 _ rfl
  rw [show i * KR.sz + 0 = i by show i * 1 + 0 = i; omega] at kr
  refine ⟨ad, A1, c1, rfl, kr, hl1, A1, c1, rfl, hl1, fun W' hW => ?_⟩
  obtain ⟨A2, c2, he, _, hC2⟩ := hK W' hW
  injection he with he _
  injection he with h1 _ _
  rw [h1]
  exact hC2
theorem fits_tp {v : Value} {A : Option Addr} {c : Nat} {xs : List (List Int)} (h : (HP.blk g (tp v first width)).at_ W M) (hx : (HP.rd KR A xs).at_ W Z) (hb : xs.length ≤ 1000000) (b : Bool) (hq : b = xs.all (fun r => decide ((r.length : Int) = width))) :
    Calls Try.prog 87 #[.pointer (some ⟨g, 0, none⟩), .slice A xs.length c] W fun e w' => e = .returned (.bool b) ∧ Below W.heap.size W w' := by
  have k2 : W.cell? ⟨g, 2, none⟩ = some (.int .i64 width) := cell_blk h.1 rfl
  have hx0 := Aside0.mk hx
  replace hq := Lib.hid hq
  clear h hx
  go_enter Try.func87, Try.ntmps87
  go_wp2
  go_loopg [9] xs.length (fun j v wr => ∃ i : Nat, v = .int .i64 i ∧ i + j = xs.length ∧ Hid ((xs.take i).all (fun r => decide ((r.length : Int) = width)) = true) ∧ wr = W)
  case atStart => exact ⟨0, rfl, by omega, Lib.hid rfl, rfl⟩
  case round =>
    obtain ⟨i, rfl, hij, hall, rfl⟩ := hrel
    by_cases hi : i < xs.length
    · obtain ⟨ad, A1, c1, rfl, kr, _, _⟩ := row_len hx0.out (List.getElem?_eq_getElem hi)
      have hi' : (i : Int) < xs.length := by omega
      generalize hrow : xs[i] = row at *
      by_cases hl : (row.length : Int) = width
      · have hl' : ((row.length : Int) == width) = true := by simpa using hl
        have hw : IntKind.i64.wrap ((i : Int) + 1) = ((i + 1 : Nat) : Int) := by rw [IntWalk.i64_in _ (by omega)]; omega
        go_wp2
        go_roundg (gk - 1)
        case measure => omega
        exact ⟨i + 1, rfl, by omega, Lib.hid (by rw [List.take_succ_eq_append_getElem hi, List.all_append, hall.out, hrow]; simp [hl]), rfl⟩
      · have hl' : ((row.length : Int) == width) = false := by simpa using hl
        obtain rfl : b = false := by
          rw [hq.out, List.all_eq_false]
          exact ⟨row, by rw [← hrow]; exact List.getElem_mem hi, by simpa using hl⟩
        go_wp2
        go_ret
        exact ⟨rfl, Below.refl _ _⟩
    · have hi' : ¬ (i : Int) < xs.length := by omega
      obtain rfl : b = true := by rw [hq.out, ← hall.out, List.take_of_length_le (by omega)]
      go_wp2
      go_ret
      exact ⟨rfl, Below.refl _ _⟩
theorem last_get (Ψs : List HP) (Ψ : HP) : (Ψs ++ [Ψ])[Ψs.length]? = some Ψ := by simp
theorem delta_kind {x : S142} {A : Option Addr} {c : Nat} (h : (HP.val KI (.slice A x.f2.length c) x.f2).at_ W M) : (HP.kind k142 x [.int .i64 x.f0, .int .i64 x.f1, .slice A x.f2.length c]).at_ W M := by
  obtain ⟨_, hl, hf⟩ := Kd.V_at (e := 0) (base := 0) h
  exact k142_mkF W M x hl hf
theorem delta_one (x : S142) (A : Option Addr) (c : Nat) : ∀ u ∈ [Value.int .i64 x.f0, .int .i64 x.f1, .slice A x.f2.length c], u.oneCell' = true := by
  intro u hu
  rcases List.mem_cons.1 hu with rfl | hu
  · rfl
  rcases List.mem_cons.1 hu with rfl | hu
  · rfl
  rw [List.mem_singleton.1 hu]
  rfl
/-- a row of deltas of the call's own -/
def Ds (M0 Z0 : Nat → Prop) (W0 W : World) (Φ : HP) (v : Value) (out : List S142) : Prop := ∃ cells, Cx M0 Z0 W0 W (Φ.and (HP.reps k142 out cells)) [HP.raw W0.heap.size 142 3 v out.length cells]
section
variable {M0 Z0 : Nat → Prop} {W0 W1 : World} {Φ Φ' : HP}
theorem Ds.nil (h : Cx M0 Z0 W0 W Φ []) : Ds M0 Z0 W0 W Φ (.slice none 0 0) [] :=
  ⟨[], ((h.add (HP.raw_nil _ _ _ _ _)).imp (fun Z hz => ⟨hz, HP.reps_nil _ _ _⟩))⟩
theorem Ds.form {v : Value} {out : List S142} (h : Ds M0 Z0 W0 W Φ v out) : ∃ A c, v = .slice A out.length c := by
  obtain ⟨cells, h⟩ := h
  obtain ⟨A, c, rfl, _⟩ := HP.raw_form (h.get 0 rfl).choose_spec
  exact ⟨A, c, rfl⟩
theorem Ds.skip {v : Value} {out : List S142} (h : Ds M0 Z0 W0 W Φ v out) (hb : Below W.heap.size W W1) : Ds M0 Z0 W0 W1 Φ v out := let ⟨cells, h⟩ := h; ⟨cells, h.skip hb⟩
theorem Ds.now {v : Value} {out : List S142} (h : Ds M0 Z0 W0 W Φ v out) : ∃ Z, Φ.at_ W Z := let ⟨cells, h⟩ := h; let ⟨Z, hz⟩ := h.now; ⟨Z, hz.1⟩
/-- one more, its row known among what is frozen -/
theorem Ds.snoc {v : Value} {out : List S142} (h : Ds M0 Z0 W0 W Φ v out) (x : S142) (A : Option Addr) (c : Nat) (hx : ∀ Z, Φ.at_ W Z → (HP.val KI (.slice A x.f2.length c) x.f2).at_ W Z) (hb : out.length ≤ 1000000) :
    ∃ A1 c1 w1, (Builtin.append_ #[96, 96] 96 #[v, .slice (some ⟨W.heap.size, 0, none⟩) 1 1]).run Try.prog (W.alloc (.cells #[.int .i64 x.f0, .int .i64 x.f1, .slice A x.f2.length c] 142)) = .ok (.slice A1 (out ++ [x]).length c1) w1 ∧ Ds M0 Z0 W0 w1 Φ (.slice A1 (out ++ [x]).length c1) (out ++ [x]) := by
  obtain ⟨cells, h⟩ := h
  have h2 := h.imp (Φ' := Φ.and (HP.reps k142 (out ++ [x]) (cells ++ [.int .i64 x.f0, .int .i64 x.f1, .slice A x.f2.length c]))) (fun Z hz => ⟨hz.1, HP.reps_snoc hz.2 (delta_kind (hx Z hz.1))⟩)
  obtain ⟨v1, w1, hrun, H⟩ := h2.app1 (P := Try.prog) 0 96 96 142 (.agg #[(.int .i64 0), (.int .i64 0), (.slice none 0 0)]) 3 40 rfl (Nat.le_refl _) Try.underlying96 info142 rfl (by omega) (by omega) [.int .i64 x.f0, .int .i64 x.f1, .slice A x.f2.length c] rfl (delta_one x A c) (by omega)
  obtain ⟨A1, c1, rfl, _⟩ := HP.raw_form (H.get 0 rfl).choose_spec
  have e : out.length + 1 = (out ++ [x]).length := by simp
  rw [e] at hrun H
  exact ⟨A1, c1, w1, hrun, _, H⟩
theorem Ds.done {v : Value} {out : List S142} (h : Ds (fun _ => False) Z0 W0 W Φ v out) : Below W0.heap.size W0 W ∧ (HP.val k142 v out).at_ W (fun k => Z0 k ∨ W0.heap.size ≤ k) := by
  obtain ⟨cells, h⟩ := h
  exact ((h.freezeRow 0 rfl (Nat.le_refl _)).imp (Φ' := HP.val k142 v out) (fun Z hz => HP.val_of (d := k142) hz.2 hz.1.2)).done0
/-- the rows that are kept: as they were cut off, or in a row of the call's own -/
def Kept (M0 Z0 : Nat → Prop) (W0 W : World) (Φ : HP) (Ψs : List HP) (v : Value) (L : List (List Int)) : Prop := (∃ A, v = .slice A L.length L.length ∧ Cx M0 Z0 W0 W (Φ.and (HP.val KR v L)) Ψs) ∨ ∃ cells, Cx M0 Z0 W0 W (Φ.and (HP.reps KR L cells)) (Ψs ++ [HP.raw W0.heap.size 22 1 v L.length cells])
variable {Ψs : List HP}
theorem Kept.form {v : Value} {L : List (List Int)} (h : Kept M0 Z0 W0 W Φ Ψs v L) : ∃ A c, v = .slice A L.length c := by
  rcases h with ⟨A, rfl, _⟩ | ⟨cells, h⟩
  · exact ⟨A, _, rfl⟩
  · obtain ⟨A, c, rfl, _⟩ := HP.raw_form (h.get Ψs.length (last_get _ _)).choose_spec
    exact ⟨A, c, rfl⟩
theorem Kept.skip {v : Value} {L : List (List Int)} (h : Kept M0 Z0 W0 W Φ Ψs v L) (hb : Below W.heap.size W W1) : Kept M0 Z0 W0 W1 Φ Ψs v L := by
  rcases h with ⟨A, h1, h⟩ | ⟨cells, h⟩
  · exact .inl ⟨A, h1, h.skip hb⟩
  · exact .inr ⟨cells, h.skip hb⟩
theorem Kept.now {v : Value} {L : List (List Int)} (h : Kept M0 Z0 W0 W Φ Ψs v L) : ∃ Z, Φ.at_ W Z := by
  rcases h with ⟨A, h1, h⟩ | ⟨cells, h⟩
  · obtain ⟨Z, hz⟩ := h.now; exact ⟨Z, hz.1⟩
  · obtain ⟨Z, hz⟩ := h.now; exact ⟨Z, hz.1⟩
theorem Kept.know {v : Value} {L : List (List Int)} {x : List Int} {vx : Value} (h : Kept M0 Z0 W0 W Φ Ψs v L) (hb : Below W.heap.size W W1) (hx : (HP.val KI vx x).at_ W1 (fun k => W.heap.size ≤ k)) : Kept M0 Z0 W0 W1 (Φ.and (HP.val KI vx x)) Ψs v L := by
  have hx' : ∀ Z : Nat → Prop, (HP.val KI vx x).at_ W1 (fun k => Z k ∨ W.heap.size ≤ k) := fun Z => HP.mono hx (fun k hk _ => .inr hk)
  rcases h with ⟨A, h1, h⟩ | ⟨cells, h⟩
  · obtain ⟨Z, _, hn⟩ := h.pure
    exact .inl ⟨A, h1, (hn _ _ hb (hx' Z)).imp (fun Z hz => ⟨⟨hz.1.1, hz.2⟩, hz.1.2⟩)⟩
  · obtain ⟨Z, _, hn⟩ := h.pure
    exact .inr ⟨cells, (hn _ _ hb (hx' Z)).imp (fun Z hz => ⟨⟨hz.1.1, hz.2⟩, hz.1.2⟩)⟩
theorem Kept.drop {v : Value} {L : List (List Int)} (h : Kept M0 Z0 W0 W (Φ.and Φ') Ψs v L) : Kept M0 Z0 W0 W Φ Ψs v L := by
  rcases h with ⟨A, h1, h⟩ | ⟨cells, h⟩
  · exact .inl ⟨A, h1, h.imp (fun Z hz => ⟨hz.1.1, hz.2⟩)⟩
  · exact .inr ⟨cells, h.imp (fun Z hz => ⟨hz.1.1, hz.2⟩)⟩
theorem Kept.cells {v : Value} {L : List (List Int)} (h : Kept M0 Z0 W0 W Φ Ψs v L) (i : Nat) {Ψ : HP} (hi : Ψs[i]? = some Ψ) : ∃ Z, Ψ.at_ W Z := by
  rcases h with ⟨A, h1, h⟩ | ⟨cells, h⟩
  · exact h.get i hi
  · exact h.get i (by rw [List.getElem?_append_left (List.getElem?_eq_some_iff.1 hi).1]; exact hi)
theorem row_one (A : Option Addr) (n c : Nat) : ∀ u ∈ [Value.slice A n c], u.oneCell' = true := by
  intro u hu
  rw [List.mem_singleton.1 hu]
  rfl
theorem Kept.snoc {v : Value} {L : List (List Int)} (h : Kept M0 Z0 W0 W Φ Ψs v L) (x : List Int) (A : Option Addr) (c : Nat) (hx : ∀ Z, Φ.at_ W Z → (HP.val KI (.slice A x.length c) x).at_ W Z) (hb : L.length ≤ 1000000) :
    ∃ A1 c1 w1, (Builtin.append_ #[38, 38] 38 #[v, .slice (some ⟨W.heap.size, 0, none⟩) 1 1]).run Try.prog (W.alloc (.cells #[.slice A x.length c] 22)) = .ok (.slice A1 (L ++ [x]).length c1) w1 ∧ Kept M0 Z0 W0 w1 Φ Ψs (.slice A1 (L ++ [x]).length c1) (L ++ [x]) := by
  have e : L.length + 1 = (L ++ [x]).length := by simp
  have hnew : ∀ (j : Nat) (u : Value), [Value.slice A x.length c][j]? = some u → (W.alloc (.cells #[.slice A x.length c] 22)).cell? ((⟨W.heap.size, 0, none⟩ : Addr).add j) = some u := fun j u hj => by
    rw [add_plain]
    exact cell_blk (hp_alloc_new _ _) (by simpa using hj)
  rcases h with ⟨A0, rfl, h⟩ | ⟨cells, h⟩
  · obtain ⟨cells, ⟨hcl, hone, hsrc⟩, h4⟩ := h.more (R := fun cs : List Value => cs.length = L.length ∧ (∀ u ∈ cs, u.oneCell' = true) ∧ (0 < L.length → ∃ ad, A0 = some ad ∧ ∀ j u, cs[j]? = some u → W.cell? (ad.add j) = some u)) (Φ' := fun cs => HP.reps KR L cs) (fun Z hz => by
      obtain ⟨cs, h1, h2, h3, h4⟩ := rd_cells (d := KR) rfl (HP.val_rd hz.2)
      exact ⟨cs, ⟨h1, h3, h4⟩, h2⟩)
    have h5 := h4.imp (Φ' := Φ.and (HP.reps KR (L ++ [x]) (cells ++ [.slice A x.length c]))) (fun Z hz => ⟨hz.1.1, HP.reps_snoc hz.2 (HP.kind_val (hx Z hz.1.1))⟩)
    rcases A0 with _ | b
    · have hL : L.length = 0 := by
        rcases Nat.eq_zero_or_pos L.length with h0 | h0
        · exact h0
        · obtain ⟨_, h1, _⟩ := hsrc h0
          cases h1
      obtain rfl : L = [] := List.eq_nil_of_length_eq_zero hL
      obtain rfl : cells = [] := List.eq_nil_of_length_eq_zero hcl
      obtain ⟨v1, w1, hrun, H⟩ := (h5.add (HP.raw_nil W0.heap.size 22 1 _ _)).app1 (P := Try.prog) Ψs.length 38 38 22 (.slice none 0 0) 1 24 (last_get _ _) (Nat.le_refl _) Try.underlying38 infoR rfl (by omega) (by omega) [.slice A x.length c] rfl (row_one A x.length c) (by omega)
      rw [List.set_append_right _ _ (Nat.le_refl _), Nat.sub_self] at H
      obtain ⟨A1, c1, rfl, _⟩ := HP.raw_form (H.get Ψs.length (last_get _ _)).choose_spec
      exact ⟨A1, c1, w1, hrun, .inr ⟨_, H⟩⟩
    · obtain ⟨A1, c1, w1, hrun, H⟩ := (h5.junk (.cells #[.slice A x.length c] 22)).app_full (P := Try.prog) 38 38 22 (.slice none 0 0) 1 24 Try.underlying38 infoR rfl (by omega) (by omega) b L.length L.length cells (by omega) (fun j u hj => by
        have hp : 0 < L.length := by have := (List.getElem?_eq_some_iff.1 hj).1; omega
        obtain ⟨ad, h1, h2⟩ := hsrc hp
        injection h1 with h1
        subst h1
        exact cell_al (h2 j u hj) _) ⟨W.heap.size, 0, none⟩ 1 1 [.slice A x.length c] rfl hnew (by omega) (by omega)
      rw [e] at hrun H
      exact ⟨A1, c1, w1, hrun, .inr ⟨_, H⟩⟩
  · have h5 := h.imp (Φ' := Φ.and (HP.reps KR (L ++ [x]) (cells ++ [.slice A x.length c]))) (fun Z hz => ⟨hz.1, HP.reps_snoc hz.2 (HP.kind_val (hx Z hz.1))⟩)
    obtain ⟨v1, w1, hrun, H⟩ := h5.app1 (P := Try.prog) Ψs.length 38 38 22 (.slice none 0 0) 1 24 (last_get _ _) (Nat.le_refl _) Try.underlying38 infoR rfl (by omega) (by omega) [.slice A x.length c] rfl (row_one A x.length c) (by omega)
    rw [List.set_append_right _ _ (Nat.le_refl _), Nat.sub_self] at H
    obtain ⟨A1, c1, rfl, _⟩ := HP.raw_form (H.get Ψs.length (last_get _ _)).choose_spec
    rw [e] at hrun H
    exact ⟨A1, c1, w1, hrun, .inr ⟨_, H⟩⟩
theorem Kept.cx {v : Value} {L : List (List Int)} (h : Kept M0 Z0 W0 W Φ Ψs v L) : Cx M0 Z0 W0 W (Φ.and (HP.val KR v L)) Ψs := by
  rcases h with ⟨A, rfl, h⟩ | ⟨cells, h⟩
  · exact h
  · have h2 := ((h.freezeRow Ψs.length (last_get _ _) (Nat.le_refl _)).imp (Φ' := Φ.and (HP.val KR v L)) (fun Z hz => ⟨hz.1.1, HP.val_of (d := KR) hz.2 hz.1.2⟩)).take Ψs.length
    rwa [List.set_append_right _ _ (Nat.le_refl _), List.take_left] at h2
end
end Go.Proofs.Ytpakcfbjjlmcaaa.Tape
