/- Push of a window's best: what is beaten goes, the new one is put behind. No condition. -/
import Derived.Test.YtpakcfbjjlmcaaaDeque
import Derived.Deep.LoopGhost
import Derived.Deep.RegionLaw
set_option linter.unusedVariables false
set_option linter.unusedSimpArgs false
set_option maxHeartbeats 3200000
set_option maxRecDepth 100000
namespace Go.Proofs.Ytpakcfbjjlmcaaa.Deque
open Go.RowKit Go.RK Go.DQ Go.Proofs.YtpakcfbjjlmcaaaW.PrintWords
variable {W : World} {M Z : Nat → Prop} {g : Nat} {least : Bool} {most came passed : Int} {E : List (Int × Int)} {L : List Int}
abbrev byf (b2 b3 : Nat) : Value := .func (.func 84) #[] #[.pointer (some ⟨b2, 0, none⟩), .pointer (some ⟨b3, 0, none⟩)]
theorem drop_snoc {E : List (Int × Int)} {j : Nat} {e : Int × Int} (h : E[j]? = some e) : E.drop j = e :: E.drop (j + 1) := by
  obtain ⟨hj, rfl⟩ := List.getElem?_eq_some_iff.1 h
  exact List.drop_eq_getElem_cons hj
theorem beaten_cx {M0 Z0 : Nat → Prop} {W0 : World} {Φ : HP} {A : Option Addr} {c b2 b3 : Nat} (n : Int) (hE : E.length ≤ 1000)
    (H0 : Aside0 (Cx M0 Z0 W0 W Φ [HP.blk g (.cells #[.slice A E.length c, .bool least, .int .i64 most, .int .i64 came, .int .i64 passed] 132 (0, 0)), HP.raw 0 139 2 (.slice A E.length c) E.length (ecs E), HP.blk b2 (.cells #[.pointer (some ⟨g, 0, none⟩)] 77 (0, 0)), HP.blk b3 (.cells #[.int .i64 n] 2 (0, 0))])) :
    Calls Try.prog 83 #[.pointer (some ⟨g, 0, none⟩), byf b2 b3] W fun e w' => e = .returned (.tuple #[]) ∧ ∃ j, j ≤ E.length ∧ (∀ e ∈ E.drop j, bt least n e.1 = true) ∧ (∀ e, (E.take j).getLast? = some e → bt least n e.1 = false) ∧
      Cx M0 Z0 W0 w' Φ [HP.blk g (.cells #[.slice A j c, .bool least, .int .i64 most, .int .i64 came, .int .i64 passed] 132 (0, 0)), HP.raw 0 139 2 (.slice A j c) j (ecs (E.take j)), HP.blk b2 (.cells #[.pointer (some ⟨g, 0, none⟩)] 77 (0, 0)), HP.blk b3 (.cells #[.int .i64 n] 2 (0, 0))] := by
  have hE0 : ecs E = ecs (E.take E.length) := by rw [List.take_length]
  go_enter Try.func83, Try.ntmps83
  go_wp2
  go_loopg [26] E.length (fun j v wr => j ≤ E.length ∧ Hid (∀ e ∈ E.drop j, bt least n e.1 = true) ∧ Aside0 (Cx M0 Z0 W0 wr Φ [HP.blk g (.cells #[.slice A j c, .bool least, .int .i64 most, .int .i64 came, .int .i64 passed] 132 (0, 0)), HP.raw 0 139 2 (.slice A j c) j (ecs (E.take j)), HP.blk b2 (.cells #[.pointer (some ⟨g, 0, none⟩)] 77 (0, 0)), HP.blk b3 (.cells #[.int .i64 n] 2 (0, 0))]))
  case atStart => exact ⟨Nat.le_refl _, Lib.hid (by simp), by rw [← hE0]; exact H0⟩
  case round =>
    clear H0
    obtain ⟨hj, hb, H1⟩ := hrel
    rcases hgk : gk with _ | k
    · subst hgk
      have k0 := H1.out.cell 0 rfl 0 rfl
      go_wp2
      go_quiet (fail)
      go_wp2
      go_end0
      exact ⟨rfl, 0, by omega, hb.out, by simp, H1.out.drewN _⟩
    · have hk : k < E.length := by omega
      have hjl : Hid (gk = k + 1) := Lib.hid hgk
      have hw : IntKind.i64.wrap ((gk : Int) - 1) = (k : Int) := by rw [hgk, show (((k + 1 : Nat) : Int) - 1) = k by omega]; exact IntWalk.i64_in _ (by omega)
      have hg0 : (0 : Int) < gk := by omega
      have hg1 : 0 < gk := by omega
      have hk0 : (0 : Int) ≤ k := by omega
      have hk1 : (k : Int) < gk := by omega
      obtain ⟨e, he⟩ : ∃ e, E[k]? = some e := ⟨_, List.getElem?_eq_getElem hk⟩
      have hek : (E.take gk)[k]? = some e := by rw [List.getElem?_take_of_lt (by omega)]; exact he
      obtain ⟨ad, rfl, _, _, _⟩ := raw_cellN (H1.out.get 1 rfl).choose_spec (k * 2) _ (ecs_at k _ e hek).1
      have hrd : ∀ {W' : World} {M' : Nat → Prop} {B : Option Addr} {n c : Nat} {cs : List Value}, B = some ad → cs[k * 2]? = some (.int .i64 e.1) → (HP.raw 0 139 2 (.slice B n c) n cs).at_ W' M' → W'.cell? (ad.add (k * 2)) = some (.int .i64 e.1) := by
        intro W' M' B n c cs hB hcs hr
        subst hB
        obtain ⟨ad', h1, _, _, h2⟩ := raw_cellN hr _ _ hcs
        injection h1 with h1
        rw [h1]; exact h2
      replace hrd := Aside0.mk @hrd
      have hc := Aside0.mk (ecs_at k _ e hek).1
      have hcap : gk ≤ c := by obtain ⟨_, _, h1, h2⟩ := HP.raw_form (H1.out.get 1 rfl).choose_spec; injection h1 with _ _ h1; omega
      replace he := Lib.hid he
      clear hgk hek
      generalize hB : bt least n e.1 = b
      have hby : ∀ {W : World}, W.cell? ⟨b2, 0, none⟩ = some (.pointer (some ⟨g, 0, none⟩)) → W.cell? ⟨b3, 0, none⟩ = some (.int .i64 n) → W.cell? ⟨g, 1, none⟩ = some (.bool least) → Calls Try.prog 84 #[.int .i64 e.1, .pointer (some ⟨b2, 0, none⟩), .pointer (some ⟨b3, 0, none⟩)] W fun e w' => e = .returned (.bool b) ∧ Below W.heap.size W w' := by
        intro W h1 h2 h3
        rw [← hB]
        exact by_calls n e.1 h1 h2 h3
      replace hby := Aside0.mk @hby
      replace hB := Lib.hid hB
      generalize he1 : e.1 = e1 at *
      replace he1 := Lib.hid he1
      cases b with
      | true =>
        go_wp2
        go_region_held3 (fun w' => w'.cell? ⟨g, 0, none⟩ = some (.slice (some ad) gk c) ∧ w'.cell? (ad.add (k * 2)) = some (.int .i64 e1)) (exact ⟨H1.out.cell 0 rfl 0 rfl, hrd.out rfl hc.out (H1.out.get 1 rfl).choose_spec⟩)
          (first | (go_at_call 84; refine (hby.out (H1.out.drew.cell 2 rfl 0 rfl) (H1.out.drew.cell 3 rfl 0 rfl) (H1.out.drew.cell 0 rfl 1 rfl)).mono ?_; rintro e Wh ⟨rfl, hb2⟩; replace H1 := Aside0.mk (H1.out.drew.skip hb2); clear hb2))
        rename_i hHeld
        clear hHeld
        have k0 := H1.out.cell 0 rfl 0 rfl
        have kf := fun j => H1.out.unfrozen 0 rfl j
        have hkc : (k : Int) ≤ c := by omega
        go_wp2
        go_region
        all_goals
          go_wp2
          go_roundg k
          case rel =>
            refine ⟨by omega, Lib.hid (fun x hx => ?_), ⟨?_⟩⟩
            · rw [drop_snoc he.out] at hx
              rcases List.mem_cons.1 hx with rfl | hx
              · rw [he1.out]; exact hB.out
              · exact hb.out x (by rw [hjl.out]; exact hx)
            · have h := ((H1.out.put 0 rfl 0 (.slice (some ad) k c)).impi 1 rfl (fun M hM => HP.raw_shrink hM k (by omega))).drew
              rw [ecs_take, List.take_take, Nat.min_eq_left (by omega)] at h
              exact h
          case measure => omega
      | false =>
        go_wp2
        go_region_held3 (fun w' => w'.cell? ⟨g, 0, none⟩ = some (.slice (some ad) gk c) ∧ w'.cell? (ad.add (k * 2)) = some (.int .i64 e1)) (exact ⟨H1.out.cell 0 rfl 0 rfl, hrd.out rfl hc.out (H1.out.get 1 rfl).choose_spec⟩)
          (first | (go_at_call 84; refine (hby.out (H1.out.drew.cell 2 rfl 0 rfl) (H1.out.drew.cell 3 rfl 0 rfl) (H1.out.drew.cell 0 rfl 1 rfl)).mono ?_; rintro e Wh ⟨rfl, hb2⟩; replace H1 := Aside0.mk (H1.out.drew.skip hb2); clear hb2))
        rename_i hHeld
        clear hHeld
        go_wp2
        go_end0
        refine ⟨rfl, gk, hj, hb.out, fun x hx => ?_, H1.out⟩
        rw [hjl.out, List.take_succ_eq_append_getElem hk, List.getLast?_append] at hx
        have h2 := he.out
        rw [List.getElem?_eq_getElem hk] at h2
        injection h2 with h2
        rw [h2] at hx
        have hx : e = x := by simpa using hx
        rw [← hx, he1.out]
        exact hB.out

theorem put_cx {M0 Z0 : Nat → Prop} {W0 : World} {Φ : HP} {v : Value} {k : Nat} {b m p : Value} {rest : List HP} (n at_ : Int) (hE : k ≤ 1000)
    (H0 : Aside0 (Cx M0 Z0 W0 W Φ ([HP.blk g (.cells #[v, b, m, .int .i64 came, p] 132 (0, 0)), HP.raw 0 139 2 v k (ecs E)] ++ rest))) :
    Calls Try.prog 85 #[.pointer (some ⟨g, 0, none⟩), .agg #[.int .i64 n, .int .i64 at_]] W fun e w' => e = .returned (.tuple #[]) ∧ ∃ A c, Cx M0 Z0 W0 w' Φ ([HP.blk g (.cells #[.slice A (k + 1) c, b, m, .int .i64 came, p] 132 (0, 0)), HP.raw 0 139 2 (.slice A (k + 1) c) (k + 1) (ecs (E ++ [(n, at_)]))] ++ rest) := by
  obtain ⟨A, c, rfl, hc⟩ := HP.raw_form (H0.out.get 1 rfl).choose_spec
  have H1 := Aside0.mk (H0.out.allocF (.cells #[.int .i64 n, .int .i64 at_] 139 (0, 0)))
  obtain ⟨v1, w1, hrun, H2⟩ := H1.out.app1d (P := Try.prog) 1 128 128 139 (.agg #[.int .i64 0, .int .i64 0]) 2 16 rfl (Nat.zero_le _) Try.underlying128 infoD rfl (by omega) (by omega) [.int .i64 n, .int .i64 at_] rfl (by intro u hu; rcases List.mem_cons.1 hu with rfl | hu; rfl; rw [List.mem_singleton.1 hu]; rfl) (by omega)
  obtain ⟨A1, c1, rfl, _⟩ := HP.raw_form (H2.get 1 rfl).choose_spec
  replace hrun := Aside0.mk hrun
  replace H2 := Aside0.mk H2
  have k0 := H1.out.cell 0 rfl 0 rfl
  have k0' := cell_al (H1.out.cell 0 rfl 0 rfl)
  have q0 := H2.out.cell 0 rfl 0 rfl
  have qf := fun j => H2.out.unfrozen 0 rfl j
  go_enter Try.func85, Try.ntmps85
  go_wp2
  go_region_law ((refine step_app (by rfl) (by rfl) (by rfl) (by rfl) hrun.out ?_))
  all_goals
    go_wp2
    go_end0
    exact ⟨rfl, A1, c1, by have h := (H2.out.put 0 rfl 0 (.slice A1 (k + 1) c1)).fst; rw [show ecs (E ++ [(n, at_)]) = ecs E ++ [.int .i64 n, .int .i64 at_] by simp [ecs, ec]]; exact h⟩
end Go.Proofs.Ytpakcfbjjlmcaaa.Deque
