/- The methods of a window's best. No condition. -/
import Derived.Test.YtpakcfbjjlmcaaaProg
import Derived.Test.YtpakcfbjjlmcaaaCut
import Derived.Test.YtpakcfbjjlmcaaaDequePure
set_option linter.unusedVariables false
set_option linter.unusedSimpArgs false
set_option maxHeartbeats 1600000
set_option maxRecDepth 100000
namespace Go.Proofs.Ytpakcfbjjlmcaaa.Deque
open Go.RowKit Go.RK Go.DQ Go.Proofs.YtpakcfbjjlmcaaaW.PrintWords
theorem infoD : (Try.prog.info? 139).map (fun i => (i.zero, i.size, i.bytes)) = some (some (.agg #[.int .i64 0, .int .i64 0]), 2, 16) := by kernel_rfl
theorem infoN : (Try.prog.info? 2).map (fun i => (i.zero, i.size, i.bytes)) = some (some (.int .i64 0), 1, 8) := by kernel_rfl
/-- an entry's cells -/
def ec (e : Int × Int) : List Value := [.int .i64 e.1, .int .i64 e.2]
def ecs (E : List (Int × Int)) : List Value := E.flatMap ec
theorem ecs_len : ∀ E : List (Int × Int), (ecs E).length = E.length * 2
  | [] => rfl
  | e :: E => by
    have := ecs_len E
    simp only [ecs, List.flatMap_cons, List.length_append, List.length_cons] at this ⊢
    rw [this]
    simp [ec]; omega
theorem ecs_take : ∀ (j : Nat) (E : List (Int × Int)), (ecs E).take (j * 2) = ecs (E.take j)
  | 0, E => by simp [ecs]
  | j + 1, [] => by simp [ecs]
  | j + 1, e :: E => by
    have h := ecs_take j E
    have e2 : (j + 1) * 2 = j * 2 + 1 + 1 := by omega
    simp only [ecs, List.flatMap_cons, ec, List.take_succ_cons, List.cons_append, List.nil_append, e2] at h ⊢
    rw [h]
theorem ecs_at : ∀ (j : Nat) (E : List (Int × Int)) (e : Int × Int), E[j]? = some e → (ecs E)[j * 2]? = some (.int .i64 e.1) ∧ (ecs E)[j * 2 + 1]? = some (.int .i64 e.2)
  | _, [], e, h => by simp at h
  | 0, x :: E, e, h => by
    obtain rfl : x = e := by simpa using h
    exact ⟨rfl, rfl⟩
  | j + 1, x :: E, e, h => by
    have := ecs_at j E e (by simpa using h)
    have e2 : (j + 1) * 2 = j * 2 + 1 + 1 := by omega
    rw [e2]
    exact this
abbrev dE : Kd (Int × Int) := Kd.pair (Kd.int .i64) (Kd.int .i64)
theorem reps_ecs (E : List (Int × Int)) {W : World} {M : Nat → Prop} : (HP.reps dE E (ecs E)).at_ W M := fun W' _ => by
  refine ⟨ecs_len E, fun j e hj => ⟨[.int .i64 e.1], [.int .i64 e.2], ?_, rfl, rfl⟩⟩
  have h := ecs_at j E e hj
  have hl : j < E.length := (List.getElem?_eq_some_iff.1 hj).1
  have hl2 := ecs_len E
  apply List.ext_getElem?
  intro i
  rw [List.getElem?_take]
  show (if i < 2 then _ else none) = _
  rw [List.getElem?_drop]
  show (if i < 2 then (ecs E)[j * 2 + i]? else none) = _
  rcases i with _ | _ | i
  · rw [if_pos (by omega)]; exact h.1
  · rw [if_pos (by omega)]; exact h.2
  · rw [if_neg (by omega)]; simp
variable {W : World} {M Z : Nat → Prop} {g : Nat} {least : Bool} {most came passed : Int} {E : List (Int × Int)} {L : List Int}
/-- the block and the entries -/
def Dq (g : Nat) (least : Bool) (most came passed : Int) (v : Value) (E : List (Int × Int)) : HP :=
  HP.sep (HP.blk g (.cells #[v, .bool least, .int .i64 most, .int .i64 came, .int .i64 passed] 132 (0, 0))) (HP.raw 0 139 2 v E.length (ecs E))
/-- the window at g holds L, the first of which came as number p -/
def DqH (g : Nat) (least : Bool) (most p : Int) (L : List Int) : HP := HP.ex (fun v : Value => Dq g least most (p + L.length) p v (kept least p L))
theorem DqH.opn {p : Int} (h : (DqH g least most p L).at_ W M) : ∃ A c, (Dq g least most (p + L.length) p (.slice A (kept least p L).length c) (kept least p L)).at_ W M := by
  obtain ⟨v, h⟩ := h
  obtain ⟨a, b, h0, h1, h2⟩ := id h
  obtain ⟨A, c, rfl, hl⟩ := HP.raw_form h1
  exact ⟨A, c, h⟩
theorem does_of {v : Value} {p : Int} {Φ : HP} {W1 : World} (h : Does W M Z Φ (Dq g least most (p + L.length) p v (kept least p L)) W1) : Does W M Z Φ (DqH g least most p L) W1 :=
  let ⟨M1, a, b, c⟩ := h.ex; ⟨h.fr, M1, ⟨v, a⟩, b, c⟩
theorem start2 {Φ : HP} {v : Value} (h : (Dq g least most came passed v E).at_ W M) (hf : Φ.at_ W Z) (hd : ∀ k, Z k → ¬ M k) : Cx M Z W W Φ [HP.blk g (.cells #[v, .bool least, .int .i64 most, .int .i64 came, .int .i64 passed] 132 (0, 0)), HP.raw 0 139 2 v E.length (ecs E)] :=
  (Cx.start h hf hd).split 0 rfl
theorem done2 {M0 Z0 : Nat → Prop} {W0 : World} {Φ : HP} {v : Value} {rest : List HP} {p : Int} {n : Nat} {cells : List Value} (h : Cx M0 Z0 W0 W Φ ([HP.blk g (.cells #[v, .bool least, .int .i64 most, .int .i64 came, .int .i64 passed] 132 (0, 0)), HP.raw 0 139 2 v n cells] ++ rest)) (hE : cells = ecs (kept least p L)) (hn : n = (kept least p L).length) (hc : came = p + L.length) (hp : passed = p) : Does W0 M0 Z0 Φ (DqH g least most p L) W := by
  subst hE hn hc hp
  exact does_of ((h.glue 0 1 (by decide) rfl rfl).done 0 rfl)

theorem new_made (m : Int) (h1 : 1 ≤ m) (h2 : m ≤ 64) : Calls Try.prog 46 #[.bool least, .int .i64 m] W fun e w' => ∃ g, e = .returned (.tuple #[.pointer (some ⟨g, 0, none⟩), .int .i64 0]) ∧ Below W.heap.size W w' ∧ (DqH g least m 0 []).at_ w' (fun k => W.heap.size ≤ k) := by
  have hu := Try.underlying132
  go_enter Try.func46, Try.ntmps46
  go_wp2
  go_ret2
  exact ⟨W.heap.size, rfl, (Below.refl _ _).alloc (Nat.le_refl _) _, .slice none 0 0, fun k => k = W.heap.size, fun _ => False, ⟨hp_alloc_new _ _, rfl⟩, HP.raw_nil _ _ _ _ _, fun k hk => by omega, fun k hk => hk.elim, fun k _ hk => hk⟩
theorem new_no (m : Int) (h : ¬ (1 ≤ m ∧ m ≤ 64)) : Calls Try.prog 46 #[.bool least, .int .i64 m] W fun e w' => e = .returned (.tuple #[.pointer none, .int .i64 1]) ∧ w' = W := by
  have H := Lib.hid h
  clear h
  by_cases h1 : m < 1
  · go_enter Try.func46, Try.ntmps46
    go_wp2
    go_ret2
    exact ⟨rfl, rfl⟩
  · have h2 : 64 < m := by have := H.out; omega
    go_enter Try.func46, Try.ntmps46
    go_wp2
    go_ret2
    exact ⟨rfl, rfl⟩
theorem len_nil : Calls Try.prog 54 #[.pointer none] W fun e w' => e = .returned (.int .i64 0) ∧ w' = W := by
  go_enter Try.func54, Try.ntmps54
  go_wp2
  go_ret
  exact ⟨rfl, rfl⟩
theorem len_blk {v b m : Value} (n : Int) (h : W.heap[g]? = some (.cells #[v, b, m, .int .i64 came, .int .i64 passed] 132 (0, 0))) (hn : Hid (came - passed = n)) (h1 : 0 ≤ passed) (h2 : passed ≤ came) (h3 : came ≤ 1000000) :
    Calls Try.prog 54 #[.pointer (some ⟨g, 0, none⟩)] W fun e w' => e = .returned (.int .i64 n) ∧ Below W.heap.size W w' := by
  have c3 : W.cell? ⟨g, 3, none⟩ = some (.int .i64 came) := cell_blk h rfl
  have c4 : W.cell? ⟨g, 4, none⟩ = some (.int .i64 passed) := cell_blk h rfl
  have hw : IntKind.i64.wrap (came - passed) = n := by rw [hn.out]; have := hn.out; exact IntWalk.i64_in _ (by omega)
  clear h
  go_enter Try.func54, Try.ntmps54
  go_wp2
  go_quiet (fail)
  go_wp2
  go_ret
  exact ⟨rfl, pw_below_drewN (Below.refl _ _) _⟩
theorem len_dq {p : Int} (h : (DqH g least most p L).at_ W M) (h1 : 0 ≤ p) (h2 : p + L.length ≤ 1000000) :
    Calls Try.prog 54 #[.pointer (some ⟨g, 0, none⟩)] W fun e w' => e = .returned (.int .i64 L.length) ∧ Below W.heap.size W w' := by
  obtain ⟨v, a, b, h0, _⟩ := h
  exact len_blk _ h0.1 (Lib.hid (by omega)) h1 (by omega) h2

/-- the function that Push makes: does the new number beat an old one? -/
theorem by_calls {b2 b3 : Nat} (n old : Int) (h2 : W.cell? ⟨b2, 0, none⟩ = some (.pointer (some ⟨g, 0, none⟩))) (h3 : W.cell? ⟨b3, 0, none⟩ = some (.int .i64 n)) (hl : W.cell? ⟨g, 1, none⟩ = some (.bool least)) :
    Calls Try.prog 84 #[.int .i64 old, .pointer (some ⟨b2, 0, none⟩), .pointer (some ⟨b3, 0, none⟩)] W fun e w' => e = .returned (.bool (bt least n old)) ∧ Below W.heap.size W w' := by
  cases least with
  | true =>
    go_enter Try.func84, Try.ntmps84
    go_wp2
    go_ret
    exact ⟨rfl, Below.refl _ _⟩
  | false =>
    go_enter Try.func84, Try.ntmps84
    go_wp2
    go_ret
    exact ⟨rfl, Below.refl _ _⟩
end Go.Proofs.Ytpakcfbjjlmcaaa.Deque
