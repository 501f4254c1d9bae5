/- A small separation logic: what is held of blocks, in zones apart; how each step of a walk moves it. No condition. -/
import Derived.Test.YtbndpdjpfehdnaaKit
import Derived.Test.YtbndpdjpfehdnaaWMore
set_option linter.unusedVariables false
set_option linter.unusedSimpArgs false
namespace Go.RK
open Go.RowKit Go.Proofs.YtbndpdjpfehdnaaW.PrintWords

/-- What is held of blocks that lie in a zone. -/
structure HP where
  at_ : World → (Nat → Prop) → Prop
  move : ∀ {W W1 : World} {M M1 : Nat → Prop}, at_ W M → (∀ k, M k → k < W.heap.size → W1.heap[k]? = W.heap[k]? ∧ M1 k) → at_ W1 M1
namespace HP
theorem mono {A : HP} {W : World} {M M1 : Nat → Prop} (h : A.at_ W M) (hm : ∀ k, M k → k < W.heap.size → M1 k) : A.at_ W M1 := A.move h (fun k hk hl => ⟨rfl, hm k hk hl⟩)
theorem step {A : HP} {W W1 : World} {M : Nat → Prop} (h : A.at_ W M) (hm : ∀ k, M k → k < W.heap.size → W1.heap[k]? = W.heap[k]?) : A.at_ W1 M := A.move h (fun k hk hl => ⟨hm k hk hl, hk⟩)
def tt : HP := ⟨fun _ _ => True, fun _ _ => trivial⟩
def and (A B : HP) : HP := ⟨fun W M => A.at_ W M ∧ B.at_ W M, fun h hm => ⟨A.move h.1 hm, B.move h.2 hm⟩⟩
def pure (p : Prop) : HP := ⟨fun _ _ => p, fun h _ => h⟩
def ex {α : Type} (A : α → HP) : HP := ⟨fun W M => ∃ x, (A x).at_ W M, fun ⟨x, h⟩ hm => ⟨x, (A x).move h hm⟩⟩
/-- a block -/
def blk (g : Nat) (o : Obj) : HP := ⟨fun W M => W.heap[g]? = some o ∧ M g, fun h hm => by
  have := hm g h.2 (lt_of_blk h.1)
  exact ⟨this.1.trans h.1, this.2⟩⟩
/-- a row that is read -/
def rd {α : Type} (d : Kd α) (A : Option Addr) (xs : List α) : HP := ⟨fun W M => Kd.F d W M A xs.length xs, fun h hm =>
  Kd.F_mono (Kd.F_step (Kd.F_mono (Kd.F_bound h) (fun k hk => (⟨hk.1, hk.2, (hm k hk.1 hk.2).2⟩ : _ ∧ _ ∧ _))) (fun k hk _ => (hm k hk.1 hk.2.1).1)) (fun k hk => hk.2.2)⟩
/-- a value that reads as a row -/
def val {α : Type} (d : Kd α) (v : Value) (xs : List α) : HP := ⟨fun W M => Kd.V d 0 W 0 M v xs, fun h hm =>
  Kd.V_map h (fun A hf => (rd d A xs).move hf hm)⟩
/-- a row of the call's own, that may be written and appended to -/
def own {α : Type} (d : Kd α) (e : Nat) (v : Value) (xs : List α) : HP := ⟨fun W M => d.R e W 0 M v xs, fun h hm =>
  Kd.R_mono (Kd.R_step (Kd.R_mono (Kd.R_bound h) (fun k hk => (⟨hk.1, hk.2.2.1, (hm k hk.1 hk.2.2.1).2⟩ : _ ∧ _ ∧ _))) (fun k hk _ => (hm k hk.1 hk.2.1).1)) (fun k hk => hk.2.2)⟩
/-- what hangs on the blocks of the zone alone -/
def foot (Φ : World → Prop) : HP := ⟨fun W M => ∀ W', (∀ k, M k → k < W.heap.size → W'.heap[k]? = W.heap[k]?) → Φ W', fun {W W1 M M1} h hm W' hW => h W' (fun k hk hl => by
  have h1 := hm k hk hl
  have h2 := h1.1
  rw [Array.getElem?_eq_getElem hl] at h2
  exact (hW k h1.2 (Array.getElem?_eq_some_iff.1 h2).1).trans h1.1)⟩
/-- the cells of a struct -/
def kind {α : Type} (d : Kd α) (x : α) (cs : List Value) : HP := foot (fun W => d.K W x cs)
theorem foot_now {Φ : World → Prop} {W : World} {M : Nat → Prop} (h : (foot Φ).at_ W M) : Φ W := h W (fun _ _ _ => rfl)
/-- the cells of a row of the call's own -/
def raw (base e size : Nat) (v : Value) (n : Nat) (cells : List Value) : HP := ⟨fun W M => W.ownsRow base e size v n cells ∧ ∀ k, v.ownBlock = some k → M k, fun {W W1 M M1} h hm =>
  ⟨own_move h.1 (fun k hk => (hm k (h.2 k hk) (own_lt h.1 k hk)).1), fun k hk => (hm k (h.2 k hk) (own_lt h.1 k hk)).2⟩⟩
/-- what cells tell, kind by kind -/
def reps {α : Type} (d : Kd α) (xs : List α) (cells : List Value) : HP := foot (fun W => Reps (d.K W) d.sz xs cells)
theorem raw_nil (base e size : Nat) (W : World) (M : Nat → Prop) : (raw base e size (.slice none 0 0) 0 []).at_ W M := ⟨own_nil _ _ _ _, fun k hk => by simp [Value.ownBlock] at hk⟩
theorem reps_nil {α : Type} (d : Kd α) (W : World) (M : Nat → Prop) : (reps d [] []).at_ W M := fun _ _ => Reps.none _ _
theorem reps_scalar {α : Type} {enc : α → Value} {h1 : ∀ x, (enc x).oneCell' = true} (xs : List α) (cells : List Value) (hc : cells = xs.map enc) {W : World} {M : Nat → Prop} : (reps (Kd.scalar enc h1) xs cells).at_ W M := fun _ _ => by
  rw [hc]
  exact Kd.reps_scalar xs
theorem reps_snoc {α : Type} {d : Kd α} {xs : List α} {x : α} {cells c : List Value} {W : World} {M : Nat → Prop} (h : (reps d xs cells).at_ W M) (hx : (kind d x c).at_ W M) : (reps d (xs ++ [x]) (cells ++ c)).at_ W M :=
  fun W' hW => (h W' hW).snoc (hx W' hW) (d.K_len (hx W' hW))
theorem kind_val {α : Type} {d : Kd α} {e : Nat} {A : Option Addr} {c : Nat} {xs : List α} {W : World} {M : Nat → Prop} (h : (val d (.slice A xs.length c) xs).at_ W M) : (kind (Kd.slice e d) xs [.slice A xs.length c]).at_ W M := fun W' hW => by
  obtain ⟨_, hl, hf⟩ := Kd.V_at (e := 0) (base := 0) h
  exact ⟨A, c, rfl, hl, hf W' hW⟩
/-- two, each in a zone of its own -/
def sep (A B : HP) : HP := ⟨fun W M => ∃ a b : Nat → Prop, A.at_ W a ∧ B.at_ W b ∧ (∀ k, a k → M k) ∧ (∀ k, b k → M k) ∧ ∀ k, a k → ¬ b k, fun {W W1 M M1} ⟨a, b, hA, hB, ha, hb, hd⟩ hm =>
  ⟨fun k => a k ∧ k < W.heap.size, fun k => b k ∧ k < W.heap.size, A.move hA (fun k hk hl => ⟨(hm k (ha k hk) hl).1, hk, hl⟩), B.move hB (fun k hk hl => ⟨(hm k (hb k hk) hl).1, hk, hl⟩), fun k hk => (hm k (ha k hk.1) hk.2).2, fun k hk => (hm k (hb k hk.1) hk.2).2, fun k hk hk2 => hd k hk.1 hk2.1⟩⟩
theorem raw_form {base e size : Nat} {v : Value} {n : Nat} {cells : List Value} {W : World} {M : Nat → Prop} (h : (raw base e size v n cells).at_ W M) : ∃ A c, v = .slice A n c ∧ n ≤ c := by
  rcases h.1.2 with ⟨h1, rfl⟩ | ⟨g, cap, cur, h1, _, _, h3, _⟩
  · exact ⟨none, 0, h1, Nat.le_refl _⟩
  · exact ⟨_, cap, h1, h3⟩
theorem raw_cell {base e : Nat} {A : Option Addr} {n c : Nat} {cells : List Value} {W : World} {M : Nat → Prop} (h : (raw base e 1 (.slice A n c) n cells).at_ W M) (j : Nat) (u : Value) (hj : cells[j]? = some u) : ∃ ad, A = some ad ∧ W.cell? (ad.add j) = some u := by
  have hjl : j < cells.length := (List.getElem?_eq_some_iff.1 hj).1
  obtain ⟨⟨hl, h1⟩, _⟩ := h
  rcases h1 with ⟨_, rfl⟩ | ⟨g, cap, cur, h1, _, hh, h3, h4, h5, h6⟩
  · omega
  · injection h1 with h1 _ _
    refine ⟨_, h1, ?_⟩
    rw [add_plain]
    refine cell_blk hh ?_
    rw [← h6, List.getElem?_take] at hj
    split at hj
    · simpa using hj
    · cases hj
theorem raw_shrink {base e size : Nat} {A : Option Addr} {n c : Nat} {cells : List Value} {W : World} {M : Nat → Prop} (h : (raw base e size (.slice A n c) n cells).at_ W M) (m : Nat) (hm : m ≤ n) : (raw base e size (.slice A m c) m (cells.take (m * size))).at_ W M := by
  obtain ⟨⟨hl, h1⟩, h2⟩ := h
  have ho : (Value.slice A m c).ownBlock = (Value.slice A n c).ownBlock := by cases A <;> rfl
  have hms : m * size ≤ n * size := Nat.mul_le_mul_right _ hm
  refine ⟨⟨by rw [List.length_take]; omega, ?_⟩, fun k hk => h2 k (ho ▸ hk)⟩
  rcases h1 with ⟨h1, rfl⟩ | ⟨g, cap, cur, h1, hb, hh, h3, h4, h5, h6⟩
  · injection h1 with h1 h3 h4
    subst h1; subst h4
    obtain rfl : m = 0 := by omega
    exact .inl ⟨rfl, by simp⟩
  · injection h1 with h1 h3' h4'
    subst h1; subst h4'
    refine .inr ⟨g, c, cur, rfl, hb, hh, by omega, h4, h5, ?_⟩
    rw [← h6, List.take_take, Nat.min_eq_left hms]
theorem val_of {α : Type} {d : Kd α} {base e : Nat} {v : Value} {xs : List α} {cells : List Value} {W : World} {M : Nat → Prop} (hr : (raw base e d.sz v xs.length cells).at_ W M) (hx : (reps d xs cells).at_ W M) : (val d v xs).at_ W M := by
  obtain ⟨A, c, rfl, hl, _⟩ := OwnRow.reads (R := d.K W) ⟨cells, hr.1, hx W (fun _ _ _ => rfl)⟩
  refine ⟨A, c, rfl, hl, fun W' hW => ?_⟩
  obtain ⟨A', c', he, _, h⟩ := OwnRow.reads (R := d.K W') ⟨cells, own_move hr.1 (fun k hk => hW k (hr.2 k hk) (own_lt hr.1 k hk)), hx W' hW⟩
  injection he with h1 h2 h3
  subst h1
  exact h
theorem blk_now {g : Nat} {o : Obj} {W : World} {M : Nat → Prop} (h : (blk g o).at_ W M) : W.heap[g]? = some o := h.1
theorem rd_now {α : Type} {d : Kd α} {A : Option Addr} {xs : List α} {W : World} {M : Nat → Prop} (h : (rd d A xs).at_ W M) : d.C W A xs.length xs := Kd.F_now h
theorem val_now {α : Type} {d : Kd α} {v : Value} {xs : List α} {W : World} {M : Nat → Prop} (h : (val d v xs).at_ W M) : ∃ A c, v = .slice A xs.length c ∧ xs.length ≤ c ∧ d.C W A xs.length xs := by
  obtain ⟨A, c, rfl, hl, hf⟩ := h
  exact ⟨A, c, rfl, hl, Kd.F_now hf⟩
theorem own_val {α : Type} {d : Kd α} {e : Nat} {v : Value} {xs : List α} {W : World} {M : Nat → Prop} (h : (own d e v xs).at_ W M) : (val d v xs).at_ W M := Kd.R_V (base' := 0) h
/-- an element of a row that is read: its cells -/
theorem rd_get {α : Type} {d : Kd α} {A : Option Addr} {xs : List α} {W : World} {M : Nat → Prop} (h : (rd d A xs).at_ W M) (k : Nat) {x : α} (hx : xs[k]? = some x) :
    ∃ ad cs, A = some ad ∧ (kind d x cs).at_ W M ∧ ∀ j u, cs[j]? = some u → W.cell? (ad.add (k * d.sz + j)) = some u := by
  have hk : k < xs.length := (List.getElem?_eq_some_iff.1 hx).1
  obtain ⟨ad, cs, rfl, _, hK, hc, _⟩ := Kd.F_get h x (k : Int) (by omega) (by omega)
  have e : xs.getD (k : Int).toNat x = x := by rw [List.getD_eq_getElem?_getD, Int.toNat_natCast, hx]; rfl
  rw [e] at hK
  exact ⟨ad, cs, rfl, hK, hc⟩
theorem val_nil {α : Type} (d : Kd α) (W : World) (M : Nat → Prop) : (val d (.slice none 0 0) []).at_ W M := Kd.V_nil d 0 W 0 M
theorem val_C {α : Type} {d : Kd α} {A : Option Addr} {c : Nat} {xs : List α} {W : World} {M : Nat → Prop} (h : (val d (.slice A xs.length c) xs).at_ W M) : d.C W A xs.length xs := (Kd.V_reads' (e := 0) (base := 0) h).2.2
theorem val_le {α : Type} {d : Kd α} {A : Option Addr} {c : Nat} {xs : List α} {W : World} {M : Nat → Prop} (h : (val d (.slice A xs.length c) xs).at_ W M) : xs.length ≤ c := (Kd.V_reads' (e := 0) (base := 0) h).2.1
theorem val_rd {α : Type} {d : Kd α} {A : Option Addr} {c : Nat} {xs : List α} {W : World} {M : Nat → Prop} (h : (val d (.slice A xs.length c) xs).at_ W M) : (rd d A xs).at_ W M := (Kd.V_at (e := 0) (base := 0) h).2.2
theorem val_own {w : World} {base e : Nat} {v : Value} {xs : List Int} (h : w.ownsRow base e 1 v xs.length (I64 xs)) : (val (Kd.int .i64) v xs).at_ w (fun k => base ≤ k) :=
  Kd.R_V (base' := 0) (Kd.R_of_own (h1 := fun _ => rfl) h (fun k hk => own_base h k hk))
theorem own_own {w : World} {base e : Nat} {v : Value} {xs : List Int} (h : w.ownsRow base e 1 v xs.length (I64 xs)) : (own (Kd.int .i64) e v xs).at_ w (fun k => base ≤ k) :=
  Kd.R_lower (Kd.R_of_own (h1 := fun _ => rfl) h (fun k hk => own_base h k hk)) (Nat.zero_le _)
end HP

/-- A step that turns the zone M into Ψ (in M and what is new), and makes Φ, which may lead into Z: outside M nothing that was there has turned. -/
structure Does (W : World) (M Z : Nat → Prop) (Φ Ψ : HP) (W1 : World) : Prop where
  fr : Fr M W W1
  ex : ∃ M1 : Nat → Prop, Ψ.at_ W1 M1 ∧ Φ.at_ W1 (fun k => (Z k ∨ W.heap.size ≤ k) ∧ ¬ M1 k) ∧ ∀ k, M1 k → M k ∨ W.heap.size ≤ k

/-- What a walk holds at W: what is frozen (Φ), and what may be written (Ψs), each in a zone of its own; of what was there at W0 only M0 may be turned, what is frozen leads into Z0. -/
def Cx (M0 Z0 : Nat → Prop) (W0 W : World) (Φ : HP) (Ψs : List HP) : Prop :=
  Fr M0 W0 W ∧ ∃ tag : Nat → Nat, Φ.at_ W (fun k => tag k = 0) ∧ (∀ (i : Nat) (Ψ : HP), Ψs[i]? = some Ψ → Ψ.at_ W (fun k => tag k = i + 2)) ∧ ∀ k, k < W0.heap.size → (tag k = 0 → Z0 k) ∧ (2 ≤ tag k → M0 k)

theorem fr_below {S : Nat → Prop} {a b c : World} (h : Fr S a b) (k : Below b.heap.size b c) : Fr S a c := h.step (T := fun _ => False) (Fr.of_below k) (fun _ _ hf => hf.elim)

namespace Cx
variable {M0 Z0 : Nat → Prop} {W0 W W1 : World} {Φ Φ' : HP} {Ψs : List HP}
theorem fr (h : Cx M0 Z0 W0 W Φ Ψs) : Fr M0 W0 W := h.1
theorem size (h : Cx M0 Z0 W0 W Φ Ψs) : W0.heap.size ≤ W.heap.size := h.1.size
theorem below (h : Cx (fun _ => False) Z0 W0 W Φ Ψs) : Below W0.heap.size W0 W := h.1.below (Nat.le_refl _) (fun _ _ hf => hf)
theorem start0 {Φ : HP} (h : Φ.at_ W (fun k => k < W.heap.size)) : Cx (fun _ => False) (fun k => k < W.heap.size) W W Φ [] := ⟨Fr.refl _ _, fun _ => 0, HP.mono h (fun _ _ _ => rfl), fun i Ψ hi => by simp at hi, fun k hk => ⟨fun _ => hk, fun h2 => by have h2 : 2 ≤ 0 := h2; omega⟩⟩
/-- without an object, over whatever zone -/
theorem startz {Φ : HP} {Z : Nat → Prop} (h : Φ.at_ W Z) : Cx (fun _ => False) Z W W Φ [] := by
  classical
  exact ⟨Fr.refl _ _, fun k => if Z k then 0 else 1, HP.mono h (fun k hk _ => by simp [hk]), fun i Ψ hi => by simp at hi, fun k hk => ⟨fun h0 => by by_cases hz : Z k <;> simp [hz] at h0 ⊢, fun h2 => by by_cases hz : Z k <;> simp [hz] at h2⟩⟩
theorem start {Φ Ψ : HP} {M Z : Nat → Prop} (h : Ψ.at_ W M) (hf : Φ.at_ W Z) (hd : ∀ k, Z k → ¬ M k) : Cx M Z W W Φ [Ψ] := by
  classical
  refine ⟨Fr.refl _ _, fun k => if M k then 2 else if Z k then 0 else 1, HP.mono hf (fun k hk _ => by simp [hk, hd k hk]), fun i Ψ hi => ?_, fun k hk => ⟨fun h0 => ?_, fun h2 => ?_⟩⟩
  · have hi0 : i = 0 := by have := (List.getElem?_eq_some_iff.1 hi).1; simp at this; omega
    subst hi0
    simp at hi
    subst hi
    exact HP.mono h (fun k hk _ => by simp [hk])
  · by_cases hm : M k <;> by_cases hz : Z k <;> simp [hm, hz] at h0 ⊢
  · by_cases hm : M k <;> by_cases hz : Z k <;> simp [hm, hz] at h2 ⊢
theorem now (h : Cx M0 Z0 W0 W Φ Ψs) : ∃ Z, Φ.at_ W Z := let ⟨_, _, h1, _⟩ := h; ⟨_, h1⟩
theorem get (h : Cx M0 Z0 W0 W Φ Ψs) (i : Nat) {Ψ : HP} (hi : Ψs[i]? = some Ψ) : ∃ Z, Ψ.at_ W Z := let ⟨_, _, _, h2, _⟩ := h; ⟨_, h2 i Ψ hi⟩
theorem blk (h : Cx M0 Z0 W0 W Φ Ψs) (i : Nat) {g : Nat} {o : Obj} (hi : Ψs[i]? = some (HP.blk g o)) : W.heap[g]? = some o := let ⟨_, h1⟩ := h.get i hi; h1.1
theorem cell (h : Cx M0 Z0 W0 W Φ Ψs) (i : Nat) {g : Nat} {cs : Array Value} {t : TypeId} {fr : Nat × Nat} (hi : Ψs[i]? = some (HP.blk g (.cells cs t fr))) (j : Nat) {v : Value} (hv : cs[j]? = some v) : W.cell? ⟨g, j, none⟩ = some v := cell_blk (h.blk i hi) hv
theorem unfrozen (h : Cx M0 Z0 W0 W Φ Ψs) (i : Nat) {g : Nat} {cs : Array Value} {t : TypeId} (hi : Ψs[i]? = some (HP.blk g (.cells cs t (0, 0)))) (j : Nat) : W.frozen? ⟨g, j, none⟩ = false := frozen_blk (h.blk i hi)
/-- what a function that made nothing of its own to be written has done -/
theorem done0 (h : Cx (fun _ => False) Z0 W0 W Φ Ψs) : Below W0.heap.size W0 W ∧ Φ.at_ W (fun k => Z0 k ∨ W0.heap.size ≤ k) := by
  refine ⟨h.below, ?_⟩
  obtain ⟨hf, tag, h1, h2, h3⟩ := h
  refine Φ.mono h1 (fun k hk hl => ?_)
  by_cases hlt : k < W0.heap.size
  · exact .inl ((h3 k hlt).1 hk)
  · exact .inr (by omega)
/-- .. that made an object -/
theorem doneNew (h : Cx (fun _ => False) Z0 W0 W Φ Ψs) (i : Nat) {Ψ : HP} (hi : Ψs[i]? = some Ψ) : Below W0.heap.size W0 W ∧ ∃ M1 : Nat → Prop, Ψ.at_ W M1 ∧ Φ.at_ W (fun k => (Z0 k ∨ W0.heap.size ≤ k) ∧ ¬ M1 k) ∧ ∀ k, M1 k → W0.heap.size ≤ k := by
  refine ⟨h.below, ?_⟩
  obtain ⟨hf, tag, h1, h2, h3⟩ := h
  refine ⟨fun k => tag k = i + 2, h2 i Ψ hi, Φ.mono h1 (fun k hk hl => ⟨?_, by omega⟩), fun k hk => ?_⟩
  · by_cases hlt : k < W0.heap.size
    · exact .inl ((h3 k hlt).1 hk)
    · exact .inr (by omega)
  · by_cases hlt : k < W0.heap.size
    · exact ((h3 k hlt).2 (by omega)).elim
    · omega
/-- what a function that turned its object has done -/
theorem done (h : Cx M0 Z0 W0 W Φ Ψs) (i : Nat) {Ψ : HP} (hi : Ψs[i]? = some Ψ) : Does W0 M0 Z0 Φ Ψ W := by
  obtain ⟨hf, tag, h1, h2, h3⟩ := h
  refine ⟨hf, fun k => tag k = i + 2, h2 i Ψ hi, Φ.mono h1 (fun k hk hl => ⟨?_, by omega⟩), fun k hk => ?_⟩
  · by_cases hlt : k < W0.heap.size
    · exact .inl ((h3 k hlt).1 hk)
    · exact .inr (by omega)
  · by_cases hlt : k < W0.heap.size
    · exact .inl ((h3 k hlt).2 (by omega))
    · exact .inr (by omega)
/-- a step behind which all that was there is as it was, and more may be frozen -/
theorem pure (h : Cx M0 Z0 W0 W Φ Ψs) : ∃ Z : Nat → Prop, Φ.at_ W Z ∧ ∀ (Φ' : HP) (W1 : World), Below W.heap.size W W1 → Φ'.at_ W1 (fun k => Z k ∨ W.heap.size ≤ k) → Cx M0 Z0 W0 W1 (Φ.and Φ') Ψs := by
  obtain ⟨hf, tag, h1, h2, h3⟩ := h
  refine ⟨fun k => tag k = 0, h1, fun Φ' W1 hb1 h4 => ⟨fr_below hf hb1, fun k => if k < W.heap.size then tag k else 0, ⟨?_, ?_⟩, fun i Ψ hi => ?_, fun k hk => ?_⟩⟩
  · exact Φ.move h1 (fun k hk hl => ⟨hb1.block k hl, by simp [hl]; exact hk⟩)
  · refine Φ'.mono h4 (fun k hk hl => ?_)
    by_cases hlt : k < W.heap.size
    · simp only [hlt, if_true]
      rcases hk with hk | hk
      · exact hk
      · omega
    · simp [hlt]
  · exact Ψ.move (h2 i Ψ hi) (fun k hk hl => ⟨hb1.block k hl, by simp [hl]; exact hk⟩)
  · have hlt : k < W.heap.size := Nat.lt_of_lt_of_le hk hf.size
    simpa [hlt] using h3 k hk
/-- a step that leaves all that was there -/
theorem skip (h : Cx M0 Z0 W0 W Φ Ψs) (hb : Below W.heap.size W W1) : Cx M0 Z0 W0 W1 Φ Ψs := by
  obtain ⟨hf, tag, h1, h2, h3⟩ := h
  exact ⟨fr_below hf hb, tag, Φ.step h1 (fun k _ hl => hb.block k hl), fun i Ψ hi => Ψ.step (h2 i Ψ hi) (fun k _ hl => hb.block k hl), h3⟩
theorem drew (h : Cx M0 Z0 W0 W Φ Ψs) : Cx M0 Z0 W0 W.drew Φ Ψs := h.skip (below_drew (Below.refl _ _))
theorem drewN (h : Cx M0 Z0 W0 W Φ Ψs) (n : Nat) : Cx M0 Z0 W0 (W.drewN n) Φ Ψs := h.skip (pw_below_drewN (Below.refl _ _) n)
theorem junk (h : Cx M0 Z0 W0 W Φ Ψs) (o : Obj) : Cx M0 Z0 W0 (W.alloc o) Φ Ψs := h.skip ((Below.refl _ _).alloc (Nat.le_refl _) o)
/-- a new object -/
theorem made (h : Cx M0 Z0 W0 W Φ Ψs) {Φ' Ψ' : HP} {M1 : Nat → Prop} (hΨ : Ψ'.at_ W1 M1) (hb1 : Below W.heap.size W W1) (hΦ : Φ'.at_ W1 (fun k => W.heap.size ≤ k ∧ ¬ M1 k)) (hM : ∀ k, M1 k → W.heap.size ≤ k) : Cx M0 Z0 W0 W1 (Φ.and Φ') (Ψs ++ [Ψ']) := by
  classical
  obtain ⟨hf, tag, h1, h2, h3⟩ := h
  refine ⟨fr_below hf hb1, fun k => if k < W.heap.size then tag k else if M1 k then Ψs.length + 2 else 0, ⟨?_, ?_⟩, fun i Ψ hi => ?_, fun k hk => ?_⟩
  · exact Φ.move h1 (fun k hk hl => ⟨hb1.block k hl, by simp [hl]; exact hk⟩)
  · refine Φ'.mono hΦ (fun k hk hl => ?_)
    have : ¬ k < W.heap.size := by omega
    simp [this, hk.2]
  · rw [List.getElem?_append] at hi
    split at hi
    · exact Ψ.move (h2 i Ψ hi) (fun k hk hl => ⟨hb1.block k hl, by simp [hl]; exact hk⟩)
    · rename_i hge
      have hi0 : i - Ψs.length = 0 := by
        have := (List.getElem?_eq_some_iff.1 hi).1
        simp at this; omega
      rw [hi0] at hi
      simp at hi
      subst hi
      refine Ψ'.mono hΨ (fun k hk hl => ?_)
      have : ¬ k < W.heap.size := by have := hM k hk; omega
      simp [this, hk]; omega
  · have hlt : k < W.heap.size := Nat.lt_of_lt_of_le hk hf.size
    simpa [hlt] using h3 k hk
/-- what is held may be told otherwise -/
theorem imp (h : Cx M0 Z0 W0 W Φ Ψs) (hi : ∀ Z, Φ.at_ W Z → Φ'.at_ W Z) : Cx M0 Z0 W0 W Φ' Ψs := let ⟨hb, tag, h1, h2, h3⟩ := h; ⟨hb, tag, hi _ h1, h2, h3⟩
/-- .. and what follows of it may be named -/
theorem more {α : Type} {R : α → Prop} {Φ' : α → HP} (h : Cx M0 Z0 W0 W Φ Ψs) (hx : ∀ Z, Φ.at_ W Z → ∃ x, R x ∧ (Φ' x).at_ W Z) : ∃ x, R x ∧ Cx M0 Z0 W0 W (Φ.and (Φ' x)) Ψs := by
  obtain ⟨hb, tag, h1, h2, h3⟩ := h
  obtain ⟨x, hr, h4⟩ := hx _ h1
  exact ⟨x, hr, hb, tag, ⟨h1, h4⟩, h2, h3⟩
theorem fst (h : Cx M0 Z0 W0 W (Φ.and Φ') Ψs) : Cx M0 Z0 W0 W Φ Ψs := h.imp (fun _ hz => hz.1)
/-- a new block, that may be written -/
theorem alloc (h : Cx M0 Z0 W0 W Φ Ψs) (o : Obj) : Cx M0 Z0 W0 (W.alloc o) Φ (Ψs ++ [HP.blk W.heap.size o]) :=
  (h.made (Φ' := HP.tt) (M1 := fun k => k = W.heap.size) (Ψ' := HP.blk W.heap.size o) ⟨hp_alloc_new _ _, rfl⟩ ((Below.refl _ _).alloc (Nat.le_refl _) o) trivial (fun k hk => by omega)).fst
theorem alloc1 {o1 : Obj} (h : Cx M0 Z0 W0 (W.alloc o1) Φ Ψs) (o : Obj) : Cx M0 Z0 W0 ((W.alloc o1).alloc o) Φ (Ψs ++ [HP.blk (W.heap.size + 1) o]) := by
  have := h.alloc o
  rwa [hp_alloc_size] at this
theorem alloc2 {o1 o2 : Obj} (h : Cx M0 Z0 W0 ((W.alloc o1).alloc o2) Φ Ψs) (o : Obj) : Cx M0 Z0 W0 (((W.alloc o1).alloc o2).alloc o) Φ (Ψs ++ [HP.blk (W.heap.size + 1 + 1) o]) := by
  have := h.alloc o
  rwa [hp_alloc_size, hp_alloc_size] at this
theorem alloc3 {o1 o2 o3 : Obj} (h : Cx M0 Z0 W0 (((W.alloc o1).alloc o2).alloc o3) Φ Ψs) (o : Obj) : Cx M0 Z0 W0 ((((W.alloc o1).alloc o2).alloc o3).alloc o) Φ (Ψs ++ [HP.blk (W.heap.size + 1 + 1 + 1) o]) := by
  have := h.alloc o
  rwa [hp_alloc_size, hp_alloc_size, hp_alloc_size] at this
/-- a row, say, that has no block yet -/
theorem add (h : Cx M0 Z0 W0 W Φ Ψs) {Ψ : HP} (hΨ : Ψ.at_ W (fun _ => False)) : Cx M0 Z0 W0 W Φ (Ψs ++ [Ψ]) :=
  (h.made (Φ' := HP.tt) hΨ (Below.refl _ _) trivial (fun k hk => hk.elim)).fst
/-- a step of one of the objects -/
theorem use (h : Cx M0 Z0 W0 W Φ Ψs) (i : Nat) {Ψ : HP} (hi : Ψs[i]? = some Ψ) : ∃ M Z : Nat → Prop, Ψ.at_ W M ∧ Φ.at_ W Z ∧ (∀ k, Z k → ¬ M k) ∧ ∀ (Φ' Ψ' : HP) (W1 : World), Does W M Z Φ' Ψ' W1 → Cx M0 Z0 W0 W1 (Φ.and Φ') (Ψs.set i Ψ') := by
  classical
  obtain ⟨hb, tag, h1, h2, h3⟩ := h
  refine ⟨fun k => tag k = i + 2, fun k => tag k = 0, h2 i Ψ hi, h1, fun k hk he => by omega, fun Φ' Ψ' W1 hd => ?_⟩
  obtain ⟨hf, M1, hΨ, hΦ, hM⟩ := hd
  refine ⟨hb.step hf (fun k hk he => (h3 k hk).2 (by omega)), fun k => if k < W.heap.size then tag k else if M1 k then i + 2 else 0, ⟨?_, ?_⟩, fun j Ψj hj => ?_, fun k hk => ?_⟩
  · exact Φ.move h1 (fun k hk hl => ⟨hf.block k hl (by omega), by simp [hl]; exact hk⟩)
  · refine Φ'.mono hΦ (fun k hk hl => ?_)
    by_cases hlt : k < W.heap.size
    · simp only [hlt, if_true]
      rcases hk.1 with hz | hz
      · exact hz
      · omega
    · simp [hlt, hk.2]
  · rw [List.getElem?_set] at hj
    have hlen : i < Ψs.length := (List.getElem?_eq_some_iff.1 hi).1
    by_cases hij : i = j
    · subst hij
      simp [hlen] at hj
      subst hj
      refine Ψ'.mono hΨ (fun k hk hl => ?_)
      by_cases hlt : k < W.heap.size
      · simp only [hlt, if_true]
        rcases hM k hk with hm | hm
        · exact hm
        · omega
      · simp [hlt, hk]
    · simp [hij] at hj
      exact Ψj.move (h2 j Ψj hj) (fun k hk hl => ⟨hf.block k hl (by omega), by simp [hl]; exact hk⟩)
  · have hlt : k < W.heap.size := Nat.lt_of_lt_of_le hk hb.size
    simpa [hlt] using h3 k hk
/-- a store into a block that may be written -/
theorem put (h : Cx M0 Z0 W0 W Φ Ψs) (i : Nat) {g : Nat} {cs : Array Value} {t : TypeId} {fr : Nat × Nat} (hi : Ψs[i]? = some (HP.blk g (.cells cs t fr))) (j : Nat) (v : Value) : Cx M0 Z0 W0 (W.setCell ⟨g, j, none⟩ v) Φ (Ψs.set i (HP.blk g (.cells (cs.setIfInBounds j v) t fr))) := by
  obtain ⟨M, Z, hM, _, hMZ, hn⟩ := h.use i hi
  exact (hn HP.tt (HP.blk g (.cells (cs.setIfInBounds j v) t fr)) (W.setCell ⟨g, j, none⟩ v) ⟨(Fr.refl M W).setCell (fun _ => hM.2) _, M, ⟨hp_setCell_same hM.1 _ _, hM.2⟩, trivial, fun k hk => .inl hk⟩).fst
theorem impi (h : Cx M0 Z0 W0 W Φ Ψs) (i : Nat) {Ψ Ψ' : HP} (hi : Ψs[i]? = some Ψ) (hx : ∀ M, Ψ.at_ W M → Ψ'.at_ W M) : Cx M0 Z0 W0 W Φ (Ψs.set i Ψ') := by
  obtain ⟨hb, tag, h1, h2, h3⟩ := h
  refine ⟨hb, tag, h1, fun j Ψj hj => ?_, h3⟩
  rw [List.getElem?_set] at hj
  by_cases hij : i = j
  · subst hij
    have hlen : i < Ψs.length := (List.getElem?_eq_some_iff.1 hi).1
    simp [hlen] at hj
    subst hj
    exact hx _ (h2 i Ψ hi)
  · simp [hij] at hj
    exact h2 j Ψj hj
/-- an object parted -/
theorem split (h : Cx M0 Z0 W0 W Φ Ψs) (i : Nat) {A B : HP} (hi : Ψs[i]? = some (HP.sep A B)) : Cx M0 Z0 W0 W Φ (Ψs.set i A ++ [B]) := by
  classical
  obtain ⟨hf, tag, h1, h2, h3⟩ := h
  obtain ⟨a, b, hA, hB, ha, hb, hd⟩ := h2 i _ hi
  have hlen : i < Ψs.length := (List.getElem?_eq_some_iff.1 hi).1
  refine ⟨hf, fun k => if tag k = i + 2 ∧ b k then Ψs.length + 2 else tag k, Φ.mono h1 (fun k hk _ => by simp [hk]), fun j Ψj hj => ?_, fun k hk => ?_⟩
  · rw [List.getElem?_append, List.length_set] at hj
    split at hj
    · rename_i hjl
      rw [List.getElem?_set] at hj
      by_cases hij : i = j
      · subst hij
        simp [hlen] at hj
        subst hj
        exact A.mono hA (fun k hk _ => by simp [ha k hk, hd k hk])
      · simp [hij] at hj
        exact Ψj.mono (h2 j Ψj hj) (fun k hk _ => by
          have : ¬ (tag k = i + 2 ∧ b k) := fun hx => by omega
          simp only [this, if_false]; exact hk)
    · have hj0 : j - Ψs.length = 0 := by
        have := (List.getElem?_eq_some_iff.1 hj).1
        simp at this; omega
      rw [hj0] at hj
      simp at hj
      subst hj
      exact B.mono hB (fun k hk _ => by
        simp only [hb k hk, hk, and_self, if_true]; omega)
  · have := h3 k hk
    by_cases hx : tag k = i + 2 ∧ b k
    · simp only [hx, and_self, if_true]
      exact ⟨fun h => by omega, fun _ => this.2 (by omega)⟩
    · simp only [hx, if_false]; exact this
/-- two objects put together -/
theorem glue (h : Cx M0 Z0 W0 W Φ Ψs) (i j : Nat) (hij : i ≠ j) {A B : HP} (hi : Ψs[i]? = some A) (hj : Ψs[j]? = some B) : Cx M0 Z0 W0 W Φ ((Ψs.set j HP.tt).set i (HP.sep A B)) := by
  obtain ⟨hf, tag, h1, h2, h3⟩ := h
  have hli : i < Ψs.length := (List.getElem?_eq_some_iff.1 hi).1
  have hlj : j < Ψs.length := (List.getElem?_eq_some_iff.1 hj).1
  refine ⟨hf, fun k => if tag k = j + 2 then i + 2 else tag k, Φ.mono h1 (fun k hk _ => by simp [hk]), fun q Ψq hq => ?_, fun k hk => ?_⟩
  · rw [List.getElem?_set, List.getElem?_set, List.length_set] at hq
    by_cases e1 : i = q
    · subst e1
      simp [hli] at hq
      subst hq
      refine ⟨fun k => tag k = i + 2, fun k => tag k = j + 2, h2 i A hi, h2 j B hj, fun k hk => ?_, fun k hk => by simp [hk], fun k hk hk2 => by omega⟩
      have : ¬ tag k = j + 2 := by omega
      simp only [this, if_false]; exact hk
    · rw [if_neg e1] at hq
      by_cases e2 : j = q
      · subst e2
        simp [hlj] at hq
        subst hq
        trivial
      · rw [if_neg e2] at hq
        exact Ψq.mono (h2 q Ψq hq) (fun k hk _ => by
          have : ¬ tag k = j + 2 := by omega
          simp only [this, if_false]; exact hk)
  · have := h3 k hk
    by_cases e : tag k = j + 2
    · simp only [e, if_true]
      exact ⟨fun h => by omega, fun _ => this.2 (by omega)⟩
    · simp only [e, if_false]; exact this
/-- a row that was made here is written no more -/
theorem freezeRow (h : Cx M0 Z0 W0 W Φ Ψs) (i : Nat) {base e size n : Nat} {v : Value} {cells : List Value} (hi : Ψs[i]? = some (HP.raw base e size v n cells)) (hb : W0.heap.size ≤ base) : Cx M0 Z0 W0 W (Φ.and (HP.raw base e size v n cells)) (Ψs.set i HP.tt) := by
  obtain ⟨hf, tag, h1, h2, h3⟩ := h
  have hr := h2 i _ hi
  have hlen : i < Ψs.length := (List.getElem?_eq_some_iff.1 hi).1
  refine ⟨hf, fun k => if v.ownBlock = some k then 0 else tag k, ⟨Φ.mono h1 (fun k hk _ => by simp [hk]), hr.1, fun k hk => by simp [hk]⟩, fun j Ψj hj => ?_, fun k hk => ?_⟩
  · rw [List.getElem?_set] at hj
    by_cases hij : i = j
    · subst hij
      simp [hlen] at hj
      subst hj
      trivial
    · simp [hij] at hj
      exact Ψj.mono (h2 j Ψj hj) (fun k hk _ => by
        have : ¬ v.ownBlock = some k := fun e => by have := hr.2 k e; omega
        simp only [this, if_false]; exact hk)
  · have : ¬ v.ownBlock = some k := fun e => by have := own_base hr.1 k e; omega
    simpa [this] using h3 k hk
/-- clear of a piece of a row -/
theorem clear {P : Program} (h : Cx M0 Z0 W0 W Φ Ψs) (i : Nat) {base e n c : Nat} {A : Option Addr} {cells : List Value} (hi : Ψs[i]? = some (HP.raw base e 1 (.slice A n c) n cells)) (t ty : TypeId) (z : Value) (ht : P.underlying t = some (.slice e)) (hv : ∀ w, (zeroValue e).run P w = .ok z w) (hz : z.cells = #[z]) (h1 : z.oneCell' = true)
    (j m c' : Nat) (hj : j + m ≤ n) (A' : Option Addr) (hA : 0 < m → A' = A.map (·.add j)) :
    ∃ w1, (Builtin.clear_ #[t] ty #[.slice A' m c']).run P W = .ok (.tuple #[]) w1 ∧ Cx M0 Z0 W0 w1 Φ (Ψs.set i (HP.raw base e 1 (.slice A n c) n (cells.take j ++ List.replicate m z ++ cells.drop (j + m)))) := by
  rcases Nat.eq_zero_or_pos m with rfl | hm
  · refine ⟨W, ?_, ?_⟩
    · cases A' <;> simp [Builtin.clear_, run_underlying ht]
    · have e0 : cells.take j ++ List.replicate 0 z ++ cells.drop (j + 0) = cells := by simp
      rw [e0]
      exact h.impi i hi (fun M hM => hM)
  · rw [hA hm]
    obtain ⟨M, Z, hM, _, hMZ, hn⟩ := h.use i hi
    obtain ⟨⟨hl, hr⟩, hown⟩ := hM
    rcases hr with ⟨hr, _⟩ | ⟨g, cap, cur, hr, hb, hh, h3, h4, h5, h6⟩
    · injection hr with _ hr; omega
    injection hr with hr1 hr2 hr3
    subst hr1; subst hr3
    rw [Nat.mul_one] at h5 h6 hl
    have hzc : (Builtin.zeroCells z.cells m).toList = List.replicate m z := by
      rw [hz]
      simp [Builtin.zeroCells]
      apply List.ext_getElem
      · simp
      · intro i h1 h2
        simp [Nat.mod_one]
    have hst := run_storeCells_at P g j e (List.replicate m z) 0 cur W hh (by simp; omega) (by intro v hv'; rw [List.eq_of_mem_replicate hv']; exact h1)
    simp only [Nat.add_zero, List.length_replicate] at hst
    refine ⟨_, ?_, (hn HP.tt (HP.raw base e 1 (.slice (some ⟨g, 0, none⟩) n c) n (cells.take j ++ List.replicate m z ++ cells.drop (j + m))) _ ⟨(Fr.refl M W).setRow (fun _ => hown g rfl) (cur.toList.take j ++ List.replicate m z ++ cur.toList.drop (j + m)).toArray, M, ⟨⟨by simp; omega, .inr ⟨g, c, _, rfl, hb, setRow_heap W g cur _ e _ hh, h3, h4, by simp; omega, ?_⟩⟩, fun k hk => hown k hk⟩, trivial, fun k hk => .inl hk⟩).fst⟩
    · obtain ⟨q, rfl⟩ : ∃ q, m = q + 1 := ⟨m - 1, by omega⟩
      simp only [Option.map_some, add_plain]
      simp [Builtin.clear_, run_underlying ht, hv, hzc, hst]
    · rw [Nat.mul_one, ← h6]
      simp only [List.toList_toArray]
      apply List.ext_getElem?
      intro q
      have hc : cur.toList.length = c := by simpa using h5
      by_cases hq : q < n
      · rw [List.getElem?_take_of_lt hq]
        simp only [List.getElem?_append, List.length_append, List.length_take, List.length_replicate, List.getElem?_take, List.getElem?_drop, hc]
        have e1 : Nat.min j c = j := Nat.min_eq_left (by omega)
        have e2 : min j (min n c) = j := by omega
        have e3 : min j c = j := by omega
        simp only [e2, e3]
        by_cases q1 : q < j
        · have : q < j + m := by omega
          simp [q1, this, hq]
        · by_cases q2 : q < j + m
          · simp [q1, q2]
          · have : j + m + (q - (j + m)) < n := by omega
            simp [q2, this]
      · rw [List.getElem?_eq_none (by simp; omega), List.getElem?_eq_none (by simp; omega)]
/-- append -/
theorem app {P : Program} (h : Cx M0 Z0 W0 W Φ Ψs) (i : Nat) {v : Value} {base n : Nat} {xs : List Value} (t ty e : TypeId) (z : Value) (size bytes : Nat) (hi : Ψs[i]? = some (HP.raw base e size v n xs)) (hbase : base ≤ W0.heap.size) (ht : P.underlying t = some (.slice e)) (hinfo : (P.info? e).map (fun i => (i.zero, i.size, i.bytes)) = some (some z, size, bytes)) (hz : z.cells.size = size) (hs0 : 0 < size) (hb0 : 0 < bytes)
    (A : Option Addr) (m c : Nat) (news : List Value) (hl : news.length = m * size)
    (hsrc : 0 < m → ∃ ad, A = some ad ∧ ∀ j u, news[j]? = some u → W.cell? (ad.add j) = some u) (h1 : ∀ u ∈ news, u.oneCell' = true) (hbytes : (n + m) * bytes ≤ 140737488355328) :
    ∃ v1 w1, (Builtin.append_ #[t, t] ty #[v, .slice A m c]).run P W = .ok v1 w1 ∧ Cx M0 Z0 W0 w1 Φ (Ψs.set i (HP.raw base e size v1 (n + m) (xs ++ news))) := by
  obtain ⟨M, Z, hM, _, hMZ, hn⟩ := h.use i hi
  obtain ⟨v1, w1, hr, ho, hg, hat⟩ := run_app (P := P) (W := W) t ty e z size bytes ht hinfo hz hs0 hb0 base v n xs hM.1 A m c news hl hsrc h1 (Nat.le_trans hbase h.size) hbytes
  refine ⟨v1, w1, hr, (hn HP.tt (HP.raw base e size v1 (n + m) (xs ++ news)) w1 ⟨Fr.grown hg (fun k _ hk => hM.2 k hk), fun k => v1.ownBlock = some k, ⟨ho, fun k hk => hk⟩, trivial, fun k hk => ?_⟩).fst⟩
  rcases hat with hat | hat
  · rw [hat] at hk; exact .inl (hM.2 k hk)
  · rw [hat] at hk; injection hk with hk; exact .inr (by omega)
/-- append of one, its cells in a block of their own -/
theorem app1 {P : Program} (h : Cx M0 Z0 W0 W Φ Ψs) (i : Nat) {v : Value} {base n : Nat} {xs : List Value} (t ty e : TypeId) (z : Value) (size bytes : Nat) (hi : Ψs[i]? = some (HP.raw base e size v n xs)) (hbase : base ≤ W0.heap.size) (ht : P.underlying t = some (.slice e)) (hinfo : (P.info? e).map (fun i => (i.zero, i.size, i.bytes)) = some (some z, size, bytes)) (hz : z.cells.size = size) (hs0 : 0 < size) (hb0 : 0 < bytes)
    (news : List Value) (hl : news.length = size) (h1 : ∀ u ∈ news, u.oneCell' = true) (hbytes : (n + 1) * bytes ≤ 140737488355328) :
    ∃ v1 w1, (Builtin.append_ #[t, t] ty #[v, .slice (some ⟨W.heap.size, 0, none⟩) 1 1]).run P (W.alloc (.cells news.toArray e)) = .ok v1 w1 ∧ Cx M0 Z0 W0 w1 Φ (Ψs.set i (HP.raw base e size v1 (n + 1) (xs ++ news))) :=
  (h.junk _).app i t ty e z size bytes hi hbase ht hinfo hz hs0 hb0 (some ⟨W.heap.size, 0, none⟩) 1 1 news (by omega) (fun _ => ⟨_, rfl, fun j u hj => by rw [add_plain]; exact cell_blk (hp_alloc_new _ _) (by simpa using hj)⟩) h1 hbytes
/-- a fact that no block tells -/
theorem know (h : Cx M0 Z0 W0 W Φ Ψs) {p : Prop} (hp : p) : Cx M0 Z0 W0 W (Φ.and (HP.pure p)) Ψs := let ⟨hb, tag, h1, h2, h3⟩ := h; ⟨hb, tag, ⟨h1, hp⟩, h2, h3⟩
/-- an object is written no more -/
theorem freeze (h : Cx (fun _ => False) Z0 W0 W Φ Ψs) (i : Nat) {Ψ : HP} (hi : Ψs[i]? = some Ψ) : Cx (fun _ => False) Z0 W0 W (Φ.and Ψ) (Ψs.set i HP.tt) := by
  obtain ⟨hb, tag, h1, h2, h3⟩ := h
  refine ⟨hb, fun k => if tag k = i + 2 then 0 else tag k, ⟨Φ.mono h1 (fun k hk _ => by simp [hk]), Ψ.mono (h2 i Ψ hi) (fun k hk _ => by simp [hk])⟩, fun j Ψj hj => ?_, fun k hk => ?_⟩
  · rw [List.getElem?_set] at hj
    by_cases hij : i = j
    · subst hij
      have hlen : i < Ψs.length := (List.getElem?_eq_some_iff.1 hi).1
      simp [hlen] at hj
      subst hj
      trivial
    · simp [hij] at hj
      exact Ψj.mono (h2 j Ψj hj) (fun k hk _ => by
        have : ¬ tag k = i + 2 := by omega
        simp only [this, if_false]; exact hk)
  · have := h3 k hk
    by_cases he : tag k = i + 2
    · exact (this.2 (by omega)).elim
    · simpa [he] using this
/-- the last objects are let go -/
theorem take (h : Cx M0 Z0 W0 W Φ Ψs) (n : Nat) : Cx M0 Z0 W0 W Φ (Ψs.take n) := by
  obtain ⟨hb, tag, h1, h2, h3⟩ := h
  refine ⟨hb, tag, h1, fun j Ψj hj => h2 j Ψj ?_, h3⟩
  rw [List.getElem?_take] at hj
  split at hj
  · exact hj
  · cases hj
/-- the cells of scalars that read -/
theorem src_of {α : Type} {enc : α → Value} {h1 : ∀ x, (enc x).oneCell' = true} {W : World} {A : Option Addr} {n : Nat} {xs : List α} (h : (Kd.scalar enc h1).C W A n xs) (hp : 0 < n) : ∃ ad, A = some ad ∧ ∀ j u, (xs.map enc)[j]? = some u → W.cell? (ad.add j) = some u := by
  obtain ⟨ad, e, hc⟩ := h.2.2 hp
  refine ⟨ad, e, fun j u hu => ?_⟩
  rw [List.getElem?_map] at hu
  obtain ⟨x, hx, rfl⟩ := Option.map_eq_some_iff.1 hu
  obtain ⟨c, hs, hK, hcell⟩ := hc j x hx
  have hK' : c = [enc x] := hK
  subst hK'
  have := hcell 0 _ rfl
  simpa [Kd.scalar] using this
/-- a call that turns one of the objects -/
theorem cuse {P : Program} {f : FuncId} {args : Array Value} {α : Type} {R : α → Ending → Prop} {Φ' Ψ' : α → HP} {Ψ : HP} (h : Cx M0 Z0 W0 W Φ Ψs) (i : Nat) (hi : Ψs[i]? = some Ψ)
    (hc : ∀ M Z : Nat → Prop, Ψ.at_ W M → Φ.at_ W Z → (∀ k, Z k → ¬ M k) → Calls P f args W fun e W1 => ∃ x, R x e ∧ Does W M Z (Φ' x) (Ψ' x) W1) :
    Calls P f args W fun e W1 => ∃ x, R x e ∧ Cx M0 Z0 W0 W1 (Φ.and (Φ' x)) (Ψs.set i (Ψ' x)) := by
  obtain ⟨M, Z, hM, hZ, hd, hn⟩ := h.use i hi
  exact (hc M Z hM hZ hd).mono (fun e W1 ⟨x, hr, hx⟩ => ⟨x, hr, hn _ _ _ hx⟩)
/-- a call that leaves all that was there -/
theorem cpure {P : Program} {f : FuncId} {args : Array Value} {α : Type} {R : α → Ending → Prop} {Φ' : α → HP} (h : Cx M0 Z0 W0 W Φ Ψs)
    (hc : ∀ Z : Nat → Prop, Φ.at_ W Z → Calls P f args W fun e W1 => ∃ x, R x e ∧ Below W.heap.size W W1 ∧ (Φ' x).at_ W1 (fun k => Z k ∨ W.heap.size ≤ k)) :
    Calls P f args W fun e W1 => ∃ x, R x e ∧ Cx M0 Z0 W0 W1 (Φ.and (Φ' x)) Ψs := by
  obtain ⟨Z, hZ, hn⟩ := h.pure
  exact (hc Z hZ).mono (fun e W1 ⟨x, hr, hb, hx⟩ => ⟨x, hr, hn _ _ hb hx⟩)
/-- .. and tells nothing new -/
theorem cskip {P : Program} {f : FuncId} {args : Array Value} {R : Ending → Prop} (h : Cx M0 Z0 W0 W Φ Ψs)
    (hc : ∀ Z : Nat → Prop, Φ.at_ W Z → Calls P f args W fun e W1 => R e ∧ Below W.heap.size W W1) :
    Calls P f args W fun e W1 => R e ∧ Cx M0 Z0 W0 W1 Φ Ψs := by
  obtain ⟨Z, hZ, hn⟩ := h.pure
  exact (hc Z hZ).mono (fun e W1 ⟨hr, hb⟩ => ⟨hr, h.skip hb⟩)
/-- .. and reads an object -/
theorem cread {P : Program} {f : FuncId} {args : Array Value} {R : Ending → Prop} {Ψ : HP} (h : Cx M0 Z0 W0 W Φ Ψs) (i : Nat) (hi : Ψs[i]? = some Ψ)
    (hc : ∀ M : Nat → Prop, Ψ.at_ W M → Calls P f args W fun e W1 => R e ∧ Below W.heap.size W W1) :
    Calls P f args W fun e W1 => R e ∧ Cx M0 Z0 W0 W1 Φ Ψs := by
  obtain ⟨M, hM⟩ := h.get i hi
  exact (hc M hM).mono (fun e W1 ⟨hr, hb⟩ => ⟨hr, h.skip hb⟩)
/-- a call that makes an object -/
theorem cnew {P : Program} {f : FuncId} {args : Array Value} {α : Type} {R : α → Ending → Prop} {Ψ' : α → HP} (h : Cx M0 Z0 W0 W Φ Ψs)
    (hc : Calls P f args W fun e W1 => ∃ x, R x e ∧ Below W.heap.size W W1 ∧ (Ψ' x).at_ W1 (fun k => W.heap.size ≤ k)) :
    Calls P f args W fun e W1 => ∃ x, R x e ∧ Cx M0 Z0 W0 W1 Φ (Ψs ++ [Ψ' x]) :=
  hc.mono (fun e W1 ⟨x, hr, hb, hx⟩ => ⟨x, hr, (h.made (Φ' := HP.tt) hx hb trivial (fun k hk => hk)).fst⟩)
theorem toBelow {P : Program} {f : FuncId} {args : Array Value} {R : Ending → Prop} (hc : Calls P f args W fun e W1 => R e ∧ Drawn0 W W1) : Calls P f args W fun e W1 => R e ∧ Below W.heap.size W W1 := hc.mono (fun _ _ h => ⟨h.1, h.2.below⟩)
/-- a printed call that tells a row -/
theorem cval {P : Program} {f : FuncId} {args : Array Value} {β : Type} {R : Value → Ending → Prop} {d : Kd β} {xs : List β} {e0 b0 : Nat} (h : Cx M0 Z0 W0 W Φ Ψs)
    (hc : ∀ Z : Nat → Prop, Φ.at_ W Z → Calls P f args W fun e W1 => ∃ v, R v e ∧ Kd.V d e0 W1 b0 (fun k => Z k ∨ W.heap.size ≤ k) v xs ∧ Below W.heap.size W W1) :
    Calls P f args W fun e W1 => ∃ A c, R (.slice A xs.length c) e ∧ Cx M0 Z0 W0 W1 (Φ.and (HP.val d (.slice A xs.length c) xs)) Ψs := by
  obtain ⟨Z, hZ, hn⟩ := h.pure
  refine (hc Z hZ).mono (fun e W1 ⟨v, hr, hv, hb⟩ => ?_)
  obtain ⟨A, c, rfl⟩ := Kd.V_slice hv
  exact ⟨A, c, hr, hn _ _ hb hv⟩
theorem cvalh {P : Program} {f : FuncId} {args : Array Value} {β : Type} {R : Value → Ending → Prop} {d : Kd β} {xs : List β} (h : Cx M0 Z0 W0 W Φ Ψs)
    (hc : ∀ Z : Nat → Prop, Φ.at_ W Z → Calls P f args W fun e W1 => ∃ v, R v e ∧ (HP.val d v xs).at_ W1 (fun k => Z k ∨ W.heap.size ≤ k) ∧ Below W.heap.size W W1) :
    Calls P f args W fun e W1 => ∃ A c, R (.slice A xs.length c) e ∧ Cx M0 Z0 W0 W1 (Φ.and (HP.val d (.slice A xs.length c) xs)) Ψs :=
  h.cval (e0 := 0) (b0 := 0) hc
/-- .. and two results -/
theorem cval2 {P : Program} {f : FuncId} {args : Array Value} {β γ : Type} {R : Value → Value → Ending → Prop} {d : Kd β} {d' : Kd γ} {xs : List β} {ys : List γ} {e0 b0 e1 b1 : Nat} (h : Cx M0 Z0 W0 W Φ Ψs)
    (hc : ∀ Z : Nat → Prop, Φ.at_ W Z → Calls P f args W fun e W1 => ∃ v v', R v v' e ∧ Kd.V d e0 W1 b0 (fun k => Z k ∨ W.heap.size ≤ k) v xs ∧ Kd.V d' e1 W1 b1 (fun k => Z k ∨ W.heap.size ≤ k) v' ys ∧ Below W.heap.size W W1) :
    Calls P f args W fun e W1 => ∃ A c A' c', R (.slice A xs.length c) (.slice A' ys.length c') e ∧ Cx M0 Z0 W0 W1 ((Φ.and (HP.val d (.slice A xs.length c) xs)).and (HP.val d' (.slice A' ys.length c') ys)) Ψs := by
  obtain ⟨Z, hZ, hn⟩ := h.pure
  refine (hc Z hZ).mono (fun e W1 ⟨v, v', hr, hv, hv', hb⟩ => ?_)
  obtain ⟨A, c, rfl⟩ := Kd.V_slice hv
  obtain ⟨A', c', rfl⟩ := Kd.V_slice hv'
  exact ⟨A, c, A', c', hr, (hn ((HP.val d _ xs).and (HP.val d' _ ys)) _ hb ⟨hv, hv'⟩).imp (fun Z hz => ⟨⟨hz.1, hz.2.1⟩, hz.2.2⟩)⟩
/-- a call that turns an object and tells a row -/
theorem cuval {P : Program} {f : FuncId} {args : Array Value} {β : Type} {R : Value → Ending → Prop} {d : Kd β} {xs : List β} {Ψ Ψ' : HP} (h : Cx M0 Z0 W0 W Φ Ψs) (i : Nat) (hi : Ψs[i]? = some Ψ)
    (hc : ∀ M Z : Nat → Prop, Ψ.at_ W M → Φ.at_ W Z → (∀ k, Z k → ¬ M k) → Calls P f args W fun e W1 => ∃ v, R v e ∧ Does W M Z (HP.val d v xs) Ψ' W1) :
    Calls P f args W fun e W1 => ∃ A c, R (.slice A xs.length c) e ∧ Cx M0 Z0 W0 W1 (Φ.and (HP.val d (.slice A xs.length c) xs)) (Ψs.set i Ψ') := by
  refine (h.cuse (α := Value) (R := R) (Φ' := fun v => HP.val d v xs) (Ψ' := fun _ => Ψ') i hi hc).mono (fun e W1 ⟨v, hr, hx⟩ => ?_)
  obtain ⟨Z, hz⟩ := hx.now
  obtain ⟨A, c, rfl, _⟩ := HP.val_now hz.2
  exact ⟨A, c, hr, hx⟩
/-- a call that turns an object and tells nothing more -/
theorem cobj {P : Program} {f : FuncId} {args : Array Value} {R : Ending → Prop} {Ψ Ψ' : HP} (h : Cx M0 Z0 W0 W Φ Ψs) (i : Nat) (hi : Ψs[i]? = some Ψ)
    (hc : ∀ M Z : Nat → Prop, Ψ.at_ W M → Φ.at_ W Z → (∀ k, Z k → ¬ M k) → Calls P f args W fun e W1 => R e ∧ Does W M Z HP.tt Ψ' W1) :
    Calls P f args W fun e W1 => R e ∧ Cx M0 Z0 W0 W1 Φ (Ψs.set i Ψ') := by
  obtain ⟨M, Z, hM, hZ, hd, hn⟩ := h.use i hi
  exact (hc M Z hM hZ hd).mono (fun e W1 ⟨hr, hx⟩ => ⟨hr, (hn _ _ _ hx).fst⟩)
end Cx
end Go.RK
