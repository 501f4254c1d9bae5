/- Small lemmas on worlds, blocks and slices that the walks of this seat share. No condition. -/
import Derived.WalkKit
import Derived.KernelRfl
import Derived.Deep.QuietTactic
import Derived.BigQuiet
import Derived.WideLaws
import Derived.WalkSpells
import Derived.StillTailTactics
import Derived.Lib.Hide
import Derived.Laws.CopyOwn
import Derived.IntWalk
import Derived.Deep.DeepFit
import Derived.Deep.DeepMust
import Derived.Deep.RegionHeld3
import Derived.Deep.RegionWith
import Derived.Test.YtbndpdjpfehdnaaWWords
set_option linter.unusedVariables false
set_option linter.unusedSimpArgs false
namespace Go.RK
open Go.RowKit Go.Proofs.YtbndpdjpfehdnaaW.PrintWords

abbrev I64 (xs : List Int) : List Value := xs.map (Value.int .i64)
theorem below_undrew {B : Nat} {w w2 : World} {n : Nat} (h : Below B (w.drewN n) w2) : Below B w w2 := ⟨h.os, h.tape, h.output, h.size, h.block⟩
theorem below_undrew1 {B : Nat} {w w2 : World} (h : Below B w.drew w2) : Below B w w2 := ⟨h.os, h.tape, h.output, h.size, h.block⟩

/-- Outside S nothing that was there has turned. -/
structure Fr (S : Nat → Prop) (w w' : World) : Prop where
  os : w'.os = w.os
  tape : w'.tape = w.tape
  output : w'.output = w.output
  size : w.heap.size ≤ w'.heap.size
  block : ∀ k, k < w.heap.size → ¬ S k → w'.heap[k]? = w.heap[k]?

theorem Fr.refl (S : Nat → Prop) (w : World) : Fr S w w := ⟨rfl, rfl, rfl, Nat.le_refl _, fun _ _ _ => rfl⟩
theorem Fr.trans {S : Nat → Prop} {a b c : World} (h : Fr S a b) (k : Fr S b c) : Fr S a c :=
  ⟨k.os.trans h.os, k.tape.trans h.tape, k.output.trans h.output, Nat.le_trans h.size k.size, fun i hi hs => (k.block i (Nat.lt_of_lt_of_le hi h.size) hs).trans (h.block i hi hs)⟩
/-- What is written behind may be anything that is new. -/
theorem Fr.step {S T : Nat → Prop} {a b c : World} (h : Fr S a b) (k : Fr T b c) (hT : ∀ i, i < a.heap.size → T i → S i) : Fr S a c :=
  ⟨k.os.trans h.os, k.tape.trans h.tape, k.output.trans h.output, Nat.le_trans h.size k.size, fun i hi hs => (k.block i (Nat.lt_of_lt_of_le hi h.size) (fun ht => hs (hT i hi ht))).trans (h.block i hi hs)⟩
theorem Fr.mono {S T : Nat → Prop} {a b : World} (h : Fr S a b) (hT : ∀ i, i < a.heap.size → S i → T i) : Fr T a b :=
  ⟨h.os, h.tape, h.output, h.size, fun i hi hs => h.block i hi (fun hh => hs (hT i hi hh))⟩
theorem Fr.of_below {S : Nat → Prop} {a b : World} (h : Below a.heap.size a b) : Fr S a b := ⟨h.os, h.tape, h.output, h.size, fun k hk _ => h.block k hk⟩
theorem Fr.below {S : Nat → Prop} {a b : World} (h : Fr S a b) {B : Nat} (hB : B ≤ a.heap.size) (hS : ∀ i, i < B → ¬ S i) : Below B a b := ⟨h.os, h.tape, h.output, h.size, fun k hk => h.block k (by omega) (hS k hk)⟩
theorem Fr.alloc {S : Nat → Prop} {a b : World} (h : Fr S a b) (o : Obj) : Fr S a (b.alloc o) :=
  h.step (T := fun _ => False) (Fr.of_below ((Below.refl _ _).alloc (Nat.le_refl _) o)) (fun _ _ hf => hf.elim)
theorem Fr.drew {S : Nat → Prop} {a b : World} (h : Fr S a b) : Fr S a b.drew := ⟨h.os, h.tape, h.output, h.size, h.block⟩
theorem Fr.drewN {S : Nat → Prop} {a b : World} (h : Fr S a b) (n : Nat) : Fr S a (b.drewN n) := ⟨h.os, h.tape, h.output, h.size, h.block⟩
theorem Fr.setCell {S : Nat → Prop} {a b : World} (h : Fr S a b) {p : Addr} (hp : p.block < a.heap.size → S p.block) (u : Value) : Fr S a (b.setCell p u) :=
  ⟨h.os, h.tape, h.output, by simpa [World.setCell] using h.size, fun k hk hs => (Below.heap_setCell _ _ _ _ (fun e => hs (by rw [e] at hk ⊢; exact hp hk))).trans (h.block k hk hs)⟩
theorem Fr.setRow {S : Nat → Prop} {a b : World} (h : Fr S a b) {g : Nat} (hp : g < a.heap.size → S g) (cs : Array Value) : Fr S a (b.setRow g cs) :=
  ⟨h.os, h.tape, h.output, by simpa [World.setRow] using h.size, fun k hk hs => (setRow_other b g k cs (fun e => hs (by rw [e] at hk ⊢; exact hp hk))).trans (h.block k hk hs)⟩
theorem Fr.grown {S : Nat → Prop} {a b : World} {row : Option Nat} (hg : a.grownBy b row) (hS : ∀ k, k < a.heap.size → row = some k → S k) : Fr S a b :=
  ⟨hg.os, hg.tape, hg.output, hg.size, fun k hk hs => hg.block k hk (fun e => hs (hS k hk e.symm))⟩
theorem Fr.blk {S : Nat → Prop} {a b : World} (h : Fr S a b) {g : Nat} {o : Obj} (hg : a.heap[g]? = some o) (hs : ¬ S g) : b.heap[g]? = some o :=
  (h.block g (Array.getElem?_eq_some_iff.1 hg).1 hs).trans hg

/-- behind 'Below': a step that writes only blocks from B on -/
theorem below_fr {S : Nat → Prop} {B : Nat} {a b c : World} (h : Below B a b) (hB : B ≤ a.heap.size) (f : Fr S b c) (hS : ∀ k, k < B → ¬ S k) : Below B a c :=
  h.trans ⟨f.os, f.tape, f.output, f.size, fun k hk => f.block k (Nat.lt_of_lt_of_le hk (Nat.le_trans hB h.size)) (hS k hk)⟩
theorem below_al {B : Nat} {a b : World} (h : Below B a b) (hB : B ≤ a.heap.size) (o : Obj) : Below B a (b.alloc o) := h.alloc (Nat.le_trans hB h.size) o
theorem lt_of_blk {w : World} {g : Nat} {o : Obj} (hg : w.heap[g]? = some o) : g < w.heap.size := (Array.getElem?_eq_some_iff.1 hg).1

/-! heap behind the steps -/
theorem hp_alloc (w : World) (o : Obj) (k : Nat) : (w.alloc o).heap[k]? = if k = w.heap.size then some o else w.heap[k]? := by
  show (w.heap.push o)[k]? = _
  rw [Array.getElem?_push]
theorem hp_alloc_size (w : World) (o : Obj) : (w.alloc o).heap.size = w.heap.size + 1 := by simp
theorem hp_alloc_new (w : World) (o : Obj) : (w.alloc o).heap[w.heap.size]? = some o := by rw [hp_alloc, if_pos rfl]
theorem hp_alloc_old {w : World} {o' : Obj} {k : Nat} (h : w.heap[k]? = some o') (o : Obj) : (w.alloc o).heap[k]? = some o' := by
  rw [hp_alloc, if_neg (by have := lt_of_blk h; omega)]; exact h
theorem hp_setCell_same {w : World} {g : Nat} {cs : Array Value} {t : TypeId} {fr : Nat × Nat} (h : w.heap[g]? = some (.cells cs t fr)) (j : Nat) (u : Value) :
    (w.setCell ⟨g, j, none⟩ u).heap[g]? = some (.cells (cs.setIfInBounds j u) t fr) := by
  simp only [World.setCell, Array.getElem?_modify, if_true, h, Option.map_some]
  rfl
theorem hp_setCell_other {w : World} {k : Nat} {o : Obj} (h : w.heap[k]? = some o) {p : Addr} (hne : k ≠ p.block) (u : Value) : (w.setCell p u).heap[k]? = some o :=
  (Below.heap_setCell w p u k hne).trans h

/-- A cell of a block that is not frozen. -/
theorem cell_blk {w : World} {g j : Nat} {cs : Array Value} {t : TypeId} {fr : Nat × Nat} {v : Value} (h : w.heap[g]? = some (.cells cs t fr)) (hj : cs[j]? = some v) : w.cell? ⟨g, j, none⟩ = some v := by
  simp [World.cell?, h, hj]
theorem add_zero_ (a : Addr) : a.add 0 = a := rfl
theorem cell_al {w : World} {p : Addr} {v : Value} (h : w.cell? p = some v) : ∀ o, (w.alloc o).cell? p = some v := fun o => pw_cell_below ((Below.refl _ _).alloc (Nat.le_refl _) o) h
theorem frozen_blk {w : World} {g j : Nat} {cs : Array Value} {t : TypeId} (h : w.heap[g]? = some (.cells cs t (0, 0))) : w.frozen? ⟨g, j, none⟩ = false := by
  simp [World.frozen?, h]

/-! integers -/
theorem madeCells_one (z : Value) (n : Nat) : madeCells #[z] n = (List.replicate n z).toArray := by
  apply Array.ext'
  simp only [madeCells]
  apply List.ext_getElem
  · simp
  · intro i h1 h2; simp [Nat.mod_one]

theorem w64_in {n : Int} (h : -9223372036854775808 ≤ n ∧ n ≤ 9223372036854775807) : wrap64 n = n := by unfold wrap64; omega

/-! a slice with three indexes -/
theorem run_slice3 {P : Program} (t e : TypeId) {i : TypeInfo} (ht : P.underlying t = some (.slice e)) (hi : P.info? e = some i) (A : Option Addr) (n c : Nat) (lo hi' mx : Int) (h0 : 0 ≤ lo) (h1 : lo ≤ hi') (h2 : hi' ≤ mx) (h3 : mx ≤ c) :
    ∀ W : World, (Instr.slice t (.slice A n c) (some (.int .i64 lo)) (some (.int .i64 hi')) (some (.int .i64 mx))).run P W = .ok (.slice (if mx = lo then A else A.map (·.add (lo.toNat * i.size))) (hi' - lo).toNat (mx - lo).toNat) W := by
  intro W
  obtain ⟨lo, rfl⟩ := Int.eq_ofNat_of_zero_le h0
  obtain ⟨hi', rfl⟩ := Int.eq_ofNat_of_zero_le (show 0 ≤ hi' by omega)
  obtain ⟨mx, rfl⟩ := Int.eq_ofNat_of_zero_le (show 0 ≤ mx by omega)
  have h1 : lo ≤ hi' := by omega
  have h2 : hi' ≤ mx := by omega
  have h3 : mx ≤ c := by omega
  have e2 : ((hi' : Int) - lo).toNat = hi' - lo := by omega
  have e3 : ((mx : Int) - lo).toNat = mx - lo := by omega
  have e1 : ((mx : Int) = (lo : Int)) = (mx = lo) := propext ⟨fun h => by omega, fun h => by omega⟩
  simp [Instr.slice, Instr.sliceBounds, Instr.sliceBound, run_underlying ht, asIntOf, sizeOf, typeInfo, hi, h1, h2, h3, e1, e2, e3]

theorem run_slice_lo {P : Program} (t e : TypeId) {i : TypeInfo} (ht : P.underlying t = some (.slice e)) (hi : P.info? e = some i) (A : Option Addr) (n c lo : Nat) (h1 : lo ≤ n) (h2 : n ≤ c) (h3 : lo < c) :
    ∀ W : World, (Instr.slice t (.slice A n c) (some (.int .i64 (lo : Int))) none none).run P W = .ok (.slice (A.map (·.add (lo * i.size))) (n - lo) (c - lo)) W := by
  intro W
  have e2 : ((n : Int) - lo).toNat = n - lo := by omega
  have e3 : ((c : Int) - lo).toNat = c - lo := by omega
  have e1 : ¬ (c = lo) := by omega
  have e4 : (lo : Int) ≤ c := by omega
  have e5 : (n : Int) ≤ c := by omega
  simp [Instr.slice, Instr.sliceBounds, Instr.sliceBound, run_underlying ht, asIntOf, sizeOf, typeInfo, hi, h1, h2, e1, e2, e3, e4, e5]
theorem own_fr {S : Nat → Prop} {w w1 : World} {base : Nat} {e : TypeId} {size n : Nat} {v : Value} {xs : List Value} (h : w.ownsRow base e size v n xs) (hf : Fr S w w1) (hS : ∀ k, base ≤ k → k < w.heap.size → v.ownBlock = some k → ¬ S k) : w1.ownsRow base e size v n xs :=
  own_move h (fun k hk => hf.block k (h.lt k hk).2 (hS k (h.lt k hk).1 (h.lt k hk).2 hk))

/-- an owned row that is not nil: its block, and what lies there -/
theorem own_form {w : World} {base : Nat} {e : TypeId} {n : Nat} {v : Value} {xs : List Value} (h : w.ownsRow base e 1 v n xs) (hv : v.ownBlock ≠ none) :
    ∃ g cap spare, v = .slice (some ⟨g, 0, none⟩) n cap ∧ base ≤ g ∧ w.heap[g]? = some (.cells (xs ++ spare).toArray e (0, 0)) ∧ n + spare.length = cap ∧ cap ≤ maxLen := by
  obtain ⟨h0, h1⟩ := h
  rcases h1 with ⟨rfl, _⟩ | ⟨g, cap, cur, rfl, hb, hh, h1, h2, h3, h4⟩
  · exact absurd rfl hv
  · refine ⟨g, cap, cur.toList.drop n, rfl, hb, ?_, by simp; omega, h2⟩
    rw [← h4, Nat.mul_one, List.take_append_drop]
    exact hh

/-- an element of a slice that reads -/
theorem rd_at {w : World} {k : IntKind} {A : Option Addr} {n : Nat} {xs : List Int} (h : ReadsInt w k A n xs) (i : Nat) (hi : i < n) : ∃ ad x, A = some ad ∧ xs[i]? = some x ∧ w.cell? (ad.add i) = some (.int k x) := by
  obtain ⟨ad, ha, hc⟩ := h.2.2 (by omega)
  have hl := h.1
  refine ⟨ad, xs[i]'(by omega), ha, List.getElem?_eq_getElem _, ?_⟩
  rw [hc i hi, List.getD_eq_getElem?_getD, List.getElem?_eq_getElem (by omega)]
  rfl
theorem I64_at {xs : List Int} {i : Nat} {x : Int} (h : xs[i]? = some x) : (I64 xs)[i]? = some (.int .i64 x) := by
  rw [List.getElem?_map, h]; rfl

theorem lit_reads (w : World) (k : IntKind) (x : Int) (t : TypeId) : ReadsInt (w.alloc (.cells #[.int k x] t)) k (some ⟨w.heap.size, 0, none⟩) [x].length [x] := by
  refine ⟨rfl, by simp, fun _ => ⟨_, rfl, fun j hj => ?_⟩⟩
  obtain rfl : j = 0 := by simpa using hj
  exact cell_blk (hp_alloc_new _ _) rfl
/-- an owned row of numbers reads -/
theorem own_rd {w : World} {base : Nat} {e : TypeId} {n : Nat} {v : Value} {xs : List Int} (h : w.ownsRow base e 1 v n (I64 xs)) : ∃ A c, v = .slice A n c ∧ n ≤ c ∧ ReadsInt w .i64 A n xs ∧ (A = none → c = 0) := by
  rcases h.2 with ⟨rfl, rfl⟩ | ⟨g, cap, cur, rfl, _, _, hle, _⟩
  · refine ⟨none, 0, rfl, Nat.le_refl _, ?_, fun _ => rfl⟩
    have := h.1
    exact ⟨by simpa using this, by omega, fun h => by omega⟩
  · obtain ⟨A, c, he, hr⟩ := own_reads (k := .i64) h
    injection he with h1 h2 h3
    subst h1; subst h3
    exact ⟨_, _, rfl, hle, hr, fun h => by cases h⟩

/-! append, copy: as equations on the run -/
/-- 'append(v, src...)': v of the call's own, src whatever reads. -/
theorem run_app {P : Program} {W : World} (t ty e : TypeId) (z : Value) (size bytes : Nat) (ht : P.underlying t = some (.slice e)) (hinfo : (P.info? e).map (fun i => (i.zero, i.size, i.bytes)) = some (some z, size, bytes)) (hz : z.cells.size = size) (hs0 : 0 < size) (hb0 : 0 < bytes)
    (base : Nat) (v : Value) (n : Nat) (xs : List Value) (HO : W.ownsRow base e size v n xs) (A : Option Addr) (m c : Nat) (news : List Value) (hl : news.length = m * size)
    (hsrc : 0 < m → ∃ ad, A = some ad ∧ ∀ j u, news[j]? = some u → W.cell? (ad.add j) = some u) (h1 : ∀ u ∈ news, u.oneCell' = true) (hbase : base ≤ W.heap.size) (hbytes : (n + m) * bytes ≤ 140737488355328) :
    ∃ v1 w1, (Builtin.append_ #[t, t] ty #[v, .slice A m c]).run P W = .ok v1 w1 ∧ w1.ownsRow base e size v1 (n + m) (xs ++ news) ∧ W.grownBy w1 v.ownBlock ∧ (v1.ownBlock = v.ownBlock ∨ v1.ownBlock = some W.heap.size) := by
  obtain ⟨i0, hi, hzz⟩ := Option.map_eq_some_iff.1 hinfo
  simp only [Prod.mk.injEq] at hzz
  obtain ⟨hz0, hz1, hz2⟩ := hzz
  have hlen : n + m ≤ 140737488355328 := Nat.le_trans (Nat.le_mul_of_pos_right _ hb0) hbytes
  rcases A with _ | ad
  · have h0 : m = 0 := by
      rcases Nat.eq_zero_or_pos m with h0 | h0
      · exact h0
      · obtain ⟨ad, h, _⟩ := hsrc h0
        cases h
    subst h0
    obtain rfl : news = [] := List.eq_nil_of_length_eq_zero (by omega)
    refine ⟨v, W, ?_, by simpa using HO, ⟨rfl, rfl, rfl, Nat.le_refl _, fun _ _ _ => rfl⟩, .inl rfl⟩
    rcases HO.2 with ⟨rfl, hn⟩ | ⟨g, cap, cur, rfl, _, _, hnc, _⟩
    · simp [Builtin.append_, run_underlying ht, sizeOf, typeInfo, hi, Builtin.lenOf, Builtin.firstCells]
    · simp [Builtin.append_, run_underlying ht, sizeOf, typeInfo, hi, Builtin.lenOf, Builtin.firstCells, hnc, storeCells]
  · have hcells : ∀ j u, news[j]? = some u → W.cell? (ad.add j) = some u := by
      intro j u hu
      have hj : j < news.length := (List.getElem?_eq_some_iff.1 hu).1
      have hm : 0 < m := by
        rcases Nat.eq_zero_or_pos m with h0 | h0
        · rw [h0] at hl; omega
        · exact h0
      obtain ⟨ad', h', hc⟩ := hsrc hm
      injection h' with h'
      subst h'
      exact hc j u hu
    obtain ⟨v1, w1, hr, h2, h3, _, h5⟩ := run_append_own_at (P := P) W base t ty e i0 z size bytes ht hi hz0 hz1 hz2 hz hs0 v n xs HO ad m c news hl hcells h1 (by simp only [maxLen]; omega) hbytes hbase
    exact ⟨v1, w1, hr, h2, h3, h5⟩

/-- 'append(v, src...)', scalars. -/
theorem run_app_of {P : Program} {W : World} {α : Type} (enc : α → Value) (d : α) (t ty e : TypeId) (z : Value) (bytes : Nat) (ht : P.underlying t = some (.slice e)) (hinfo : (P.info? e).map (fun i => (i.zero, i.size, i.bytes)) = some (some z, 1, bytes)) (hz : z.cells.size = 1) (hb0 : 0 < bytes) (h1 : ∀ x : α, (enc x).oneCell' = true)
    (base : Nat) (v : Value) (xs : List α) (HO : W.ownsRow base e 1 v xs.length (encs enc xs)) (A : Option Addr) (c : Nat) (ys : List α) (HR : ReadsOf enc d W A ys.length ys) (hbase : base ≤ W.heap.size) (hbytes : (xs.length + ys.length) * bytes ≤ 140737488355328) :
    ∃ v1 w1, (Builtin.append_ #[t, t] ty #[v, .slice A ys.length c]).run P W = .ok v1 w1 ∧ w1.ownsRow base e 1 v1 (xs ++ ys).length (encs enc (xs ++ ys)) ∧ W.grownBy w1 v.ownBlock ∧ (v1.ownBlock = v.ownBlock ∨ v1.ownBlock = some W.heap.size) := by
  have hcells : 0 < ys.length → ∃ ad, A = some ad ∧ ∀ j u, (encs enc ys)[j]? = some u → W.cell? (ad.add j) = some u := by
    intro hp
    obtain ⟨ad, h', hc⟩ := HR.2.2 hp
    refine ⟨ad, h', fun j u hu => ?_⟩
    have hj : j < ys.length := by
      rcases Nat.lt_or_ge j ys.length with h | h
      · exact h
      · simp [encs, List.getElem?_eq_none h] at hu
    rw [encs_get (d := d) ys j hj] at hu
    rw [← hu]
    exact hc j hj
  obtain ⟨v1, w1, hr, h2, h3, h4⟩ := run_app (P := P) t ty e z 1 bytes ht hinfo hz (by omega) hb0 base v xs.length (encs enc xs) HO A ys.length c (encs enc ys) (by rw [encs_length]; omega) hcells
    (by intro u hu; simp only [encs, List.mem_map] at hu; obtain ⟨q, _, rfl⟩ := hu; exact h1 q) hbase hbytes
  exact ⟨v1, w1, hr, by rw [List.length_append, encs_append]; exact h2, h3, h4⟩

/-- 'append(v, x)', one scalar: its cell lies in a block of its own. -/
theorem run_app1 {P : Program} {W : World} {α : Type} (enc : α → Value) (t ty e : TypeId) (z : Value) (bytes : Nat) (ht : P.underlying t = some (.slice e)) (hinfo : (P.info? e).map (fun i => (i.zero, i.size, i.bytes)) = some (some z, 1, bytes)) (hz : z.cells.size = 1) (hb0 : 0 < bytes) (h1 : ∀ x : α, (enc x).oneCell' = true)
    (base : Nat) (v : Value) (xs : List α) (y : α) (HO : W.ownsRow base e 1 v xs.length (xs.map enc)) (hbase : base ≤ W.heap.size) (hbytes : (xs.length + 1) * bytes ≤ 140737488355328) :
    ∃ v1 w1, (Builtin.append_ #[t, t] ty #[v, .slice (some ⟨W.heap.size, 0, none⟩) 1 1]).run P (W.alloc (.cells #[enc y] e)) = .ok v1 w1 ∧ w1.ownsRow base e 1 v1 (xs ++ [y]).length ((xs ++ [y]).map enc) ∧ W.grownBy w1 v.ownBlock ∧ (v1.ownBlock = v.ownBlock ∨ ∃ b, v1.ownBlock = some b ∧ W.heap.size ≤ b) := by
  obtain ⟨v1, w1, hr, h2, h3, h4⟩ := run_app (P := P) (W := W.alloc (.cells #[enc y] e)) t ty e z 1 bytes ht hinfo hz (by omega) hb0 base v xs.length (xs.map enc) (HO.alloc _) (some ⟨W.heap.size, 0, none⟩) 1 1 [enc y] rfl
    (fun _ => ⟨_, rfl, cell_one_new _ _ _⟩) (fun u hu => by rw [List.mem_singleton.1 hu]; exact h1 y) (by simp; omega) hbytes
  refine ⟨v1, w1, hr, by rw [List.length_append, List.map_append]; exact h2, (World.grownBy_alloc W _ _).trans h3, ?_⟩
  rcases h4 with h4 | h4
  · exact .inl h4
  · exact .inr ⟨_, h4, by simp⟩

/-- 'copy(dst, src)' into a block, from offset off on. -/
theorem run_cpy {P : Program} {W : World} (dT sT ty e : TypeId) (hu : P.underlying dT = some (.slice e)) (hsz : (P.info? e).map (·.size) = some 1)
    (g off : Nat) (cur : List Value) (t : TypeId) (hg : W.heap[g]? = some (.cells cur.toArray t (0, 0))) (A : Option Addr) (dLen dCap sLen sCap : Nat) (cs : List Value) (hn : cs.length = Nat.min sLen dLen)
    (hsrc : 0 < cs.length → ∃ ad, A = some ad ∧ ∀ j u, cs[j]? = some u → W.cell? (ad.add j) = some u) (hfit : off + cs.length ≤ cur.length) (h1 : ∀ v ∈ cs, v.oneCell' = true) (off' : Nat) (ho : 0 < cs.length → off' = off) :
    ∃ w1, (Builtin.copy_ #[dT, sT] ty #[.slice (some ⟨g, off', none⟩) dLen dCap, .slice A sLen sCap]).run P W = .ok (goInt cs.length) w1 ∧ w1.heap[g]? = some (.cells (cur.take off ++ cs ++ cur.drop (off + cs.length)).toArray t (0, 0)) ∧ Fr (· = g) W w1 := by
  by_cases h0 : cs.length = 0
  · obtain rfl : cs = [] := List.eq_nil_of_length_eq_zero h0
    refine ⟨W, ?_, by simpa using hg, Fr.refl _ _⟩
    have hmin : Nat.min sLen dLen = 0 := by simpa using hn.symm
    exact run_copy_none (P := P) W dT sT ty e (some ⟨g, off', none⟩) A dLen dCap sLen sCap hu hsz hmin
  · obtain ⟨ad, rfl, hs⟩ := hsrc (by omega)
    rw [ho (by omega)]
    refine ⟨_, run_copy_row (P := P) W dT sT ty e g off dLen dCap ad sLen sCap cur.toArray t cs hu hsz hg hn hs (by simpa using hfit) h1, ?_, (Fr.refl (fun x => x = g) W).setRow (fun _ => rfl) _⟩
    have := setRow_heap W g _ (cur.take off ++ cs ++ cur.drop (off + cs.length)).toArray t _ hg
    simpa using this

/-! a builtin's call, by an equation on its run -/
theorem wpList_app {P : Program} {ops : Array Oper} {rest : List Oper} {o : Oper} {a : Act} {Q : Exit → Act → World → Prop} {W w1 : World} {s x : Operand} {t : TypeId} {v v1 : Value} {u : Value} (hgd : o.guard = none)
    (ho : o.op = .call { callee := .builtin .append, args := #[s, x], argTypes := #[t, t] }) (hs : a.eval s = v) (hx : a.eval x = u)
    (hr : (Builtin.append_ #[t, t] o.type #[v, u]).run P W = .ok v1 w1) (h : wpList P ops Q rest (a.put o.dst v1) w1) : wpList P ops Q (o :: rest) a W := by
  refine wpList_plain hgd fun K hK => ?_
  unfold Oper.wp execOp
  simp only [ho, resolve, invoke, builtin, Sem.run_bind, Sem.run_pure, Result.andThen_ok, List.map_toArray, List.map_cons, List.map_nil, hs, hx, hr]
  exact hK _ _ h
theorem wpList_clr {P : Program} {ops : Array Oper} {rest : List Oper} {o : Oper} {a : Act} {Q : Exit → Act → World → Prop} {W w1 : World} {s : Operand} {t : TypeId} {v v1 : Value} (hgd : o.guard = none)
    (ho : o.op = .call { callee := .builtin .clear, args := #[s], argTypes := #[t] }) (hs : a.eval s = v)
    (hr : (Builtin.clear_ #[t] o.type #[v]).run P W = .ok v1 w1) (h : wpList P ops Q rest (a.put o.dst v1) w1) : wpList P ops Q (o :: rest) a W := by
  refine wpList_plain hgd fun K hK => ?_
  unfold Oper.wp execOp
  simp only [ho, resolve, invoke, builtin, Sem.run_bind, Sem.run_pure, Result.andThen_ok, List.map_toArray, List.map_cons, List.map_nil, hs, hr]
  exact hK _ _ h
theorem wpList_cpy {P : Program} {ops : Array Oper} {rest : List Oper} {o : Oper} {a : Act} {Q : Exit → Act → World → Prop} {W w1 : World} {s x : Operand} {t t' : TypeId} {v v1 : Value} {u : Value} (hgd : o.guard = none)
    (ho : o.op = .call { callee := .builtin .copy, args := #[s, x], argTypes := #[t, t'] }) (hs : a.eval s = v) (hx : a.eval x = u)
    (hr : (Builtin.copy_ #[t, t'] o.type #[v, u]).run P W = .ok v1 w1) (h : wpList P ops Q rest (a.put o.dst v1) w1) : wpList P ops Q (o :: rest) a W := by
  refine wpList_plain hgd fun K hK => ?_
  unfold Oper.wp execOp
  simp only [ho, resolve, invoke, builtin, Sem.run_bind, Sem.run_pure, Result.andThen_ok, List.map_toArray, List.map_cons, List.map_nil, hs, hx, hr]
  exact hK _ _ h

end Go.RK
