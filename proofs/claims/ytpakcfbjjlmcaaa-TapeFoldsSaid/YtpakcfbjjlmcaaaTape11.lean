/- The document's example lives. No condition. -/
import Derived.Test.YtpakcfbjjlmcaaaTape10
set_option linter.unusedVariables false
set_option linter.unusedSimpArgs false
set_option maxHeartbeats 3200000
set_option maxRecDepth 100000
namespace Go.Proofs.Ytpakcfbjjlmcaaa.Tape
open Go.RowKit Go.RK Go.TP Go.Proofs.YtpakcfbjjlmcaaaW.PrintWords
open Go.Proofs.Ytpakcfbjjlmcaaa.PAll (S142 k142 at_T142)
variable {W : World} {M Z : Nat → Prop} {g : Nat} {width : Int} {v : Value} {X : List (List Int)}
theorem val_lit {n : Nat} {xs : List Int} {cs : Array Value} (h : (HP.blk g (.cells cs 2 (0, 0))).at_ W M) (hc : cs.toList = xs.map (Value.int .i64)) (hn : xs.length = n) (hm : n ≤ 1000) : (HP.val KI (.slice (some ⟨g, 0, none⟩) n n) xs).at_ W M := by
  subst hn
  have hs : cs.size = xs.length := by rw [← Array.length_toList, hc, List.length_map]
  have := raw_lit (base := 0) h (Nat.zero_le _) hs hm
  rw [hc] at this
  exact HP.val_of (d := KI) this (HP.reps_scalar _ _ rfl)
theorem val_rows1 {A : Option Addr} {c : Nat} {a : List Int} (h : (HP.blk g (.cells #[.slice A a.length c] 22 (0, 0))).at_ W M) (ha : (HP.val KI (.slice A a.length c) a).at_ W M) : (HP.val KR (.slice (some ⟨g, 0, none⟩) 1 1) [a]).at_ W M :=
  HP.val_of (d := KR) (xs := [a]) (raw_lit (base := 0) h (Nat.zero_le _) rfl (by omega)) (HP.reps_snoc (d := KR) (HP.reps_nil _ _ _) (HP.kind_val ha))
theorem val_rows2 {A B : Option Addr} {c d : Nat} {a b : List Int} (h : (HP.blk g (.cells #[.slice A a.length c, .slice B b.length d] 22 (0, 0))).at_ W M) (ha : (HP.val KI (.slice A a.length c) a).at_ W M) (hb : (HP.val KI (.slice B b.length d) b).at_ W M) : (HP.val KR (.slice (some ⟨g, 0, none⟩) 2 2) [a, b]).at_ W M :=
  HP.val_of (d := KR) (xs := [a, b]) (raw_lit (base := 0) h (Nat.zero_le _) rfl (by omega)) (HP.reps_snoc (d := KR) (xs := [a]) (HP.reps_snoc (d := KR) (HP.reps_nil _ _ _) (HP.kind_val ha)) (HP.kind_val hb))
theorem set_as {v : Value} {A1 : Option Addr} {n c1 : Nat} {rows : List (List Int)} (o : Int) (Y : List (List Int)) (del : List S142) (h : (HP.blk g (tp v 0 width)).at_ W M) (hv : (HP.val KR v X).at_ W Z) (hx : (HP.val KR (.slice A1 n c1) rows).at_ W Z) (hn : rows.length = n) (hd : ∀ k, Z k → ¬ M k) (hX : X.length ≤ 5000) (hrl : rows.length ≤ 5000) (hr0 : ∀ r ∈ X, r.length ≤ 10000) (hr1 : ∀ r ∈ rows, r.length ≤ 10000) (he : setD 0 width X o rows = (Y, del, 0)) :
    Calls Try.prog 59 #[.pointer (some ⟨g, 0, none⟩), .int .i64 o, .slice A1 n c1] W fun e w' => ∃ (q : Value × Value), e = .returned (.tuple #[q.2, .int .i64 0]) ∧ Does W M Z ((HP.val KR q.1 Y).and (HP.val k142 q.2 del)) (HP.blk g (tp q.1 0 width)) w' := by
  subst hn
  have h := set_any (X := X) (width := width) o 0 h hv hx hd (by omega) hX hrl hr0 hr1
  rw [he] at h
  exact h
theorem lives_true : Calls Try.prog 57 #[] W fun e w' => e = .returned (.bool true) ∧ Below W.heap.size W w' := by
  have H := Aside0.mk (Cx.startz (W := W) (Z := fun _ => False) (Φ := HP.tt) trivial)
  have e1 := Lib.hid (show setD 0 1 [] 0 [[1], [2]] = ([[1], [2]], [⟨1, 0, [1]⟩, ⟨1, 1, [2]⟩], 0) from rfl)
  have e2 := Lib.hid (show setD 0 1 [[1], [2]] 1 [[3]] = ([[1], [3]], [⟨2, 1, [3]⟩], 0) from rfl)
  have e3 := Lib.hid (show setD 0 1 [[1], [3]] 1 [] = ([[1]], [⟨3, 1, []⟩], 0) from rfl)
  go_enter Try.func57, Try.ntmps57
  go_wp2_with fail
  refine (H.out.cnew (α := Nat) (R := fun g e => e = .returned (.tuple #[.pointer (some ⟨g, 0, none⟩), .int .i64 0])) (Ψ' := fun g => HP.blk g (tp (.slice none 0 0) 0 1)) (new_made 1 (by omega) (by omega))).mono ?_
  rintro e w1 ⟨g, rfl, H1⟩
  have H2 := Aside0.mk ((((H1.allocF (.cells #[.int .i64 1] 2 (0, 0))).allocF1 (.cells #[.int .i64 2] 2 (0, 0))).allocF2 (.cells #[.slice (some ⟨w1.heap.size, 0, none⟩) 1 1, .slice (some ⟨w1.heap.size + 1, 0, none⟩) 1 1] 22 (0, 0))).imp (Φ' := HP.val KR (.slice (some ⟨w1.heap.size + 1 + 1, 0, none⟩) 2 2) [[1], [2]]) (fun Z hz => val_rows2 (a := [1]) (b := [2]) hz.2 (val_lit (n := 1) hz.1.1.2 rfl rfl (by omega)) (val_lit (n := 1) hz.1.2 rfl rfl (by omega))))
  clear H1 H
  go_wp2_with fail
  refine (H2.out.cuse (α := Value × Value) (R := fun q e => e = .returned (.tuple #[q.2, .int .i64 0])) (Φ' := fun q => (HP.val KR q.1 [[1], [2]]).and (HP.val k142 q.2 [⟨1, 0, [1]⟩, ⟨1, 1, [2]⟩])) (Ψ' := fun q => HP.blk g (tp q.1 0 1)) 0 rfl (fun M Z hM hZ hd => set_as 0 _ _ hM (HP.val_nil _ _ _) hZ rfl hd (by simp) (by simp) (by simp) (by simp) e1.out)).mono ?_
  rintro e w2 ⟨⟨v2, a⟩, rfl, H3⟩
  obtain ⟨A3, c3, rfl, _⟩ := HP.val_now (H3.now.choose_spec).2.2
  have H4 := Aside0.mk ((((H3.imp (fun Z hz => hz.2)).allocF (.cells #[.int .i64 3] 2 (0, 0))).allocF1 (.cells #[.slice (some ⟨w2.heap.size, 0, none⟩) 1 1] 22 (0, 0))).imp (Φ' := ((HP.val KR v2 [[1], [2]]).and (HP.val k142 (.slice A3 2 c3) [⟨1, 0, [1]⟩, ⟨1, 1, [2]⟩])).and (HP.val KR (.slice (some ⟨w2.heap.size + 1, 0, none⟩) 1 1) [[3]])) (fun Z hz => ⟨hz.1.1, val_rows1 (a := [3]) hz.2 (val_lit (n := 1) hz.1.2 rfl rfl (by omega))⟩))
  clear H2 H3
  go_wp2_with fail
  refine (H4.out.cuse (α := Value × Value) (R := fun q e => e = .returned (.tuple #[q.2, .int .i64 0])) (Φ' := fun q => (HP.val KR q.1 [[1], [3]]).and (HP.val k142 q.2 [⟨2, 1, [3]⟩])) (Ψ' := fun q => HP.blk g (tp q.1 0 1)) 0 rfl (fun M Z hM hZ hd => set_as 1 _ _ hM hZ.1.1 hZ.2 rfl hd (by simp) (by simp) (by simp) (by simp) e2.out)).mono ?_
  rintro e w3 ⟨⟨v3, b⟩, rfl, H5⟩
  obtain ⟨A5, c5, rfl, _⟩ := HP.val_now (H5.now.choose_spec).2.2
  have H6 := Aside0.mk (H5.imp (Φ' := ((HP.val KR v3 [[1], [3]]).and (HP.val k142 (.slice A3 2 c3) [⟨1, 0, [1]⟩, ⟨1, 1, [2]⟩])).and (HP.val k142 (.slice A5 1 c5) [⟨2, 1, [3]⟩])) (fun Z hz => ⟨⟨hz.2.1, hz.1.1.2⟩, hz.2.2⟩))
  clear H4 H5
  go_wp2_with fail
  refine (H6.out.cuse (α := Value × Value) (R := fun q e => e = .returned (.tuple #[q.2, .int .i64 0])) (Φ' := fun q => (HP.val KR q.1 [[1]]).and (HP.val k142 q.2 [⟨3, 1, []⟩])) (Ψ' := fun q => HP.blk g (tp q.1 0 1)) 0 rfl (fun M Z hM hZ hd => set_as 1 _ _ hM hZ.1.1 (HP.val_nil _ _ _) rfl hd (by simp) (by simp) (by simp) (by simp) e3.out)).mono ?_
  rintro e w4 ⟨⟨v4, d⟩, rfl, H7⟩
  obtain ⟨A7, c7, rfl, _⟩ := HP.val_now (H7.now.choose_spec).2.2
  have H8 := H7.imp (Φ' := ((HP.val k142 (.slice A3 2 c3) [⟨1, 0, [1]⟩, ⟨1, 1, [2]⟩]).and (HP.val k142 (.slice A5 1 c5) [⟨2, 1, [3]⟩])).and (HP.val k142 (.slice A7 1 c7) [⟨3, 1, []⟩])) (fun Z hz => ⟨⟨hz.1.1.2, hz.1.2⟩, hz.2.2⟩)
  have hz := H8.now.choose_spec
  obtain ⟨ada, _, _, rfl, qa0, _⟩ := at_T142 (HP.val_C (xs := [⟨1, 0, [1]⟩, ⟨1, 1, [2]⟩]) hz.1.1) 1 (by omega) (by simp)
  obtain ⟨adb, _, _, rfl, qb0, qb1, _⟩ := at_T142 (HP.val_C (xs := [⟨2, 1, [3]⟩]) hz.1.2) 0 (by omega) (by simp)
  obtain ⟨add, _, _, rfl, qd0, qd1, _⟩ := at_T142 (HP.val_C (xs := [⟨3, 1, []⟩]) hz.2) 0 (by omega) (by simp)
  have hbl := Aside0.mk H8.below
  clear H6 H7 H8 hz
  replace qa0 : w4.cell? ⟨ada.block, ada.off + 3, none⟩ = some (.int .i64 1) := qa0
  replace qb0 : w4.cell? adb = some (.int .i64 2) := qb0
  replace qb1 : w4.cell? ⟨adb.block, adb.off + 1, none⟩ = some (.int .i64 1) := qb1
  replace qd0 : w4.cell? add = some (.int .i64 3) := qd0
  replace qd1 : w4.cell? ⟨add.block, add.off + 1, none⟩ = some (.int .i64 1) := qd1
  go_wp2
  go_ret
  exact ⟨rfl, hbl.out⟩
end Go.Proofs.Ytpakcfbjjlmcaaa.Tape
