/- Rows of lines; the document's example lives. No condition. -/
import Derived.Test.YtbndpdjpfehdnaaChunk4
import Derived.Test.YtbndpdjpfehdnaaWEqStruct
import Derived.Lib.SlBytesConst
set_option linter.unusedVariables false
set_option linter.unusedSimpArgs false
set_option maxHeartbeats 1600000
set_option maxRecDepth 100000
namespace Go.Proofs.Ytbndpdjpfehdnaa.Chunk
open Go.RowKit Go.RK Go.Proofs.YtbndpdjpfehdnaaW.PrintWords
variable {W : World} {M Z : Nat → Prop} {g : Nat} {v : Value} {cur b : List Int} {came : Int}
theorem line_at {A : Option Addr} {xs : List (ByteArray × Bool)} (h : (HP.rd kL A xs).at_ W M) (k : Nat) {x : ByteArray × Bool} (hx : xs[k]? = some x) : ∃ ad, A = some ad ∧ W.cell? (ad.add (k * 2)) = some (.string x.1) ∧ W.cell? ⟨(ad.add (k * 2)).block, (ad.add (k * 2)).off + 1, none⟩ = some (.bool x.2) := by
  obtain ⟨ad, cs, e, hK, hc⟩ := HP.rd_get h k hx
  obtain ⟨c1, c2, rfl, h1, h2⟩ := HP.foot_now hK
  have h1 : c1 = [.string x.1] := h1
  have h2 : c2 = [.bool x.2] := h2
  subst h1 h2
  refine ⟨ad, e, hc 0 _ rfl, ?_⟩
  rw [← add_field _ _ 1 (by omega)]; exact hc 1 _ rfl
theorem val_bytes {n : Nat} {xs : List Int} {cs : Array Value} {fr : Nat × Nat} (h : (HP.blk g (.cells cs 5 fr)).at_ W M) (hc : cs.toList = I8 xs) (hn : xs.length = n) (hm : n ≤ 1000) : (HP.val K8 (.slice (some ⟨g, 0, none⟩) n n) xs).at_ W M := by
  subst hn
  refine ⟨_, _, rfl, Nat.le_refl _, fun W' hW => ?_⟩
  have hb : W'.heap[g]? = some (.cells cs 5 fr) := (hW g h.2 (lt_of_blk h.1)).trans h.1
  refine ⟨rfl, by omega, fun _ => ⟨⟨g, 0, none⟩, rfl, fun j x hx => ⟨[.int .u8 x], rfl, rfl, fun i u hu => ?_⟩⟩⟩
  have hi : i = 0 := by have := (List.getElem?_eq_some_iff.1 hu).1; simp at this; omega
  subst hi
  have hu' : u = .int .u8 x := by simpa using hu.symm
  subst hu'
  rw [add_plain]
  refine cell_blk hb ?_
  have e : j * K8.sz + 0 = j := by show j * 1 + 0 = j; omega
  rw [e, ← Array.getElem?_toList, hc, List.getElem?_map, hx]
  rfl
theorem feed_as {A1 : Option Addr} {n c1 : Nat} (L : List (ByteArray × Bool)) (cur' : List Int) (cm : Int) (hn : b.length = n) (hf : (feed cur b).1.map lineV = L) (hf2 : (feed cur b).2 = cur') (hcm : came + b.length = cm) (h : (Ck g cur came).at_ W M) (hv : (HP.val K8 (.slice A1 n c1) b).at_ W Z) (hd : ∀ k, Z k → ¬ M k) (hb : b.length ≤ 10000) (hbb : ∀ x ∈ b, 0 ≤ x ∧ x < 256) (hc0 : 0 ≤ came) (hc1 : came ≤ 1000000) :
    Calls Try.prog 9 #[.pointer (some ⟨g, 0, none⟩), .slice A1 n c1] W fun e w' => ∃ q : Option Addr × Nat, e = .returned (.slice q.1 L.length q.2) ∧ Does W M Z (HP.val kL (.slice q.1 L.length q.2) L) (Ck g cur' cm) w' := by
  subst hn hf hf2 hcm
  refine (feed_ck h hv hd hb hbb hc0 hc1).mono ?_
  rintro e w' ⟨v, rfl, H⟩
  obtain ⟨_, M1, hM, hΦ, _⟩ := id H
  obtain ⟨A, c, rfl, _⟩ := HP.val_now hΦ
  exact ⟨(A, c), rfl, H⟩
theorem lives_true : Calls Try.prog 7 #[] W fun e w' => e = .returned (.bool true) ∧ Below W.heap.size W w' := by
  have H := Aside0.mk (Cx.startz (W := W) (Z := fun _ => False) (Φ := HP.tt) trivial)
  go_enter Try.func7, Try.ntmps7
  go_wp2_with fail
  refine (H.out.cnew (α := Nat) (R := fun g e => e = .returned (.pointer (some ⟨g, 0, none⟩))) (Ψ' := fun g => Ck g [] 0) new_ck).mono ?_
  rintro e w1 ⟨g, rfl, H1⟩
  have H2 := Aside0.mk ((H1.allocF (.cells #[.int .u8 97, .int .u8 98] 5 (2, 3))).imp (Φ' := HP.val K8 (.slice (some ⟨w1.heap.size, 0, none⟩) 2 2) [97, 98]) (fun Z hz => val_bytes (n := 2) hz.2 rfl rfl (by omega)))
  have hc1 := Lib.run_convert_bytes_const (P := Try.prog) w1 27 5 #[.int .u8 97, .int .u8 98] 2 2 Try.underlying27 Try.underlying5
  clear H1 H
  go_wp2_with fail
  refine (H2.out.cuse (α := Option Addr × Nat) (R := fun q e => e = .returned (.slice q.1 0 q.2)) (Φ' := fun q => HP.tt) (Ψ' := fun q => Ck g [97, 98] 2) 0 rfl (fun M Z hM hZ hd => (feed_as (b := [97, 98]) (cur := []) (came := 0) (n := 2) [] [97, 98] 2 rfl rfl rfl rfl hM hZ hd (by simp) (by simp) (by omega) (by omega)).mono (fun e w' ⟨q, h1, h2⟩ => ⟨q, h1, ⟨h2.fr, let ⟨M1, a, b, c⟩ := h2.ex; ⟨M1, a, trivial, c⟩⟩⟩))).mono ?_
  rintro e w2 ⟨⟨A2, c2⟩, rfl, H3⟩
  have H4 := Aside0.mk ((H3.allocF (.cells #[.int .u8 99, .int .u8 10, .int .u8 100] 5 (3, 4))).imp (Φ' := HP.val K8 (.slice (some ⟨w2.heap.size, 0, none⟩) 3 3) [99, 10, 100]) (fun Z hz => val_bytes (n := 3) hz.2 rfl rfl (by omega)))
  have hc2 := Lib.run_convert_bytes_const (P := Try.prog) w2 27 5 #[.int .u8 99, .int .u8 10, .int .u8 100] 3 3 Try.underlying27 Try.underlying5
  clear H2 H3 hc1
  go_wp2_with fail
  refine (H4.out.cuse (α := Option Addr × Nat) (R := fun q e => e = .returned (.slice q.1 1 q.2)) (Φ' := fun q => HP.val kL (.slice q.1 1 q.2) [(⟨#[97, 98, 99]⟩, false)]) (Ψ' := fun q => Ck g [100] 5) 0 rfl (fun M Z hM hZ hd => feed_as (b := [99, 10, 100]) (cur := [97, 98]) (came := 2) (n := 3) [(⟨#[97, 98, 99]⟩, false)] [100] 5 rfl rfl rfl rfl hM hZ hd (by simp) (by simp) (by omega) (by omega))).mono ?_
  rintro e w3 ⟨⟨A3, c3⟩, rfl, H5⟩
  replace H5 := Aside0.mk H5
  clear H4
  go_wp2_with fail
  refine (H5.out.cobj 0 rfl (fun M Z hM hZ hd => end_ck hM hd ⟨#[100]⟩ false true (Lib.hid rfl) (Lib.hid rfl))).mono ?_
  rintro e w4 ⟨rfl, H6⟩
  obtain ⟨ad, rfl, q0, _⟩ := line_at (HP.val_rd (xs := [(⟨#[97, 98, 99]⟩, false)]) H6.now.choose_spec.2) 0 rfl
  replace q0 : w4.cell? ad = some (.string ⟨#[97, 98, 99]⟩) := q0
  have H7 := Aside0.mk (H6.alloc (.cells #[.string ⟨#[100]⟩, .bool false] 35 (0, 0)))
  have q0' := cell_al q0 (.cells #[.string ⟨#[100]⟩, .bool false] 35 (0, 0))
  have p0 := H7.out.cell 1 rfl 0 rfl
  have hu := Try.underlying35
  clear H5 H6 q0
  go_wp2
  go_ret
  exact ⟨rfl, H7.out.below⟩
end Go.Proofs.Ytbndpdjpfehdnaa.Chunk
