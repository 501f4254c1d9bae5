/- RingPlays, walked. No condition but that the arguments read. -/
import Derived.Test.YtpakcfbjjlmcaaaRingLaw
import Derived.Test.YtpakcfbjjlmcaaaRingPure
set_option linter.unusedVariables false
set_option linter.unusedSimpArgs false
set_option maxHeartbeats 800000
set_option maxRecDepth 100000
namespace Go.Proofs.Ytpakcfbjjlmcaaa.Ring
open Go.RowKit Go.RK Go.RL Go.Proofs.YtpakcfbjjlmcaaaW.PrintWords Go.Proofs.Ytpakcfbjjlmcaaa.PAll
variable {W : World} {M Z : Nat → Prop} {g : Nat} {rows width : Int} {L : List (List Int)}
/-- a deed, whatever it is -/
theorem does_any (hR : (RingH g rows width L).at_ W M) (v : Value) (hv : (HP.val KR v L).at_ W Z) (A : Option Addr) (c : Nat) (row : List Int) (hrow : (HP.rd (Kd.int .i64) A row).at_ W Z) (hc : row.length ≤ c) (hZ : ∀ k, Z k → ¬ M k) (hL : L.length ≤ 64) (hx : row.length ≤ 100) (i kind : Int) :
    Calls Try.prog 23 #[.pointer (some ⟨g, 0, none⟩), .agg #[v, .int .i64 rows, .int .i64 width], .agg #[.int .i64 kind, .int .i64 i, .slice A row.length c]] W fun e W1 => ∃ v', e = .returned (.tuple #[.agg #[v', .int .i64 rows, .int .i64 width], .bool true]) ∧ Does W M Z (HP.val KR v' (stepF rows width L kind row)) (RingH g rows width (stepF rows width L kind row)) W1 := by
  unfold stepF
  by_cases h0 : kind = 0
  · rw [if_pos h0]; subst h0
    exact does_push hR v hv A c row hrow hc hZ hL hx i
  · rw [if_neg h0]
    by_cases h1 : kind = 1
    · rw [if_pos h1]; subst h1
      exact does_pop hR v hv A c row hZ hL i
    · rw [if_neg h1]
      exact does_at hR v hv A c row hZ i kind h0 h1

theorem deed_at {A : Option Addr} {l : List S42} (h : (HP.rd k42 A l).at_ W Z) (k : Nat) (hk : k < l.length) :
    ∃ x : Addr × Option Addr × Nat × S42, (A = some x.1 ∧ rd_T42 l k = x.2.2.2 ∧ W.cell? (x.1.add (k * 3)) = some (.int .i64 x.2.2.2.f0) ∧ W.cell? ⟨(x.1.add (k * 3)).block, (x.1.add (k * 3)).off + 1, none⟩ = some (.int .i64 x.2.2.2.f1) ∧ W.cell? ⟨(x.1.add (k * 3)).block, (x.1.add (k * 3)).off + 2, none⟩ = some (.slice x.2.1 x.2.2.2.f2.length x.2.2.1) ∧ x.2.2.2.f2.length ≤ x.2.2.1) ∧ (HP.rd (Kd.int .i64) x.2.1 x.2.2.2.f2).at_ W Z := by
  obtain ⟨ad, A2, c2, h1, h2, h3, h4, h5, h6⟩ := at_T42 (HP.rd_now h) (k : Int) (by omega) (by omega)
  obtain ⟨ad', cs, h1', hK, hc⟩ := HP.rd_get h k (List.getElem?_eq_getElem hk)
  obtain ⟨A3, c3, rfl, h5', hF⟩ := k42_openF hK
  rw [h1] at h1'
  injection h1' with h1'
  subst h1'
  have e : rd_T42 l (k : Int) = l[k] := by unfold rd_T42; rw [List.getD_eq_getElem?_getD, Int.toNat_natCast, List.getElem?_eq_getElem hk]; rfl
  have h7 := hc 2 _ rfl
  rw [Int.toNat_natCast] at h2 h3 h4
  have ee : ad.add (k * k42.sz + 2) = ⟨(ad.add (k * 3)).block, (ad.add (k * 3)).off + 2, none⟩ := by
    show ad.add (k * 3 + 2) = _
    rw [← Go.Deep.add_add]
    rfl
  rw [ee, h4] at h7
  injection h7 with h7
  rw [e] at h2 h3 h4 h5
  rw [e] at h7
  injection h7 with h7 h8 h9
  subst h7; subst h9
  exact ⟨⟨ad, A2, c2, l[k]⟩, ⟨h1, e, h2, h3, h4, h5⟩, hF⟩

theorem ring_self (h : (RingH g rows width L).at_ W M) : riffleref11_Same.f 1000 L L = some true := by
  obtain ⟨gn, h, _⟩ := h
  have hb := h.bd
  exact RPure.same_self L (by omega) (fun x hx => by have := h.width_ x hx; omega) 1000 (by omega)

theorem plays_not (A : Option Addr) (c : Nat) (l : List S42) (h : ¬ (1 ≤ rows ∧ rows ≤ 64 ∧ 0 ≤ width ∧ width ≤ 64)) :
    Calls Try.prog 4 #[.int .i64 rows, .int .i64 width, .slice A l.length c] W fun e w' => e = .returned (.bool true) ∧ Below W.heap.size W w' := by
  have hm := Aside0.mk (RPure.may_eq rows width)
  rw [decide_eq_false h] at hm
  have H := Lib.hid h
  clear h
  go_enter Try.func4, Try.ntmps4
  go_wp2_with fail
  refine (new_no rows width _ H.out).mono ?_
  rintro e w1 ⟨rfl, rfl⟩
  go_wp2_with fail
  refine (riffleref11_May.calls rows width false _ hm.out).mono ?_
  rintro e w2 ⟨rfl, hd⟩
  replace hd := Aside0.mk hd.below
  go_wp2_with fail
  refine (lives_ok _).mono ?_
  rintro e w3 ⟨rfl, hb⟩
  replace hb := Aside0.mk (below_step hd.out hb)
  clear hd
  go_wp2
  go_ret
  exact ⟨rfl, hb.out⟩

theorem plays_great (A : Option Addr) (c : Nat) (l : List S42) (hl : l.length ≤ c) (hC : k42.C W A l.length l) (h : 1 ≤ rows ∧ rows ≤ 64 ∧ 0 ≤ width ∧ width ≤ 64) (hg : rifflelaw11_Great.f 1000 l = some true) :
    Calls Try.prog 4 #[.int .i64 rows, .int .i64 width, .slice A l.length c] W fun e w' => e = .returned (.bool true) ∧ Below W.heap.size W w' := by
  have hm := Aside0.mk (RPure.may_eq rows width)
  rw [decide_eq_true h] at hm
  have H := Lib.hid h
  have hC := Aside0.mk hC
  replace hg := Aside0.mk hg
  clear h
  go_enter Try.func4, Try.ntmps4
  go_wp2_with fail
  refine (new_made H.out.1 H.out.2.1 H.out.2.2.1 H.out.2.2.2).mono ?_
  rintro e w1 ⟨g, rfl, hb, _⟩
  replace hb := Aside0.mk hb
  go_wp2_with fail
  refine (riffleref11_May.calls rows width true _ hm.out).mono ?_
  rintro e w2 ⟨rfl, hd⟩
  replace hb := Aside0.mk (below_step hb.out hd.below)
  clear hd
  go_wp2_with fail
  refine (rifflelaw11_Great.calls 1000 A c l true _ (Kd.C_below hC.out hb.out) hl hg.out).mono ?_
  rintro e w3 ⟨rfl, hd⟩
  replace hb := Aside0.mk (below_step hb.out hd.below)
  clear hd
  go_wp2_with fail
  refine (lives_ok _).mono ?_
  rintro e w4 ⟨rfl, hd⟩
  replace hb := Aside0.mk (below_step hb.out hd)
  clear hd
  go_wp2
  go_ret
  exact ⟨rfl, hb.out⟩

theorem heap42 : Kd.Heap k42 := Kd.heap_iso _ (Kd.heap_pair (Kd.heap_int _) (Kd.heap_pair (Kd.heap_int _) (Kd.heap_slice _ (Kd.heap_int _))))

theorem plays_small (A : Option Addr) (c : Nat) (l : List S42) (hl : l.length ≤ c) (hC : k42.C W A l.length l) (h : 1 ≤ rows ∧ rows ≤ 64 ∧ 0 ≤ width ∧ width ≤ 64) (hg : rifflelaw11_Great.f 1000 l = some false) (hs : l.length ≤ 80 ∧ ∀ j : Nat, j < l.length → (rd_T42 l (j : Int)).f2.length ≤ 100) :
    Calls Try.prog 4 #[.int .i64 rows, .int .i64 width, .slice A l.length c] W fun e w' => e = .returned (.bool true) ∧ Below W.heap.size W w' := by
  have hm := Aside0.mk (RPure.may_eq rows width)
  rw [decide_eq_true h] at hm
  have hlen := hs.1
  have hrows := Lib.hid hs.2
  have H0 := Aside0.mk (Cx.start0 (Φ := HP.rd k42 A l) (Kd.C_F heap42 hC))
  have HB := Lib.hid h
  replace hg := Aside0.mk hg
  clear h hs hC
  go_enter Try.func4, Try.ntmps4
  go_wp2_with fail
  refine (H0.out.cnew (new_made HB.out.1 HB.out.2.1 HB.out.2.2.1 HB.out.2.2.2)).mono ?_
  rintro e w1 ⟨g, rfl, H1⟩
  replace H1 := Aside0.mk H1
  clear H0
  go_wp2_with fail
  refine (H1.out.cskip (fun Z hZ => Cx.toBelow (riffleref11_May.calls rows width true _ hm.out))).mono ?_
  rintro e w2 ⟨rfl, H2⟩
  replace H2 := Aside0.mk H2
  clear H1
  go_wp2_with fail
  refine (H2.out.cskip (fun Z hZ => Cx.toBelow (rifflelaw11_Great.calls 1000 A c l false _ (HP.rd_now hZ) hl hg.out))).mono ?_
  rintro e w3 ⟨rfl, H3⟩
  replace H3 := Aside0.mk (H3.alloc (.cells #[.slice none 0 0, .int .i64 rows, .int .i64 width] 40 (0, 0)))
  clear H2
  go_wp2
  go_loopw [47] (fun i wr => ∃ (k : Nat) (L : List (List Int)) (A1 : Option Addr) (c1 : Nat), k ≤ l.length ∧ i = .int .i64 k ∧ Aside0 (Cx (fun _ => False) (fun k => k < W.heap.size) W wr ((HP.rd k42 A l).and (HP.val KR (.slice A1 L.length c1) L)) [RingH g rows width L, HP.blk w3.heap.size (.cells #[.slice A1 L.length c1, .int .i64 rows, .int .i64 width] 40 (0, 0))])) (fun i _ => l.length - (intOf i).toNat)
  case atStart => exact ⟨0, [], none, 0, by omega, rfl, ⟨H3.out.imp (fun Z hZ => ⟨hZ, HP.val_nil _ _ _⟩)⟩⟩
  case round =>
    clear H3
    obtain ⟨k, L, A1, c1, hk, rfl, H⟩ := hrel
    by_cases hlt : k < l.length
    · have hL : L.length ≤ 64 := by obtain ⟨M, gn, h, _⟩ := H.out.get 0 rfl; have := h.bd; omega
      have hW : ∀ x ∈ L, x.length ≤ 100 := by obtain ⟨M, gn, h, _⟩ := H.out.get 0 rfl; intro x hx; have := h.width_ x hx; have := h.bd; omega
      have hrow := hrows.out k hlt
      obtain ⟨⟨ad, A2, c2, x⟩, ⟨rfl, hx, d0, d1, d2, hle⟩, H1⟩ := H.out.more (fun Z hZ => deed_at hZ.1 k hlt)
      simp only at hx d0 d1 d2 hle H1
      rw [hx] at hrow
      replace H1 := Aside0.mk H1
      replace hW := Lib.hid hW
      clear H hx
      have e0 := cell_al (H1.out.cell 1 rfl 0 rfl)
      have e1 := cell_al (H1.out.cell 1 rfl 1 rfl)
      have e2 := cell_al (H1.out.cell 1 rfl 2 rfl)
      go_wp2_with fail
      refine ((H1.out.junk _).cuval 0 rfl (fun M Z hM hZ hd => does_any hM _ hZ.1.2 A2 c2 x.f2 hZ.2 hle hd hL hrow _ _)).mono ?_
      rintro e w4 ⟨A4, c4, rfl, H4⟩
      have hsm := Aside0.mk (ring_self (H4.get 0 rfl).choose_spec)
      generalize hS : stepF rows width L x.f0 x.f2 = L' at *
      replace H4 := Aside0.mk (H4.alloc (.cells #[.slice A4 L'.length c4, .int .i64 rows, .int .i64 width] 40 (0, 0)))
      replace hS := Lib.hid hS
      clear H1 d0 d1 d2 e0 e1 e2
      have e0 := H4.out.cell 1 rfl 0 rfl
      have e1 := H4.out.cell 1 rfl 1 rfl
      have e2 := H4.out.cell 1 rfl 2 rfl
      have ef := fun j => H4.out.unfrozen 1 rfl j
      go_wp2_with fail
      refine ((((H4.out.put 1 rfl 0 _).put 1 rfl 1 _).put 1 rfl 2 _).cobj 0 rfl (fun M Z hM hZ hd => same_ok hM _ hZ.2 hd hsm)).mono ?_
      rintro e w5 ⟨rfl, H5⟩
      replace H5 := Aside0.mk H5
      clear H4 e0 e1 e2 ef
      go_wp2
      go_roundw
      case rel => exact ⟨k + 1, L', A4, c4, by omega, by go_num, ⟨(H5.out.imp (Φ' := (HP.rd k42 (some ad) l).and (HP.val KR (.slice A4 L'.length c4) L')) (fun Z hZ => ⟨hZ.1.1.1, hZ.2⟩)).take 2⟩⟩
      case measure => simp [intOf]; omega
    · go_wp2_with fail
      refine (lives_ok _).mono ?_
      rintro e w5 ⟨rfl, hb⟩
      replace H := Aside0.mk (H.out.skip hb)
      clear hb
      go_wp2
      go_ret
      exact ⟨rfl, H.out.below⟩

theorem plays_walk (w : World) (rows : Int) (_h1 : I64wf rows) (width : Int) (_h2 : I64wf width) (A : Option Addr) (c : Nat) (l : List S42) (hl : l.length ≤ c) (hC : k42.C w A l.length l) (_hw : ∀ x ∈ l, I64wf x.f0 ∧ I64wf x.f1 ∧ ∀ y ∈ x.f2, I64wf y) :
    Calls Try.prog 4 #[.int .i64 rows, .int .i64 width, .slice A l.length c] w fun e w' => e = .returned (.bool true) ∧ Below w.heap.size w w' := by
  by_cases h : 1 ≤ rows ∧ rows ≤ 64 ∧ 0 ≤ width ∧ width ≤ 64
  · obtain ⟨r, hr, hx⟩ := RPure.great_any l hC.2.1
    cases r with
    | true => exact plays_great A c l hl hC h hr
    | false => exact plays_small A c l hl hC h hr (hx rfl)
  · exact plays_not A c l h
end Go.Proofs.Ytpakcfbjjlmcaaa.Ring
