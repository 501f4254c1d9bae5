/- turn, Drop, All and Clone of a window by two stacks of string. No condition. -/
import Derived.Test.YtpakcfbjjlmcaaaTwinS
set_option linter.unusedVariables false
set_option linter.unusedSimpArgs false
set_option maxHeartbeats 1600000
set_option maxRecDepth 100000
namespace Go.Proofs.Ytpakcfbjjlmcaaa.TwinS
open Go.RowKit Go.RK Go.TW Go.Proofs.YtpakcfbjjlmcaaaW.PrintWords
variable {jn : ByteArray → ByteArray → ByteArray} {W : World} {M Z : Nat → Prop} {g : Nat} {most : Int} {fv : Value} {Lf Lb : List ByteArray}

/-- what turn finds and leaves: of the back stack the part from k on stands on the front one -/
theorem turn_agg (sz : ByteArray → Nat) (hj : JoinOk sz jn) (Lb : List ByteArray) (tl : ByteArray) {Φ : HP} {M0 Z0 : Nat → Prop} {W0 : World} {Af Ab : Option Addr} {cf cb : Nat}
    (H0 : Aside0 (Cx M0 Z0 W0 W Φ [HP.blk g (.cells #[.slice Af 0 cf, .slice Ab Lb.length cb, Value.string tl, .int .i64 most, fj] 121 (0, 0)), HP.raw 0 9 1 (.slice Af 0 cf) 0 [], HP.raw 0 9 1 (.slice Ab Lb.length cb) Lb.length (Lb.map (Value.string))])) (hm : Lb.length ≤ 100) (hs : ∀ pre y z zs, Lb = pre ++ y :: z :: zs → sz y + sz (foldR jn z zs) ≤ 1000000) :
    Calls Try.prog 78 #[.pointer (some ⟨g, 0, none⟩)] W fun e w' => e = .returned (.tuple #[]) ∧ ∃ A1 c1 cells, Cx M0 Z0 W0 w' Φ [HP.blk g (.cells #[.slice A1 Lb.length c1, .slice Ab 0 cb, Value.string tl, .int .i64 most, fj] 121 (0, 0)), HP.raw 0 9 1 (.slice A1 Lb.length c1) Lb.length ((sufs jn Lb).map (Value.string)), HP.raw 0 9 1 (.slice Ab 0 cb) 0 cells] := by
  have k1 := H0.out.cell 0 rfl 1 rfl
  replace hs := Lib.hid hs
  replace hj := Lib.hid hj
  go_enter Try.func78, Try.ntmps78
  go_wp2
  clear k1
  go_loopw [2] (fun i wr => ∃ (k : Nat) (A1 : Option Addr) (c1 : Nat) (L2 : List ByteArray), k ≤ Lb.length ∧ i = .int .i64 ((k : Int) - 1) ∧ L2.length ≤ 100 ∧ Hid (L2.length + k = Lb.length) ∧ Aside0 (L2 = Lb.drop k) ∧ Aside0 (Cx M0 Z0 W0 wr Φ [HP.blk g (.cells #[.slice A1 L2.length c1, .slice Ab Lb.length cb, Value.string tl, .int .i64 most, fj] 121 (0, 0)), HP.raw 0 9 1 (.slice A1 L2.length c1) L2.length ((sufs jn L2).map (Value.string)), HP.raw 0 9 1 (.slice Ab Lb.length cb) Lb.length (Lb.map (Value.string))])) (fun i _ => (intOf i + 1).toNat)
  case atStart => exact ⟨Lb.length, Af, cf, [], by omega, rfl, by simp, Lib.hid (by simp), ⟨by simp⟩, H0⟩
  case round =>
    clear H0
    obtain ⟨k, A1, c1, L2, hk, rfl, hl9, hl2, hL2, H1⟩ := hrel
    rcases k with _ | k
    · obtain rfl : L2 = Lb := by simpa using hL2.out
      have k1 := H1.out.cell 0 rfl 1 rfl
      have kf := fun j => H1.out.unfrozen 0 rfl j
      obtain ⟨w2, hclr, H2⟩ := H1.out.clear (P := Try.prog) 2 rfl 57 0 (.string ⟨#[]⟩) Try.underlying57 zeroE rfl rfl 0 L2.length cb (by omega) Ab (fun _ => by cases Ab <;> rfl)
      replace hclr := Aside0.mk hclr
      have H3 := Aside0.mk (H2.impi 2 rfl (fun M hM => HP.raw_shrink hM 0 (by omega)))
      have q1 := H3.out.cell 0 rfl 1 rfl
      have qf := fun j => H3.out.unfrozen 0 rfl j
      clear H2
      go_wp2_with (refine wpList_clr rfl rfl rfl hclr.out ?_)
      go_end0
      exact ⟨rfl, A1, c1, _, H3.out.put 0 rfl 1 _⟩
    · have hkl : k < Lb.length := by omega
      obtain ⟨ad, rfl, hy⟩ := HP.raw_cell (H1.out.get 2 rfl).choose_spec k _ (by rw [List.getElem?_map, List.getElem?_eq_getElem hkl]; rfl)
      generalize hY : Lb[k] = y at hy
      have hd : Aside0 (Lb.drop k = y :: L2) := ⟨by rw [hL2.out, ← hY]; exact List.drop_eq_getElem_cons hkl⟩
      clear hY
      have k1 := H1.out.cell 0 rfl 1 rfl
      have k0 := H1.out.cell 0 rfl 0 rfl
      rcases hLL : L2 with _ | ⟨z, zs⟩
      · have hb4 : L2.length ≤ 0 := by rw [hLL]; simp
        have hX : Aside0 (y = foldR jn y L2) := ⟨by rw [hLL]; rfl⟩
        replace hLL := Lib.hid hLL
        go_upto_region 6 with (fail)
        obtain ⟨v1, w1, hrun, H2⟩ := H1.out.app1 (P := Try.prog) 1 57 57 9 (.string ⟨#[]⟩) 1 16 rfl (Nat.zero_le _) Try.underlying57 infoE rfl (by omega) (by omega) [Value.string y] rfl (by intro u hu; rw [List.mem_singleton.1 hu]; rfl) (by omega)
        obtain ⟨A3, c3, rfl, _⟩ := HP.raw_form (H2.get 1 rfl).choose_spec
        replace hrun := Aside0.mk hrun
        replace H2 := Aside0.mk H2
        have p0 := H1.out.cell 0 rfl 0 rfl
        have q0 := H2.out.cell 0 rfl 0 rfl
        have qf := fun j => H2.out.unfrozen 0 rfl j
        go_wp2_with (refine wpList_app rfl rfl rfl rfl hrun.out ?_)
        go_roundw
        case rel => exact ⟨k, A3, c3, y :: L2, by omega, by go_num, by have := hl2.out; simp only [List.length_cons]; omega, Lib.hid (by have := hl2.out; simp only [List.length_cons]; omega), ⟨hd.out.symm⟩, ⟨by have h := H2.out.put 0 rfl 0 (.slice A3 (L2.length + 1) c3); rw [sufs, List.map_append, List.map_singleton, ← hX.out]; exact h⟩⟩
        case measure => simp [intOf] <;> omega
      · have hb4 : 0 < L2.length := by rw [hLL]; simp
        have hb5 : L2.length = zs.length + 1 := by rw [hLL]; simp
        have hX : Aside0 (jn y (foldR jn z zs) = foldR jn y L2) := ⟨by rw [hLL]; rfl⟩
        have hc : ((sufs jn L2).map (Value.string))[zs.length]? = some (Value.string (foldR jn z zs)) := by rw [hLL, List.getElem?_map, sufs_last]; rfl
        have hsz : sz y + sz (foldR jn z zs) ≤ 1000000 := hs.out (Lb.take k) y z zs (by rw [← hLL, ← hd.out, List.take_append_drop])
        generalize foldR jn z zs = v at *
        generalize hF : jn y v = X at *
        replace hLL := Lib.hid hLL
        replace hF := Lib.hid hF
        obtain ⟨ad1, rfl, hv⟩ := HP.raw_cell (H1.out.get 1 rfl).choose_spec zs.length _ hc
        have k4 := H1.out.cell 0 rfl 4 rfl
        go_upto_region 5 with (fail)
        have hw : IntKind.i64.wrap ((L2.length : Int) - 1) = zs.length := by rw [hb5, show (((zs.length + 1 : Nat) : Int) - 1) = zs.length by omega]; exact IntWalk.i64_in _ (by omega)
        have hz0 : (0 : Int) ≤ zs.length := by omega
        have hz1 : (zs.length : Int) < L2.length := by omega
        clear hb5
        have hrd : ∀ {W' : World} {M' : Nat → Prop} {B : Option Addr} {n c : Nat} {cs : List Value}, B = some ad1 → cs[zs.length]? = some (Value.string v) → (HP.raw 0 9 1 (.slice B n c) n cs).at_ W' M' → W'.cell? (ad1.add zs.length) = some (Value.string v) := by
          intro W' M' B n c cs hB hcs hr
          subst hB
          obtain ⟨ad', h1, h2⟩ := HP.raw_cell hr _ _ hcs
          injection h1 with h1
          rw [h1]; exact h2
        replace hrd := Aside0.mk @hrd
        replace hc := Aside0.mk hc
        go_region_held3 (fun w' => w'.cell? ⟨g, 4, none⟩ = some fj ∧ w'.cell? ⟨g, 0, none⟩ = some (.slice (some ad1) L2.length c1) ∧ w'.cell? (ad1.add zs.length) = some (Value.string v)) (exact ⟨H1.out.cell 0 rfl 4 rfl, H1.out.cell 0 rfl 0 rfl, hrd.out rfl hc.out (H1.out.get 1 rfl).choose_spec⟩)
          (first | (go_at_call 30; refine (H1.out.drew.cskip (fun Z hZ => hj.out y v _ hsz)).mono ?_; rintro e Wj ⟨rfl, H2⟩; replace H1 := Aside0.mk H2; clear H2))
        rename_i hHeld
        clear hHeld k4
        rw [hF.out]
        go_upto_region 6 with (fail)
        obtain ⟨v1, w1, hrun, H2⟩ := H1.out.app1 (P := Try.prog) 1 57 57 9 (.string ⟨#[]⟩) 1 16 rfl (Nat.zero_le _) Try.underlying57 infoE rfl (by omega) (by omega) [Value.string X] rfl (by intro u hu; rw [List.mem_singleton.1 hu]; rfl) (by omega)
        obtain ⟨A3, c3, rfl, _⟩ := HP.raw_form (H2.get 1 rfl).choose_spec
        replace hrun := Aside0.mk hrun
        replace H2 := Aside0.mk H2
        have p0 := H1.out.cell 0 rfl 0 rfl
        have q0 := H2.out.cell 0 rfl 0 rfl
        have qf := fun j => H2.out.unfrozen 0 rfl j
        go_wp2_with (refine wpList_app rfl rfl rfl rfl hrun.out ?_)
        go_roundw
        case rel => exact ⟨k, A3, c3, y :: L2, by omega, by go_num, by have := hl2.out; simp only [List.length_cons]; omega, Lib.hid (by have := hl2.out; simp only [List.length_cons]; omega), ⟨hd.out.symm⟩, ⟨by have h := H2.out.put 0 rfl 0 (.slice A3 (L2.length + 1) c3); rw [sufs, List.map_append, List.map_singleton, ← hX.out]; exact h⟩⟩
        case measure => simp [intOf] <;> omega

theorem drop_nil : Calls Try.prog 42 #[.pointer none] W fun e w' => e = .returned (.bool false) ∧ w' = W := by
  go_enter Try.func42, Try.ntmps42
  go_wp2_with fail
  refine len_nil.mono ?_
  rintro e w1 ⟨rfl, rfl⟩
  go_wp2
  go_ret
  exact ⟨rfl, rfl⟩
theorem drop_none (h : (AggH jn g most fv [] []).at_ W M) (hZ : ∀ k, Z k → ¬ M k) :
    Calls Try.prog 42 #[.pointer (some ⟨g, 0, none⟩)] W fun e w' => e = .returned (.bool false) ∧ Does W M Z HP.tt (AggH jn g most fv [] []) w' := by
  obtain ⟨Af, cf, Ab, cb, tl, ha, ht, _⟩ := AggH.opn h
  have H1 := Aside0.mk (start3 (Φ := HP.tt) ha trivial hZ)
  clear h ha
  go_enter Try.func42, Try.ntmps42
  go_wp2_with fail
  refine (H1.out.cread 0 rfl (fun M hM => len_blk hM.1 (by first | omega | simp) (by first | omega | simp))).mono ?_
  rintro e Wh ⟨rfl, H2⟩
  replace H1 := Aside0.mk H2
  clear H2
  go_wp2
  go_ret
  exact ⟨rfl, done3 (rest := []) H1.out rfl rfl rfl rfl ht⟩
theorem keep_cells (x : ByteArray) (xs : List ByteArray) (z : Value) : (((sufs jn (x :: xs)).map (Value.string)).take xs.length ++ List.replicate 1 z ++ ((sufs jn (x :: xs)).map (Value.string)).drop (xs.length + 1)).take (xs.length * 1) = (sufs jn xs).map (Value.string) := by
  have hl : xs.length ≤ ((sufs jn (x :: xs)).map (Value.string)).length := by simp [sufs_length]
  rw [Nat.mul_one, List.append_assoc, List.take_append_of_le_length (by rw [List.length_take]; omega), List.take_take, Nat.min_self, ← List.map_take, sufs_take]
theorem drop_front (x : ByteArray) (xs L : List ByteArray) (hL : L = x :: xs) (h : (AggH jn g most fv L Lb).at_ W M) (hZ : ∀ k, Z k → ¬ M k) (hm : L.length + Lb.length ≤ 100) :
    Calls Try.prog 42 #[.pointer (some ⟨g, 0, none⟩)] W fun e w' => e = .returned (.bool true) ∧ Does W M Z HP.tt (AggH jn g most fv xs Lb) w' := by
  obtain ⟨AA, cc, Ab, cb, tl, ha, ht, _⟩ := AggH.opn h
  have H1 := Aside0.mk (start3 (Φ := HP.tt) ha trivial hZ)
  have hlen := Lib.hid (show L.length = xs.length + 1 by rw [hL]; rfl)
  have hb0 : 0 < L.length := by rw [hL]; simp
  have hb1 : ((L.length : Int) + Lb.length == 0) = false := by rw [beq_eq_false_iff_ne]; omega
  have hb2 : ((L.length : Int) == 0) = false := by rw [beq_eq_false_iff_ne]; omega
  replace hL := Lib.hid hL
  clear h ha
  go_enter Try.func42, Try.ntmps42
  go_wp2_with fail
  refine (H1.out.cread 0 rfl (fun M hM => len_blk hM.1 (by first | omega | simp) (by first | omega | simp))).mono ?_
  rintro e Wh ⟨rfl, H2⟩
  replace H1 := Aside0.mk H2
  clear H2
  have p0 := H1.out.cell 0 rfl 0 rfl
  have hw : IntKind.i64.wrap ((L.length : Int) - 1) = xs.length := by rw [hlen.out, show (((xs.length + 1 : Nat) : Int) - 1) = xs.length by omega]; exact IntWalk.i64_in _ (by have := hlen.out; omega)
  have hx0 : (0 : Int) ≤ xs.length := by omega
  have hx1 : (xs.length : Int) ≤ L.length := by have := hlen.out; omega
  have hcc : L.length ≤ cc := by obtain ⟨_, _, h1, h2⟩ := HP.raw_form (H1.out.get 1 rfl).choose_spec; injection h1 with _ _ h1; omega
  have hx2 : (xs.length : Int) ≤ cc := by omega
  have hsl := run_slice_lo (P := Try.prog) 57 9 Try.underlying57 (info_parts infoE).choose_spec.1 AA L.length cc xs.length (by have := hlen.out; omega) hcc (by have := hlen.out; omega)
  have hsz : (info_parts infoE).choose.size = 1 := (info_parts infoE).choose_spec.2.2.1
  rw [hsz, Nat.mul_one, show L.length - xs.length = 1 by have := hlen.out; omega] at hsl
  clear hsz
  obtain ⟨w2, hclr, H2⟩ := H1.out.clear (P := Try.prog) 1 rfl 57 0 (.string ⟨#[]⟩) Try.underlying57 zeroE rfl rfl xs.length 1 (cc - xs.length) (by have := hlen.out; omega) (AA.map (·.add xs.length)) (fun _ => rfl)
  replace hclr := Aside0.mk hclr
  have H3 := Aside0.mk (H2.impi 1 rfl (fun M hM => HP.raw_shrink hM xs.length (by have := hlen.out; omega)))
  have q0 := H3.out.cell 0 rfl 0 rfl
  have qf := fun j => H3.out.unfrozen 0 rfl j
  clear H2
  go_wp2_with (refine wpList_clr rfl rfl rfl hclr.out ?_)
  go_ret
  refine ⟨rfl, done3 (Lf := xs) (rest := []) (H3.out.put 0 rfl 0 _) ?_ rfl rfl rfl ht⟩
  rw [hL.out]
  exact keep_cells x xs _
theorem drop_turn (sz : ByteArray → Nat) (hj : JoinOk sz jn) (x : ByteArray) (xs L : List ByteArray) (hL : L = x :: xs) (h : (AggH jn g most fj [] L).at_ W M) (hZ : ∀ k, Z k → ¬ M k) (hm : L.length ≤ 100) (hs : ∀ pre y z zs, L = pre ++ y :: z :: zs → sz y + sz (foldR jn z zs) ≤ 1000000) :
    Calls Try.prog 42 #[.pointer (some ⟨g, 0, none⟩)] W fun e w' => e = .returned (.bool true) ∧ Does W M Z HP.tt (AggH jn g most fj xs []) w' := by
  obtain ⟨Af, cf, Ab, cb, tl, ha, ht, _⟩ := AggH.opn h
  have H1 := Aside0.mk (start3 (Φ := HP.tt) ha trivial hZ)
  have hlen := Lib.hid (show L.length = xs.length + 1 by rw [hL]; rfl)
  have hb0 : 0 < L.length := by rw [hL]; simp
  have hb1 : ((L.length : Int) == 0) = false := by rw [beq_eq_false_iff_ne]; omega
  replace hL := Lib.hid hL
  replace hs := Lib.hid hs
  replace hj := Lib.hid hj
  clear h ha
  go_enter Try.func42, Try.ntmps42
  go_wp2_with fail
  refine (H1.out.cread 0 rfl (fun M hM => len_blk hM.1 (by first | omega | simp) (by first | omega | simp))).mono ?_
  rintro e Wh ⟨rfl, H2⟩
  replace H1 := Aside0.mk H2
  clear H2
  have p0 := H1.out.cell 0 rfl 0 rfl
  go_wp2_with fail
  refine (turn_agg sz hj.out L tl H1 hm hs.out).mono ?_
  rintro e Wt ⟨rfl, AA, cc, cells, H2⟩
  replace H1 := Aside0.mk H2
  clear H2 p0
  have p0 := H1.out.cell 0 rfl 0 rfl
  have hw : IntKind.i64.wrap ((L.length : Int) - 1) = xs.length := by rw [hlen.out, show (((xs.length + 1 : Nat) : Int) - 1) = xs.length by omega]; exact IntWalk.i64_in _ (by have := hlen.out; omega)
  have hx0 : (0 : Int) ≤ xs.length := by omega
  have hx1 : (xs.length : Int) ≤ L.length := by have := hlen.out; omega
  have hcc : L.length ≤ cc := by obtain ⟨_, _, h1, h2⟩ := HP.raw_form (H1.out.get 1 rfl).choose_spec; injection h1 with _ _ h1; omega
  have hx2 : (xs.length : Int) ≤ cc := by omega
  have hsl := run_slice_lo (P := Try.prog) 57 9 Try.underlying57 (info_parts infoE).choose_spec.1 AA L.length cc xs.length (by have := hlen.out; omega) hcc (by have := hlen.out; omega)
  have hsz : (info_parts infoE).choose.size = 1 := (info_parts infoE).choose_spec.2.2.1
  rw [hsz, Nat.mul_one, show L.length - xs.length = 1 by have := hlen.out; omega] at hsl
  clear hsz
  obtain ⟨w2, hclr, H2⟩ := H1.out.clear (P := Try.prog) 1 rfl 57 0 (.string ⟨#[]⟩) Try.underlying57 zeroE rfl rfl xs.length 1 (cc - xs.length) (by have := hlen.out; omega) (AA.map (·.add xs.length)) (fun _ => rfl)
  replace hclr := Aside0.mk hclr
  have H3 := Aside0.mk (H2.impi 1 rfl (fun M hM => HP.raw_shrink hM xs.length (by have := hlen.out; omega)))
  have q0 := H3.out.cell 0 rfl 0 rfl
  have qf := fun j => H3.out.unfrozen 0 rfl j
  clear H2
  go_wp2_with (refine wpList_clr rfl rfl rfl hclr.out ?_)
  go_ret
  refine ⟨rfl, done3 (Lf := xs) (Lb := []) (rest := []) (H3.out.put 0 rfl 0 _) ?_ ?_ rfl rfl (fun _ _ h => by cases h)⟩
  · rw [hL.out]
    exact keep_cells x xs _
  · have h := (H3.out.get 2 rfl).choose_spec.1.1
    exact List.eq_nil_of_length_eq_zero (by omega)

theorem all_nil : Calls Try.prog 41 #[.pointer none] W fun e w' => e = .returned (.tuple #[Value.string ByteArray.empty, .bool false]) ∧ w' = W := by
  go_enter Try.func41, Try.ntmps41
  go_wp2_with fail
  refine len_nil.mono ?_
  rintro e w1 ⟨rfl, rfl⟩
  go_wp2
  go_ret2
  exact ⟨rfl, rfl⟩
theorem all_none (h : (AggH jn g most fv [] []).at_ W M) :
    Calls Try.prog 41 #[.pointer (some ⟨g, 0, none⟩)] W fun e w' => e = .returned (.tuple #[Value.string ByteArray.empty, .bool false]) ∧ Below W.heap.size W w' := by
  obtain ⟨Af, cf, Ab, cb, tl, ha, ht, _⟩ := AggH.opn h
  have H1 := Aside0.mk (start3 (Φ := HP.tt) (Z := fun _ => False) ha trivial (fun k hk => hk.elim))
  obtain ⟨a, b, h0, _⟩ := ha
  replace h0 := Aside0.mk h0
  go_enter Try.func41, Try.ntmps41
  go_wp2_with fail
  refine (len_blk h0.out.1 (by simp) (by simp)).mono ?_
  rintro e Wh ⟨rfl, hb⟩
  go_wp2
  go_ret2
  exact ⟨rfl, hb⟩
theorem all_back (y : ByteArray) (ys L : List ByteArray) (hL : L = y :: ys) (h : (AggH jn g most fv [] L).at_ W M) (hm : L.length ≤ 100) :
    Calls Try.prog 41 #[.pointer (some ⟨g, 0, none⟩)] W fun e w' => e = .returned (.tuple #[Value.string (foldL jn y ys), .bool true]) ∧ Below W.heap.size W w' := by
  obtain ⟨Af, cf, Ab, cb, tl, ha, ht, _⟩ := AggH.opn h
  obtain rfl := ht y ys hL
  have hb0 : 0 < L.length := by rw [hL]; simp
  have hb1 : ((L.length : Int) == 0) = false := by rw [beq_eq_false_iff_ne]; omega
  have H1 := Aside0.mk (start3 (Φ := HP.tt) (Z := fun _ => False) ha trivial (fun k hk => hk.elim))
  generalize foldL jn y ys = tl at *
  obtain ⟨a, b, h0, _⟩ := ha
  replace h0 := Aside0.mk h0
  replace hL := Lib.hid hL
  clear h
  go_enter Try.func41, Try.ntmps41
  go_wp2_with fail
  refine (len_blk h0.out.1 (by simp) (by omega)).mono ?_
  rintro e Wh ⟨rfl, hb⟩
  replace H1 := Aside0.mk (H1.out.skip hb)
  replace hb := Aside0.mk hb
  have p0 := H1.out.cell 0 rfl 0 rfl
  have p2 := H1.out.cell 0 rfl 2 rfl
  go_wp2
  go_ret2
  exact ⟨rfl, hb.out⟩
theorem all_front (x : ByteArray) (xs L : List ByteArray) (hL : L = x :: xs) (h : (AggH jn g most fv L Lb).at_ W M) (hm : L.length + Lb.length ≤ 100) (hB : Lb = []) :
    Calls Try.prog 41 #[.pointer (some ⟨g, 0, none⟩)] W fun e w' => e = .returned (.tuple #[Value.string (foldR jn x xs), .bool true]) ∧ Below W.heap.size W w' := by
  obtain ⟨Af, cf, Ab, cb, tl, ha, ht, _⟩ := AggH.opn h
  have hb3 : Lb.length ≤ 0 := by rw [hB]; simp
  have hb4 : ((Lb.length : Int) == 0) = true := by rw [hB]; rfl
  clear hB
  have hlen := Lib.hid (show L.length = xs.length + 1 by rw [hL]; rfl)
  have hb0 : 0 < L.length := by rw [hL]; simp
  have hb1 : ((L.length : Int) + Lb.length == 0) = false := by rw [beq_eq_false_iff_ne]; omega
  have hb2 : ((L.length : Int) == 0) = false := by rw [beq_eq_false_iff_ne]; omega
  have hw : IntKind.i64.wrap ((L.length : Int) - 1) = xs.length := by rw [hlen.out, show (((xs.length + 1 : Nat) : Int) - 1) = xs.length by omega]; exact IntWalk.i64_in _ (by have := hlen.out; omega)
  have hx0 : (0 : Int) ≤ xs.length := by omega
  have hx1 : (xs.length : Int) < L.length := by have := hlen.out; omega
  have hc : ((sufs jn L).map (Value.string))[xs.length]? = some (Value.string (foldR jn x xs)) := by rw [hL, List.getElem?_map, sufs_last]; rfl
  have H1 := Aside0.mk (start3 (Φ := HP.tt) (Z := fun _ => False) ha trivial (fun k hk => hk.elim))
  obtain ⟨a, b, h0, _⟩ := ha
  replace h0 := Aside0.mk h0
  replace hL := Lib.hid hL
  obtain ⟨ad, rfl, hv⟩ := HP.raw_cell (H1.out.get 1 rfl).choose_spec xs.length _ hc
  clear hv
  generalize foldR jn x xs = v at *
  replace hc := Aside0.mk hc
  clear h
  go_enter Try.func41, Try.ntmps41
  go_wp2_with fail
  refine (len_blk h0.out.1 (by omega) (by omega)).mono ?_
  rintro e Wh ⟨rfl, hb⟩
  replace H1 := Aside0.mk (H1.out.skip hb)
  replace hb := Aside0.mk hb
  have p0 := H1.out.cell 0 rfl 0 rfl
  have p1 := H1.out.cell 0 rfl 1 rfl
  obtain ⟨ad', h1, hv⟩ := HP.raw_cell (H1.out.get 1 rfl).choose_spec xs.length _ hc.out
  injection h1 with h1
  subst h1
  go_wp2
  go_quiet (fail)
  go_wp2
  go_ret2
  exact ⟨rfl, pw_below_drewN hb.out _⟩
theorem all_both (sz : ByteArray → Nat) (hj : JoinOk sz jn) (x : ByteArray) (xs L : List ByteArray) (hL : L = x :: xs) (y : ByteArray) (ys : List ByteArray) (h : (AggH jn g most fj L Lb).at_ W M) (hB : Lb = y :: ys) (hm : L.length + Lb.length ≤ 100) (hs : sz (foldR jn x xs) + sz (foldL jn y ys) ≤ 1000000) :
    Calls Try.prog 41 #[.pointer (some ⟨g, 0, none⟩)] W fun e w' => e = .returned (.tuple #[Value.string (jn (foldR jn x xs) (foldL jn y ys)), .bool true]) ∧ Below W.heap.size W w' := by
  obtain ⟨Af, cf, Ab, cb, tl, ha, ht, _⟩ := AggH.opn h
  obtain rfl := ht y ys hB
  have hb3 : 0 < Lb.length := by rw [hB]; simp
  have hb4 : ((Lb.length : Int) == 0) = false := by rw [beq_eq_false_iff_ne]; omega
  clear hB
  generalize foldL jn y ys = tl at *
  have hlen := Lib.hid (show L.length = xs.length + 1 by rw [hL]; rfl)
  have hb0 : 0 < L.length := by rw [hL]; simp
  have hb1 : ((L.length : Int) + Lb.length == 0) = false := by rw [beq_eq_false_iff_ne]; omega
  have hb2 : ((L.length : Int) == 0) = false := by rw [beq_eq_false_iff_ne]; omega
  have hw : IntKind.i64.wrap ((L.length : Int) - 1) = xs.length := by rw [hlen.out, show (((xs.length + 1 : Nat) : Int) - 1) = xs.length by omega]; exact IntWalk.i64_in _ (by have := hlen.out; omega)
  have hx0 : (0 : Int) ≤ xs.length := by omega
  have hx1 : (xs.length : Int) < L.length := by have := hlen.out; omega
  have hc : ((sufs jn L).map (Value.string))[xs.length]? = some (Value.string (foldR jn x xs)) := by rw [hL, List.getElem?_map, sufs_last]; rfl
  have H1 := Aside0.mk (start3 (Φ := HP.tt) (Z := fun _ => False) ha trivial (fun k hk => hk.elim))
  obtain ⟨a, b, h0, _⟩ := ha
  replace h0 := Aside0.mk h0
  replace hL := Lib.hid hL
  obtain ⟨ad, rfl, hv⟩ := HP.raw_cell (H1.out.get 1 rfl).choose_spec xs.length _ hc
  clear hv
  generalize foldR jn x xs = v at *
  replace hc := Aside0.mk hc
  clear h
  replace hj := Lib.hid hj
  go_enter Try.func41, Try.ntmps41
  go_wp2_with fail
  refine (len_blk h0.out.1 (by omega) (by omega)).mono ?_
  rintro e Wh ⟨rfl, hb⟩
  replace H1 := Aside0.mk (H1.out.skip hb)
  replace hb := Aside0.mk hb
  have p0 := H1.out.cell 0 rfl 0 rfl
  have p1 := H1.out.cell 0 rfl 1 rfl
  go_upto_region 8 with (fail)
  clear p0 p1
  have hrd : ∀ {W' : World} {M' : Nat → Prop} {B : Option Addr} {n c : Nat} {cs : List Value}, B = some ad → cs[xs.length]? = some (Value.string v) → (HP.raw 0 9 1 (.slice B n c) n cs).at_ W' M' → W'.cell? (ad.add xs.length) = some (Value.string v) := by
    intro W' M' B n c cs hB hcs hr
    subst hB
    obtain ⟨ad', h1, h2⟩ := HP.raw_cell hr _ _ hcs
    injection h1 with h1
    rw [h1]; exact h2
  replace hrd := Aside0.mk @hrd
  go_region_held3 (fun w' => w'.cell? ⟨g, 4, none⟩ = some fj ∧ w'.cell? ⟨g, 0, none⟩ = some (.slice (some ad) L.length cf) ∧ w'.cell? (ad.add xs.length) = some (Value.string v) ∧ w'.cell? ⟨g, 2, none⟩ = some (Value.string tl)) (exact ⟨H1.out.cell 0 rfl 4 rfl, H1.out.cell 0 rfl 0 rfl, hrd.out rfl hc.out (H1.out.get 1 rfl).choose_spec, H1.out.cell 0 rfl 2 rfl⟩)
    (first | (go_at_call 30; refine (hj.out v tl _ hs).mono ?_; rintro e Wj ⟨rfl, hb2⟩; replace H1 := Aside0.mk (H1.out.drew.skip hb2); replace hb := Aside0.mk (below_step (below_drew hb.out) hb2); clear hb2))
  go_wp2
  go_ret2
  exact ⟨rfl, hb.out⟩
end Go.Proofs.Ytpakcfbjjlmcaaa.TwinS
