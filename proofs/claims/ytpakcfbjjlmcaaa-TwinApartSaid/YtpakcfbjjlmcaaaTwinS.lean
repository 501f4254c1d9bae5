/- The methods of a window by two stacks of string. No condition. -/
import Derived.Test.YtpakcfbjjlmcaaaProg
import Derived.Test.YtpakcfbjjlmcaaaSep
import Derived.Test.YtpakcfbjjlmcaaaTwinPure
set_option linter.unusedVariables false
set_option linter.unusedSimpArgs false
set_option maxHeartbeats 800000
set_option maxRecDepth 100000
namespace Go.Proofs.Ytpakcfbjjlmcaaa.TwinS
open Go.RowKit Go.RK Go.TW Go.Proofs.YtpakcfbjjlmcaaaW.PrintWords
theorem infoE : (Try.prog.info? 9).map (fun i => (i.zero, i.size, i.bytes)) = some (some (.string ⟨#[]⟩), 1, 16) := by kernel_rfl
theorem zeroE (w : World) : (zeroValue 9).run Try.prog w = .ok (.string ⟨#[]⟩) w := by kernel_rfl
variable {jn : ByteArray → ByteArray → ByteArray} {W : World} {M Z : Nat → Prop} {g : Nat} {most : Int} {fv : Value} {Lf Lb : List ByteArray}
/-- the block and the two stacks -/
def Agg (jn : ByteArray → ByteArray → ByteArray) (g : Nat) (most : Int) (fv : Value) (Lf Lb : List ByteArray) (vf vb : Value) (tl : ByteArray) : HP :=
  HP.sep (HP.blk g (.cells #[vf, vb, (Value.string tl), .int .i64 most, fv] 121 (0, 0))) (HP.sep (HP.raw 0 9 1 vf Lf.length ((sufs jn Lf).map (Value.string))) (HP.raw 0 9 1 vb Lb.length (Lb.map (Value.string))))
def TailOk (jn : ByteArray → ByteArray → ByteArray) (Lb : List ByteArray) (tl : ByteArray) : Prop := ∀ x xs, Lb = x :: xs → tl = foldL jn x xs
def AggH (jn : ByteArray → ByteArray → ByteArray) (g : Nat) (most : Int) (fv : Value) (Lf Lb : List ByteArray) : HP :=
  HP.ex (fun p : Value × Value × ByteArray => (Agg jn g most fv Lf Lb p.1 p.2.1 p.2.2).and (HP.pure (TailOk jn Lb p.2.2)))
theorem AggH.opn (h : (AggH jn g most fv Lf Lb).at_ W M) : ∃ Af cf Ab cb tl, (Agg jn g most fv Lf Lb (.slice Af Lf.length cf) (.slice Ab Lb.length cb) tl).at_ W M ∧ TailOk jn Lb tl ∧ Lf.length ≤ cf ∧ Lb.length ≤ cb := by
  obtain ⟨⟨vf, vb, tl⟩, h, ht⟩ := h
  obtain ⟨a, b, h0, ⟨a1, b1, h1, h2, h3⟩, h4⟩ := id h
  obtain ⟨Af, cf, rfl, hf⟩ := HP.raw_form h1
  obtain ⟨Ab, cb, rfl, hb⟩ := HP.raw_form h2
  exact ⟨Af, cf, Ab, cb, tl, h, ht, hf, hb⟩
theorem Agg.shut {vf vb : Value} {tl : ByteArray} (h : (Agg jn g most fv Lf Lb vf vb tl).at_ W M) (ht : TailOk jn Lb tl) : (AggH jn g most fv Lf Lb).at_ W M := ⟨(vf, vb, tl), h, ht⟩
/-- what a call that turned an Agg has done -/
theorem does_of {vf vb : Value} {tl : ByteArray} {Φ : HP} {W1 : World} (h : Does W M Z Φ (Agg jn g most fv Lf Lb vf vb tl) W1) (ht : TailOk jn Lb tl) : Does W M Z Φ (AggH jn g most fv Lf Lb) W1 :=
  let ⟨M1, a, b, c⟩ := h.ex; ⟨h.fr, M1, Agg.shut a ht, b, c⟩

theorem len_nil : Calls Try.prog 43 #[.pointer none] W fun e w' => e = .returned (.int .i64 0) ∧ w' = W := by
  go_enter Try.func43, Try.ntmps43
  go_wp2
  go_ret
  exact ⟨rfl, rfl⟩
theorem len_blk {A A' : Option Addr} {n c n' c' : Nat} {t m f : Value} (h : W.heap[g]? = some (.cells #[.slice A n c, .slice A' n' c', t, m, f] 121 (0, 0))) (h1 : n ≤ 1000000) (h2 : n' ≤ 1000000) :
    Calls Try.prog 43 #[.pointer (some ⟨g, 0, none⟩)] W fun e w' => e = .returned (.int .i64 ((n : Int) + n')) ∧ Below W.heap.size W w' := by
  have c0 : W.cell? ⟨g, 0, none⟩ = some (.slice A n c) := cell_blk h rfl
  have c1 : W.cell? ⟨g, 1, none⟩ = some (.slice A' n' c') := cell_blk h rfl
  have hw : IntKind.i64.wrap ((n : Int) + n') = n + n' := IntWalk.i64_in _ (by omega)
  clear h
  go_enter Try.func43, Try.ntmps43
  go_wp2
  go_quiet (fail)
  go_wp2
  go_ret
  exact ⟨rfl, pw_below_drewN (Below.refl _ _) _⟩
theorem len_agg (h : (AggH jn g most fv Lf Lb).at_ W M) (h1 : Lf.length ≤ 1000000) (h2 : Lb.length ≤ 1000000) :
    Calls Try.prog 43 #[.pointer (some ⟨g, 0, none⟩)] W fun e w' => e = .returned (.int .i64 ((Lf.length : Int) + Lb.length)) ∧ Below W.heap.size W w' := by
  obtain ⟨Af, cf, Ab, cb, tl, ⟨a, b, h0, _⟩, _⟩ := AggH.opn h
  exact len_blk h0.1 h1 h2

theorem new_made (m : Int) (h1 : 1 ≤ m) (h2 : m ≤ 64) : Calls Try.prog 29 #[.int .i64 m, .func (.func 30) #[] #[]] W fun e w' => ∃ g, e = .returned (.tuple #[.pointer (some ⟨g, 0, none⟩), .int .i64 0]) ∧ Below W.heap.size W w' ∧ (AggH jn g m (.func (.func 30) #[] #[]) [] []).at_ w' (fun k => W.heap.size ≤ k) := by
  have hu := Try.underlying121
  have hq : ∀ w, (binOp .eql 55 (.func (.func 30) #[] #[]) .nilFunc).run Try.prog w = .ok (.bool false) w := fun _ => by kernel_rfl
  go_enter Try.func29, Try.ntmps29
  go_wp2
  go_ret2
  refine ⟨W.heap.size, rfl, (Below.refl _ _).alloc (Nat.le_refl _) _, Agg.shut (vf := .slice none 0 0) (vb := .slice none 0 0) (tl := ByteArray.empty) ⟨fun k => k = W.heap.size, fun _ => False, ⟨hp_alloc_new _ _, rfl⟩, ⟨fun _ => False, fun _ => False, HP.raw_nil _ _ _ _ _, HP.raw_nil _ _ _ _ _, fun _ h => h, fun _ h => h, fun _ h => h.elim⟩, fun k hk => by omega, fun k hk => hk.elim, fun k _ hk => hk⟩ (fun x xs h => by cases h)⟩
theorem new_no (m : Int) (v : Value) (h : ¬ (1 ≤ m ∧ m ≤ 64)) : Calls Try.prog 29 #[.int .i64 m, v] W fun e w' => e = .returned (.tuple #[.pointer none, .int .i64 1]) ∧ w' = W := by
  have H := Lib.hid h
  clear h
  by_cases h1 : m < 1
  · go_enter Try.func29, Try.ntmps29
    go_wp2
    go_ret2
    exact ⟨rfl, rfl⟩
  · have h2 : 64 < m := by have := H.out; omega
    go_enter Try.func29, Try.ntmps29
    go_wp2
    go_ret2
    exact ⟨rfl, rfl⟩

abbrev fj : Value := .func (.func 30) #[] #[]
/-- the function joins -/
def JoinOk (sz : ByteArray → Nat) (jn : ByteArray → ByteArray → ByteArray) : Prop := ∀ (a b : ByteArray) (W : World), sz a + sz b ≤ 1000000 → Calls Try.prog 30 #[(Value.string a), (Value.string b)] W fun e W1 => e = .returned (Value.string (jn a b)) ∧ Below W.heap.size W W1
theorem start3 {Φ : HP} {vf vb : Value} {tl : ByteArray} (h : (Agg jn g most fv Lf Lb vf vb tl).at_ W M) (hf : Φ.at_ W Z) (hd : ∀ k, Z k → ¬ M k) : Cx M Z W W Φ [HP.blk g (.cells #[vf, vb, (Value.string tl), .int .i64 most, fv] 121 (0, 0)), HP.raw 0 9 1 vf Lf.length ((sufs jn Lf).map (Value.string)), HP.raw 0 9 1 vb Lb.length (Lb.map (Value.string))] :=
  ((Cx.start h hf hd).split 0 rfl).split 1 rfl
theorem done3 {M0 Z0 : Nat → Prop} {W0 : World} {Φ : HP} {vf vb : Value} {tl : ByteArray} {cf cb : List Value} {nf nb : Nat} {rest : List HP} (h : Cx M0 Z0 W0 W Φ ([HP.blk g (.cells #[vf, vb, (Value.string tl), .int .i64 most, fv] 121 (0, 0)), HP.raw 0 9 1 vf nf cf, HP.raw 0 9 1 vb nb cb] ++ rest)) (hf : cf = (sufs jn Lf).map (Value.string)) (hb : cb = Lb.map (Value.string)) (hnf : nf = Lf.length) (hnb : nb = Lb.length) (ht : TailOk jn Lb tl) : Does W0 M0 Z0 Φ (AggH jn g most fv Lf Lb) W := by
  subst hf hb hnf hnb
  exact does_of (((h.glue 1 2 (by decide) rfl rfl).glue 0 1 (by decide) rfl rfl).done 0 rfl) ht

theorem push_nil (v : Value) : Calls Try.prog 44 #[.pointer none, v] W fun e w' => e = .returned (.int .i64 1) ∧ w' = W := by
  go_enter Try.func44, Try.ntmps44
  go_wp2
  go_ret
  exact ⟨rfl, rfl⟩
theorem push_full (x : ByteArray) (h : (AggH jn g most fv Lf Lb).at_ W M) (hZ : ∀ k, Z k → ¬ M k) (hm : Lf.length + Lb.length ≤ 100) (hl : (Lf.length : Int) + Lb.length = most) :
    Calls Try.prog 44 #[.pointer (some ⟨g, 0, none⟩), (Value.string x)] W fun e w' => e = .returned (.int .i64 19) ∧ Does W M Z HP.tt (AggH jn g most fv Lf Lb) w' := by
  obtain ⟨Af, cf, Ab, cb, tl, ha, ht, _⟩ := AggH.opn h
  have H1 := Aside0.mk (start3 (Φ := HP.tt) ha trivial hZ)
  have hb : ((Lf.length : Int) + Lb.length == most) = true := by simp [hl]
  replace hl := Lib.hid hl
  clear h ha
  go_enter Try.func44, Try.ntmps44
  go_upto_region 3 with (fail)
  go_region_held3 (fun w' => w'.cell? ⟨g, 3, none⟩ = some (.int .i64 most)) (exact H1.out.cell 0 rfl 3 rfl)
    (first | (go_at_call 43; refine (H1.out.drew.cread 0 rfl (fun M hM => len_blk hM.1 (by first | omega | simp) (by first | omega | simp))).mono ?_; rintro e Wh ⟨rfl, H2⟩; replace H1 := Aside0.mk H2; clear H2))
  rename_i hHeld
  clear hHeld
  go_wp2
  go_ret
  exact ⟨rfl, done3 (rest := []) H1.out rfl rfl rfl rfl ht⟩
theorem push_first (x : ByteArray) (L : List ByteArray) (hL : L = []) (h : (AggH jn g most fv Lf L).at_ W M) (hZ : ∀ k, Z k → ¬ M k) (hm : Lf.length ≤ 100) (hl : (Lf.length : Int) ≠ most) :
    Calls Try.prog 44 #[.pointer (some ⟨g, 0, none⟩), (Value.string x)] W fun e w' => e = .returned (.int .i64 0) ∧ Does W M Z HP.tt (AggH jn g most fv Lf (L ++ [x])) w' := by
  obtain ⟨Af, cf, Ab, cb, tl, ha, ht, _⟩ := AggH.opn h
  have H1 := Aside0.mk (start3 (Φ := HP.tt) ha trivial hZ)
  have hlen : L.length = 0 := by rw [hL]; rfl
  have hb : ((Lf.length : Int) + L.length == most) = false := by rw [hlen]; simpa using hl
  have hb3 : ((L.length : Int) == 0) = true := by rw [hlen]; rfl
  have hb4 : L.length ≤ 0 := by omega
  replace hl := Lib.hid hl
  replace hL := Lib.hid hL
  clear h ha hlen
  go_enter Try.func44, Try.ntmps44
  go_upto_region 3 with (fail)
  go_region_held3 (fun w' => w'.cell? ⟨g, 3, none⟩ = some (.int .i64 most)) (exact H1.out.cell 0 rfl 3 rfl)
    (first | (go_at_call 43; refine (H1.out.drew.cread 0 rfl (fun M hM => len_blk hM.1 (by first | omega | simp) (by first | omega | simp))).mono ?_; rintro e Wh ⟨rfl, H2⟩; replace H1 := Aside0.mk H2; clear H2))
  rename_i hHeld
  clear hHeld
  have k1 := H1.out.cell 0 rfl 1 rfl
  have k2 := H1.out.cell 0 rfl 2 rfl
  have kf := fun j => H1.out.unfrozen 0 rfl j
  go_upto_region 8 with (fail)
  replace H1 := Aside0.mk (H1.out.put 0 rfl 2 (Value.string x))
  clear kf k2
  generalize World.setCell Wh _ _ = Wk at *
  obtain ⟨v1, w1, hrun, H2⟩ := H1.out.app1 (P := Try.prog) 2 57 57 9 (.string ⟨#[]⟩) 1 16 rfl (Nat.zero_le _) Try.underlying57 infoE rfl (by omega) (by omega) [Value.string x] rfl (by intro u hu; rw [List.mem_singleton.1 hu]; rfl) (by first | omega | (simp; done) | (simp; omega))
  obtain ⟨A1, c1, rfl, _⟩ := HP.raw_form (H2.get 2 rfl).choose_spec
  replace hrun := Aside0.mk hrun
  replace H2 := Aside0.mk H2
  have p1 := H1.out.cell 0 rfl 1 rfl
  have q1 := H2.out.cell 0 rfl 1 rfl
  have qf := fun j => H2.out.unfrozen 0 rfl j
  clear H1
  try clear k1
  try clear k2
  go_wp2_with (refine wpList_app rfl rfl rfl rfl hrun.out ?_)
  go_ret
  refine ⟨rfl, done3 (Lf := Lf) (Lb := L ++ [x]) (tl := x) (rest := []) (H2.out.put 0 rfl 1 _) rfl (by rw [List.map_append]; rfl) rfl (by simp) ?_⟩
  intro y ys hy
  rw [hL.out] at hy
  injection hy with hy hys
  subst hy; subst hys
  rfl
theorem push_more (sz : ByteArray → Nat) (hj : JoinOk sz jn) (x y : ByteArray) (ys : List ByteArray) (h : (AggH jn g most fj Lf (y :: ys)).at_ W M) (hZ : ∀ k, Z k → ¬ M k) (hm : Lf.length + (ys.length + 1) ≤ 100) (hl : (Lf.length : Int) + (ys.length + 1) ≠ most) (hs : sz (foldL jn y ys) + sz x ≤ 1000000) :
    Calls Try.prog 44 #[.pointer (some ⟨g, 0, none⟩), Value.string x] W fun e w' => e = .returned (.int .i64 0) ∧ Does W M Z HP.tt (AggH jn g most fj Lf (y :: ys ++ [x])) w' := by
  obtain ⟨Af, cf, Ab, cb, tl, ha, ht, _⟩ := AggH.opn h
  obtain rfl := ht y ys rfl
  have H1 := Aside0.mk (start3 (Φ := HP.tt) ha trivial hZ)
  generalize hL : y :: ys = L at *
  have hlen : L.length = ys.length + 1 := by rw [← hL]; rfl
  have hb : ((Lf.length : Int) + L.length == most) = false := by rw [hlen]; simpa using hl
  have hb2 : 0 < L.length := by omega
  have hb3 : ((L.length : Int) == 0) = false := by rw [beq_eq_false_iff_ne]; omega
  rw [← hlen] at hm
  generalize hF : foldL jn y ys = tl at *
  replace hF := Lib.hid hF
  replace hL := Lib.hid hL
  replace hj := Lib.hid hj
  clear h ha hl hlen
  go_enter Try.func44, Try.ntmps44
  go_upto_region 3 with (fail)
  go_region_held3 (fun w' => w'.cell? ⟨g, 3, none⟩ = some (.int .i64 most)) (exact H1.out.cell 0 rfl 3 rfl)
    (first | (go_at_call 43; refine (H1.out.drew.cread 0 rfl (fun M hM => len_blk hM.1 (by first | omega | simp) (by first | omega | simp))).mono ?_; rintro e Wh ⟨rfl, H2⟩; replace H1 := Aside0.mk H2; clear H2))
  rename_i hHeld
  clear hHeld
  have k1 := H1.out.cell 0 rfl 1 rfl
  go_upto_region 7 with (fail)
  clear k1
  have k2 := H1.out.cell 0 rfl 2 rfl
  have k4 := H1.out.cell 0 rfl 4 rfl
  go_region_with (first | (go_at_call 30; refine (H1.out.drew.cskip (fun Z hZ => hj.out tl x _ hs)).mono ?_; rintro e Wj ⟨rfl, H2⟩; replace H1 := Aside0.mk H2; clear H2; have k2 := H1.out.cell 0 rfl 2 rfl; have kf := fun j => H1.out.unfrozen 0 rfl j))
  all_goals
    clear k2 kf
    replace H1 := Aside0.mk (H1.out.put 0 rfl 2 (Value.string (jn tl x)))
    generalize World.setCell Wj _ _ = Wk at *
    go_upto_region 8 with (fail)
    obtain ⟨v1, w1, hrun, H2⟩ := H1.out.app1 (P := Try.prog) 2 57 57 9 (.string ⟨#[]⟩) 1 16 rfl (Nat.zero_le _) Try.underlying57 infoE rfl (by omega) (by omega) [Value.string x] rfl (by intro u hu; rw [List.mem_singleton.1 hu]; rfl) (by first | omega | (simp; done) | (simp; omega))
    obtain ⟨A1, c1, rfl, _⟩ := HP.raw_form (H2.get 2 rfl).choose_spec
    replace hrun := Aside0.mk hrun
    replace H2 := Aside0.mk H2
    have p1 := H1.out.cell 0 rfl 1 rfl
    have q1 := H2.out.cell 0 rfl 1 rfl
    have qf := fun j => H2.out.unfrozen 0 rfl j
    clear H1
    try clear k1
    try clear k2
    go_wp2_with (refine wpList_app rfl rfl rfl rfl hrun.out ?_)
    go_ret
    refine ⟨rfl, done3 (Lf := Lf) (Lb := L ++ [x]) (tl := jn tl x) (rest := []) (H2.out.put 0 rfl 1 _) rfl (by rw [List.map_append]; rfl) rfl (by simp) ?_⟩
    intro z zs hz
    rw [← hL.out] at hz
    injection hz with hz hzs
    subst hz; subst hzs
    rw [← hF.out]
    exact (foldL_snoc jn y x ys).symm

end Go.Proofs.Ytpakcfbjjlmcaaa.TwinS
