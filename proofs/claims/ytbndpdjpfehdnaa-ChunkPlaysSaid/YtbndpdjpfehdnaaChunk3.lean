/- The lines of chunks: Feed. No condition but the bounds. -/
import Derived.Test.YtbndpdjpfehdnaaChunk2
import Derived.Laws.EntriesVeiled
set_option linter.unusedVariables false
set_option linter.unusedSimpArgs false
set_option maxHeartbeats 1600000
set_option maxRecDepth 100000
namespace Go.Proofs.Ytbndpdjpfehdnaa.Chunk
open Go.RowKit Go.RK Go.Proofs.YtbndpdjpfehdnaaW.PrintWords
variable {W : World} {M Z : Nat → Prop} {g : Nat} {v : Value} {cur b : List Int} {came : Int}
/-- the lines that bytes bring to their end, and what is left -/
def feed : List Int → List Int → List (List Int) × List Int
  | cur, [] => ([], cur)
  | cur, x :: b => if x = 10 then (cur :: (feed [] b).1, (feed [] b).2) else feed (cur ++ [x]) b
theorem feed_app : ∀ (b1 b2 cur : List Int), feed cur (b1 ++ b2) = ((feed cur b1).1 ++ (feed (feed cur b1).2 b2).1, (feed (feed cur b1).2 b2).2)
  | [], b2, cur => by simp [feed]
  | x :: b1, b2, cur => by
    simp only [List.cons_append, feed]
    split
    · rw [feed_app b1 b2 []]; rfl
    · exact feed_app b1 b2 (cur ++ [x])
theorem feed_hit : ∀ (b cur : List Int), (cutL b).2.2 = true → feed cur b = ((cur ++ (cutL b).1) :: (feed [] (cutL b).2.1).1, (feed [] (cutL b).2.1).2)
  | [], cur, h => by simp [cutL] at h
  | x :: b, cur, h => by
    by_cases e : x = 10
    · subst e; simp [feed, cutL]
    · have e2 : (x != 10) = true := by simpa using e
      have hc : (cutL b).2.2 = true := by
        rcases List.mem_cons.1 (List.contains_iff_mem.1 h) with h | h
        · exact absurd h.symm e
        · exact List.contains_iff_mem.2 h
      have h1 : (cutL (x :: b)).1 = x :: (cutL b).1 := by show (x :: b).takeWhile (· != 10) = x :: b.takeWhile (· != 10); rw [List.takeWhile_cons, if_pos e2]
      have h2 : (cutL (x :: b)).2.1 = (cutL b).2.1 := by show ((x :: b).dropWhile (· != 10)).tail = (b.dropWhile (· != 10)).tail; rw [List.dropWhile_cons, if_pos e2]
      simp only [feed, if_neg e]
      rw [feed_hit b (cur ++ [x]) hc, h1, h2, List.append_assoc]
      rfl
theorem feed_miss : ∀ (b cur : List Int), (cutL b).2.2 = false → feed cur b = ([], cur ++ (cutL b).1)
  | [], cur, h => by simp [feed, cutL]
  | x :: b, cur, h => by
    have e : ¬ x = 10 := by intro e; subst e; simp [cutL] at h
    have e2 : (x != 10) = true := by simpa using e
    have hc : (cutL b).2.2 = false := by
      have h' : ¬ ((cutL b).2.2 = true) := fun h2 => by
        have : (cutL (x :: b)).2.2 = true := List.contains_iff_mem.2 (List.mem_cons_of_mem _ (List.contains_iff_mem.1 h2))
        rw [this] at h; cases h
      simpa using h'
    have h1 : (cutL (x :: b)).1 = x :: (cutL b).1 := by show (x :: b).takeWhile (· != 10) = x :: b.takeWhile (· != 10); rw [List.takeWhile_cons, if_pos e2]
    simp only [feed, if_neg e]
    rw [feed_miss b (cur ++ [x]) hc, h1, List.append_assoc]
    rfl
theorem cutL_len (b : List Int) : (cutL b).1.length ≤ b.length ∧ (cutL b).2.1.length ≤ b.length := by
  have h := congrArg List.length (List.takeWhile_append_dropWhile (p := (· != 10)) (l := b))
  rw [List.length_append] at h
  refine ⟨by show (b.takeWhile _).length ≤ _; omega, ?_⟩
  show ((b.dropWhile _).tail).length ≤ _
  rw [List.length_tail]; omega
theorem cutL_mem (b : List Int) : (∀ x ∈ (cutL b).1, x ∈ b) ∧ ∀ x ∈ (cutL b).2.1, x ∈ b := by
  have h := List.takeWhile_append_dropWhile (p := (· != 10)) (l := b)
  refine ⟨fun x hx => ?_, fun x hx => ?_⟩
  · rw [← h]; exact List.mem_append_left _ hx
  · rw [← h]; exact List.mem_append_right _ (List.mem_of_mem_tail hx)
theorem feed_len : ∀ (b cur : List Int), (feed cur b).1.length ≤ b.length ∧ (feed cur b).2.length ≤ cur.length + b.length
  | [], cur => by simp [feed]
  | x :: b, cur => by
    simp only [feed]
    split
    · have := feed_len b []; simp only [List.length_cons] at *; simp at this; omega
    · have := feed_len b (cur ++ [x]); simp only [List.length_append, List.length_cons, List.length_nil] at *; omega
/-- a line, as it is told -/
def lineV (cur : List Int) : ByteArray × Bool := (strOfNums (held cur), decide (1600 < cur.length))
abbrev kL : Kd (ByteArray × Bool) := Kd.pair Kd.string Kd.bool
theorem infoL : (Try.prog.info? 35).map (fun i => (i.zero, i.size, i.bytes)) = some (some (.agg #[.string ⟨#[]⟩, .bool false]), 2, 24) := by kernel_rfl
def bxb (A : Option Addr) (n c : Nat) : Obj := .cells #[.slice A n c] 27 (0, 0)
theorem next_box {A : Option Addr} {c : Nat} {xs h1 t1 : List Int} {f1 : Bool} (he : Hid (cutL xs = (h1, t1, f1))) (h : (HP.blk g (bxb A xs.length c)).at_ W M) (hv : (HP.val K8 (.slice A xs.length c) xs).at_ W Z) (hd : ∀ k, Z k → ¬ M k) (hb : ∀ x ∈ xs, 0 ≤ x ∧ x < 256) (hl : xs.length ≤ 1000000) :
    Calls Try.prog 17 #[.pointer (some ⟨g, 0, none⟩)] W fun e w' => ∃ q : (Option Addr × Nat) × Option Addr × Nat, e = .returned (.tuple #[.slice q.1.1 h1.length q.1.2, .bool f1]) ∧ Does W M Z ((HP.val K8 (.slice q.1.1 h1.length q.1.2) h1).and (HP.val K8 (.slice q.2.1 t1.length q.2.2) t1)) (HP.blk g (bxb q.2.1 t1.length q.2.2)) w' := by
  have H := Aside0.mk (((Cx.start (Φ := HP.val K8 (.slice A xs.length c) xs) h hv hd)).allocF (.cells #[.int .u8 10] 5 (0, 0)))
  have k0 : W.cell? ⟨g, 0, none⟩ = some (.slice A xs.length c) := cell_blk h.1 rfl
  have hcut := Aside0.mk (fun (w : World) (Z : Nat → Prop) (b2 : Nat) (h1 : (HP.val K8 (.slice A xs.length c) xs).at_ w Z) (h2 : w.cell? ⟨b2, 0, none⟩ = some (.int .u8 10)) => cut_8 A b2 c xs h1 h2 hb hl)
  rw [he.out] at hcut
  clear h hv hd hb
  go_enter Try.func17, Try.ntmps17
  go_wp2_with fail
  refine (H.out.cval2 (fun Z hZ => hcut.out _ Z W.heap.size hZ.1 (cell_blk hZ.2.1 rfl))).mono ?_
  rintro e w1 ⟨A1, c1, A2, c2, rfl, H1⟩
  replace H1 := Aside0.mk H1
  have q0 := H1.out.cell 0 rfl 0 rfl
  have qf := fun j => H1.out.unfrozen 0 rfl j
  clear H k0 hcut
  go_wp2
  go_ret2
  exact ⟨((A1, c1), A2, c2), rfl, ((H1.out.imp (Φ' := (HP.val K8 (.slice A1 h1.length c1) h1).and (HP.val K8 (.slice A2 t1.length c2) t1)) (fun Z hz => ⟨hz.1.2, hz.2⟩)).put 0 rfl 0 (.slice A2 t1.length c2)).done 0 rfl⟩
/-- one more line in a row of lines of the call's own, the last of the objects -/
def Ls (M0 Z0 : Nat → Prop) (W0 W : World) (Φ : HP) (Ψs : List HP) (v : Value) (out : List (ByteArray × Bool)) : Prop := ∃ cells, Cx M0 Z0 W0 W (Φ.and (HP.reps kL out cells)) (Ψs ++ [HP.raw W0.heap.size 35 2 v out.length cells])
section
variable {M0 Z0 : Nat → Prop} {W0 W1 : World} {Φ Φ' : HP} {Ψs : List HP}
theorem kind_line (s : ByteArray) (l : Bool) : (HP.kind kL (s, l) [.string s, .bool l]).at_ W M := fun W' hW => ⟨[.string s], [.bool l], rfl, rfl, rfl⟩
theorem Ls.form {v : Value} {out : List (ByteArray × Bool)} (h : Ls M0 Z0 W0 W Φ Ψs v out) : ∃ A c, v = .slice A out.length c := by
  obtain ⟨cells, h⟩ := h
  obtain ⟨A, c, rfl, _⟩ := HP.raw_form (h.get Ψs.length (by simp; rfl)).choose_spec
  exact ⟨A, c, rfl⟩
theorem Ls.snoc {v : Value} {out : List (ByteArray × Bool)} (h : Ls M0 Z0 W0 W Φ Ψs v out) (s : ByteArray) (l : Bool) (hb : out.length ≤ 1000000) :
    ∃ A1 c1 w1, (Builtin.append_ #[28, 28] 28 #[v, .slice (some ⟨W.heap.size, 0, none⟩) 1 1]).run Try.prog (W.alloc (.cells #[.string s, .bool l] 35)) = .ok (.slice A1 (out ++ [(s, l)]).length c1) w1 ∧ Ls M0 Z0 W0 w1 Φ Ψs (.slice A1 (out ++ [(s, l)]).length c1) (out ++ [(s, l)]) := by
  obtain ⟨cells, h⟩ := h
  have h2 := h.imp (Φ' := Φ.and (HP.reps kL (out ++ [(s, l)]) (cells ++ [.string s, .bool l]))) (fun Z hz => ⟨hz.1, HP.reps_snoc hz.2 (kind_line s l)⟩)
  obtain ⟨v1, w1, hrun, H⟩ := h2.app1 (P := Try.prog) (n := out.length) Ψs.length 28 28 35 (.agg #[.string ⟨#[]⟩, .bool false]) 2 24 (by simp; rfl) (Nat.le_refl _) Try.underlying28 infoL rfl (by omega) (by omega) [.string s, .bool l] rfl (by intro u hu; rcases List.mem_cons.1 hu with rfl | hu; rfl; rw [List.mem_singleton.1 hu]; rfl) (by omega)
  rw [List.set_append_right _ _ (Nat.le_refl _), Nat.sub_self] at H
  have e : out.length + 1 = (out ++ [(s, l)]).length := by simp
  rw [e] at H
  have H' : Cx M0 Z0 W0 w1 (Φ.and (HP.reps kL (out ++ [(s, l)]) (cells ++ [.string s, .bool l]))) (Ψs ++ [HP.raw W0.heap.size 35 2 v1 (out ++ [(s, l)]).length (cells ++ [.string s, .bool l])]) := H
  obtain ⟨A1, c1, rfl, _⟩ := HP.raw_form (H'.get Ψs.length (by simp; rfl)).choose_spec
  rw [e] at hrun H'
  exact ⟨A1, c1, w1, hrun, _, H'⟩
theorem Ls.done {v : Value} {out : List (ByteArray × Bool)} (h : Ls M0 Z0 W0 W Φ Ψs v out) (i : Nat) {Ψ : HP} (hi : Ψs[i]? = some Ψ) : Does W0 M0 Z0 (HP.val kL v out) Ψ W := by
  obtain ⟨cells, h⟩ := h
  have h2 := (h.freezeRow Ψs.length (by simp; rfl) (Nat.le_refl _)).imp (Φ' := HP.val kL v out) (fun Z hz => HP.val_of (d := kL) hz.2 hz.1.2)
  exact h2.done i (by rw [List.getElem?_set, if_neg (by have := (List.getElem?_eq_some_iff.1 hi).1; omega), List.getElem?_append_left (List.getElem?_eq_some_iff.1 hi).1]; exact hi)
end
def lenV : Value → Nat
  | .slice _ n _ => n
  | _ => 0
theorem feed_nil (A : Option Addr) (n c : Nat) : Calls Try.prog 9 #[.pointer none, .slice A n c] W fun e w' => e = .returned (.slice none 0 0) ∧ Below W.heap.size W w' := by
  go_enter Try.func9, Try.ntmps9
  go_wp2
  go_ret
  exact ⟨rfl, (Below.refl _ _).alloc (Nat.le_refl _) _⟩
theorem feed_ck {A1 : Option Addr} {c1 : Nat} (h : (Ck g cur came).at_ W M) (hv : (HP.val K8 (.slice A1 b.length c1) b).at_ W Z) (hd : ∀ k, Z k → ¬ M k) (hb : b.length ≤ 10000) (hbb : ∀ x ∈ b, 0 ≤ x ∧ x < 256) (hc0 : 0 ≤ came) (hc1 : came ≤ 1000000) :
    Calls Try.prog 9 #[.pointer (some ⟨g, 0, none⟩), .slice A1 b.length c1] W fun e w' => ∃ v, e = .returned v ∧ Does W M Z (HP.val kL v ((feed cur b).1.map lineV)) (Ck g (feed cur b).2 (came + b.length)) w' := by
  obtain ⟨A, c, H⟩ := ck_open h hv hd
  have hw : IntKind.i64.wrap (came + b.length) = came + b.length := IntWalk.i64_in _ (by omega)
  have H0 := H.alloc (bxb A1 b.length c1)
  have k2 := H0.cell 0 rfl 2 rfl
  have kf := fun j => H0.unfrozen 0 rfl j
  have kb := H0.cell 2 rfl 0 rfl
  have H1 := H0.put 0 rfl 2 (.int .i64 (came + b.length))
  have H2 := ((H1.glue 0 1 (by decide) rfl rfl).impi 0 rfl (Ψ' := Ck g cur (came + b.length)) (fun M hM => ⟨(A, c), hM⟩))
  obtain ⟨b3, hb3⟩ : ∃ b3, b3 = W.heap.size := ⟨_, rfl⟩
  have H3 := Aside0.mk (show Cx M Z W ((W.alloc (bxb A1 b.length c1)).setCell ⟨g, 2, none⟩ (.int .i64 (came + b.length))) (HP.val K8 (.slice A1 b.length c1) b) [Ck g cur (came + b.length), HP.tt, HP.blk b3 (bxb A1 b.length c1)] from by rw [hb3]; exact H2)
  obtain ⟨T, hT⟩ : ∃ T, T = (feed cur b).1.map lineV := ⟨_, rfl⟩
  obtain ⟨F, hF⟩ : ∃ F, F = (feed cur b).2 := ⟨_, rfl⟩
  have hTl : T.length ≤ 10000 := by rw [hT, List.length_map]; have := (feed_len b cur).1; omega
  rw [← hT, ← hF]
  have H4 : Aside0 (Ls M Z W ((W.alloc (bxb A1 b.length c1)).setCell ⟨g, 2, none⟩ (.int .i64 (came + b.length))) (HP.val K8 (.slice A1 b.length c1) b) [Ck g cur (came + b.length), HP.tt, HP.blk b3 (bxb A1 b.length c1)] (.slice none 0 0) []) := ⟨[], (H3.out.add (HP.raw_nil _ _ _ _ _)).imp (fun Z hz => ⟨hz, HP.reps_nil _ _ _⟩)⟩
  have hinv : Hid (([] : List (ByteArray × Bool)) ++ (feed cur b).1.map lineV = T ∧ (feed cur b).2 = F) := Lib.hid ⟨by rw [hT]; rfl, hF.symm⟩
  replace hT := Lib.hid hT
  replace hF := Lib.hid hF
  replace hbb := Lib.hid hbb
  clear h hv hd H H0 H1 H2 H3
  unfold bxb at k2 kf kb
  go_enter Try.func9, Try.ntmps9
  go_wp2
  go_region
  replace H4 := Aside0.mk (show Ls M Z W ((W.alloc (.cells #[.slice A1 b.length c1] 27 (0, 0))).setCell ⟨g, 2, none⟩ (.int .i64 (came + b.length))).drew _ _ _ _ from let ⟨cells, h⟩ := H4.out; ⟨cells, h.drew⟩)
  clear k2 kf kb
  go_wp2
  rw [← hb3] at *
  go_loopw [6] (fun v6 wr => ∃ (xs cur : List Int) (A2 : Option Addr) (c2 : Nat) (out : List (ByteArray × Bool)) (A6 : Option Addr) (c6 : Nat), v6 = .slice A6 out.length c6 ∧ xs.length ≤ b.length ∧ Hid (∀ x ∈ xs, 0 ≤ x ∧ x < 256) ∧ Hid (out ++ (feed cur xs).1.map lineV = T ∧ (feed cur xs).2 = F) ∧ Aside0 (Ls M Z W wr (HP.val K8 (.slice A2 xs.length c2) xs) [Ck g cur (came + b.length), HP.tt, HP.blk b3 (bxb A2 xs.length c2)] (.slice A6 out.length c6) out)) (fun v6 _ => T.length - lenV v6)
  case atStart => exact ⟨b, cur, A1, c1, [], none, 0, rfl, Nat.le_refl _, hbb, hinv, H4⟩
  case round =>
    clear H4 hinv
    obtain ⟨xs, cur, A2, c2, out, A6, c6, rfl, hxl, hxb, hinv, H⟩ := hrel
    obtain ⟨h1, t1, f1, he⟩ : ∃ h1 t1 f1, cutL xs = (h1, t1, f1) := ⟨_, _, _, rfl⟩
    have hhl : h1.length ≤ xs.length := by have := (cutL_len xs).1; rw [he] at this; exact this
    have htl : t1.length ≤ xs.length := by have := (cutL_len xs).2; rw [he] at this; exact this
    have htb : Hid (∀ x ∈ t1, 0 ≤ x ∧ x < 256) := Lib.hid (fun x hx => hxb.out x (by have := (cutL_mem xs).2 x; rw [he] at this; exact this hx))
    have hol : out.length ≤ T.length := by have := congrArg List.length hinv.out.1; rw [List.length_append] at this; omega
    have hhit : f1 = true → feed cur xs = ((cur ++ h1) :: (feed [] t1).1, (feed [] t1).2) := fun hf => by have := feed_hit xs cur (by rw [he]; exact hf); rw [he] at this; exact this
    have hmiss : f1 = false → feed cur xs = ([], cur ++ h1) := fun hf => by have := feed_miss xs cur (by rw [he]; exact hf); rw [he] at this; exact this
    replace he := Lib.hid he
    obtain ⟨cells, H0⟩ := H.out
    replace H0 := Aside0.mk H0
    clear H
    go_wp2_with fail
    refine (H0.out.cuse (α := (Option Addr × Nat) × Option Addr × Nat) (R := fun q e => e = .returned (.tuple #[.slice q.1.1 h1.length q.1.2, .bool f1])) (Φ' := fun q => (HP.val K8 (.slice q.1.1 h1.length q.1.2) h1).and (HP.val K8 (.slice q.2.1 t1.length q.2.2) t1)) (Ψ' := fun q => HP.blk b3 (bxb q.2.1 t1.length q.2.2)) 2 rfl (fun M Z hM hZ hd => next_box he hM hZ.1 hd hxb.out (by omega))).mono ?_
    rintro e w1 ⟨⟨⟨A3, c3⟩, A4, c4⟩, rfl, H1⟩
    replace H1 := Aside0.mk H1
    clear H0
    go_wp2_with fail
    refine (H1.out.cobj 0 rfl (fun M Z hM hZ hd => take_ck hM (HP.val_rd hZ.2.1) hd (by omega))).mono ?_
    rintro e w2 ⟨rfl, H2⟩
    replace H2 := Aside0.mk H2
    clear H1
    rcases f1 with _ | _
    · have hm := hmiss rfl
      have hin := hinv.out
      rw [hm] at hin
      go_wp2
      go_ret
      have hT2 : T = out := by rw [← hin.1]; simp
      have hF2 : F = cur ++ h1 := hin.2.symm
      rw [hT2, hF2]
      exact ⟨_, rfl, Ls.done (Ψs := [Ck g (cur ++ h1) (came + b.length), HP.tt, HP.blk b3 (bxb A4 t1.length c4)]) ⟨cells, H2.out.imp (Φ' := HP.tt.and (HP.reps kL out cells)) (fun Z hz => ⟨trivial, hz.1.2⟩)⟩ 0 rfl⟩
    · have hm := hhit rfl
      have hin := hinv.out
      rw [hm] at hin
      have hlt : out.length < T.length := by have := congrArg List.length hin.1; rw [List.length_append, List.map_cons, List.length_cons] at this; omega
      replace hin := Lib.hid hin
      go_wp2_with fail
      refine (H2.out.cobj 0 rfl (fun M Z hM hZ hd => line_ck hM trivial hd)).mono ?_
      rintro e w3 ⟨rfl, H3⟩
      have H4 : Ls M Z W w3 (HP.val K8 (.slice A4 t1.length c4) t1) [Ck g [] (came + b.length), HP.tt, HP.blk b3 (bxb A4 t1.length c4)] (.slice A6 out.length c6) out := ⟨cells, H3.imp (fun Z hz => ⟨hz.2.2, hz.1.2⟩)⟩
      obtain ⟨A7, c7, w7, hrun, H5⟩ := H4.snoc (strOfNums (held (cur ++ h1))) (decide (1600 < (cur ++ h1).length)) (by omega)
      have hin' : Hid ((out ++ [(strOfNums (held (cur ++ h1)), decide (1600 < (cur ++ h1).length))]) ++ (feed [] t1).1.map lineV = T ∧ (feed [] t1).2 = F) := Lib.hid ⟨by rw [← hin.out.1, List.append_assoc]; rfl, hin.out.2⟩
      have hol2 : (out ++ [(strOfNums (held (cur ++ h1)), decide (1600 < (cur ++ h1).length))]).length = out.length + 1 := by simp
      generalize hB : decide (1600 < (cur ++ h1).length) = B at *
      generalize hSs : strOfNums (held (cur ++ h1)) = Ss at *
      generalize hO : out ++ [(Ss, B)] = o' at *
      replace hO := Lib.hid hO
      replace hSs := Lib.hid hSs
      replace hB := Lib.hid hB
      replace hol2 := Lib.hid hol2
      replace hrun := Aside0.mk hrun
      replace H5 := Aside0.mk H5
      clear H2 H3 H4
      go_wp2_with (refine wpList_app rfl rfl rfl rfl hrun.out ?_)
      go_roundw
      case rel => exact ⟨t1, [], A4, c4, o', A7, c7, rfl, by omega, htb, hin', H5⟩
      case measure => have := hol2.out; simp [lenV]; omega
end Go.Proofs.Ytbndpdjpfehdnaa.Chunk
