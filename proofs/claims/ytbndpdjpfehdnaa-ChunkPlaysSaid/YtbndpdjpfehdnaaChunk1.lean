/- Package bytes, as far as a chunk needs it: Cut at one byte, Clone. No condition but the bounds. -/
import Derived.Test.YtbndpdjpfehdnaaProg
import Derived.Test.YtbndpdjpfehdnaaFull
import Derived.Shelf.Bytes.SlIndexAt
set_option linter.unusedVariables false
set_option linter.unusedSimpArgs false
set_option maxHeartbeats 1600000
set_option maxRecDepth 100000
namespace Go.Proofs.Ytbndpdjpfehdnaa.Chunk
open Go.RowKit Go.RK Go.Proofs.YtbndpdjpfehdnaaW.PrintWords
variable {W : World} {M Z : Nat → Prop} {g : Nat} {v : Value}
abbrev K8 : Kd Int := Kd.int .u8
abbrev I8 (xs : List Int) : List Value := xs.map (Value.int .u8)
/-- where the newline stands, or -1 -/
abbrev nl (xs : List Int) : Int := Lib.indexByte (Lib.bytesOf xs) 10
theorem info8 : (Try.prog.info? 5).map (fun i => (i.zero, i.size, i.bytes)) = some (some (.int .u8 0), 1, 1) := by kernel_rfl
theorem indexByte_8 (A : Option Addr) (c : Nat) (xs : List Int) (hv : (HP.rd K8 A xs).at_ W Z) :
    Calls Try.prog 24 #[.slice A xs.length c, .int .u8 10] W fun e w' => e = .returned (.int .i64 (nl xs)) ∧ w' = W := by
  have hrun : (Extern.BytealgIndexByte.indexByte #[.slice A xs.length c, .int .u8 10]).run Try.prog W = .ok (.int .i64 (nl xs)) W := by
    by_cases hp : 0 < xs.length
    · obtain ⟨ad, _, rfl, _, _⟩ := HP.rd_get hv 0 (List.getElem?_eq_getElem hp)
      refine Lib.run_indexByteAt W ad xs.length c xs rfl (fun i hi => ?_) 10
      obtain ⟨ad', cs, h1, hK, hc⟩ := HP.rd_get hv i (List.getElem?_eq_getElem hi)
      injection h1 with h1
      subst h1
      have hK' : cs = [.int .u8 xs[i]] := HP.foot_now hK
      subst hK'
      have := hc 0 _ rfl
      rw [show i * K8.sz + 0 = i by show i * 1 + 0 = i; omega] at this
      rw [this, List.getD_eq_getElem?_getD, List.getElem?_eq_getElem hi]
      rfl
    · obtain rfl : xs = [] := List.eq_nil_of_length_eq_zero (by omega)
      rcases A with _ | ad
      · exact Lib.run_indexByteNil W _ c 10
      · exact Lib.run_indexByteAt W ad 0 c [] rfl (fun i hi => absurd hi (by omega)) 10
  replace hrun := Aside0.mk hrun
  clear hv
  go_enter Try.func24, Try.ntmps24
  go_wp2
  rw [run_callFunc_extern Try.func29 (by kernel_rfl) (by kernel_rfl) (by kernel_rfl) (e := Extern.BytealgIndexByte.indexByte) (by kernel_rfl), hrun.out]
  simp only [Result.andThen]
  rw [Oper.upon_value]
  go_wp2
  go_ret
  exact ⟨rfl, rfl⟩
theorem index_8 (A : Option Addr) (b2 c : Nat) (xs : List Int) (hv : (HP.rd K8 A xs).at_ W Z) (hc : W.cell? ⟨b2, 0, none⟩ = some (.int .u8 10)) :
    Calls Try.prog 23 #[.slice A xs.length c, .slice (some ⟨b2, 0, none⟩) 1 1] W fun e w' => e = .returned (.int .i64 (nl xs)) ∧ w' = W := by
  have hv0 := Aside0.mk hv
  generalize hq : nl xs = q
  clear hv
  go_enter Try.func23, Try.ntmps23
  go_wp2_with fail
  refine (indexByte_8 A c xs hv0.out).mono ?_
  rintro e w' ⟨rfl, rfl⟩
  rw [hq]
  go_wp2
  go_ret
  exact ⟨rfl, rfl⟩
/-- what Cut tells: ahead of the newline, behind it, whether it is there -/
def cutL (xs : List Int) : List Int × List Int × Bool := (xs.takeWhile (· != 10), (xs.dropWhile (· != 10)).tail, xs.contains 10)
theorem byte_eq (x : Int) (h0 : 0 ≤ x) (h1 : x < 256) : (x.toNat.toUInt8 == (10 : UInt8)) = (x == 10) := by
  obtain ⟨n, rfl⟩ := Int.eq_ofNat_of_zero_le h0
  have hn : n < 256 := by omega
  rw [Int.toNat_natCast]
  by_cases h : n = 10
  · subst h; rfl
  · have h2 : ¬ ((n : Int) = 10) := by omega
    have h3 : ¬ (n.toUInt8 = (10 : UInt8)) := by
      intro e
      have := congrArg UInt8.toNat e
      simp [Nat.toUInt8, UInt8.toNat_ofNat'] at this
      omega
    rw [beq_eq_false_iff_ne.2 h3, beq_eq_false_iff_ne.2 h2]
theorem nl_eq : ∀ (xs : List Int), (∀ x ∈ xs, 0 ≤ x ∧ x < 256) → nl xs = if xs.contains 10 then ((xs.takeWhile (· != 10)).length : Int) else -1
  | [], _ => rfl
  | x :: xs, h => by
    have ih := nl_eq xs (fun y hy => h y (List.mem_cons_of_mem _ hy))
    have hx := byte_eq x (h x (by simp)).1 (h x (by simp)).2
    show Lib.indexByte (x.toNat.toUInt8 :: Lib.bytesOf xs) 10 = _
    unfold Lib.indexByte
    rw [hx]
    have ih' : Lib.indexByte (Lib.bytesOf xs) 10 = _ := ih
    rw [ih']
    by_cases e : x = 10
    · subst e; simp
    · have e1 : (x == 10) = false := by simpa using e
      have e2 : (x != 10) = true := by simpa using e
      rw [e1]
      by_cases hc : xs.contains 10 = true
      · rw [if_pos hc]
        have h3 : ((((xs.takeWhile (· != 10)).length : Int)) == -1) = false := by rw [beq_eq_false_iff_ne]; omega
        have h4 : (x :: xs).contains 10 = true := List.contains_iff_mem.2 (List.mem_cons_of_mem _ (List.contains_iff_mem.1 hc))
        rw [h4, h3]
        simp [e2]
      · rw [if_neg hc]
        have h4 : (x :: xs).contains 10 = false := by
          rw [List.contains_cons]
          have : (10 == x) = false := by rw [beq_eq_false_iff_ne]; exact fun h => e h.symm
          rw [this]; simpa using hc
        rw [h4]
        rfl
theorem split_nl : ∀ (xs : List Int), xs.contains 10 = true → ∃ pre post, xs = pre ++ 10 :: post ∧ xs.takeWhile (· != 10) = pre ∧ (xs.dropWhile (· != 10)).tail = post
  | [], h => by simp at h
  | x :: xs, h => by
    by_cases e : x = 10
    · subst e; exact ⟨[], xs, rfl, by simp, by simp⟩
    · have e2 : (x != 10) = true := by simpa using e
      have hc : xs.contains 10 = true := by
        rcases List.mem_cons.1 (List.contains_iff_mem.1 h) with h | h
        · exact absurd h.symm e
        · exact List.contains_iff_mem.2 h
      obtain ⟨pre, post, h1, h2, h3⟩ := split_nl xs hc
      exact ⟨x :: pre, post, by rw [h1]; rfl, by rw [List.takeWhile_cons, if_pos e2, h2], by rw [List.dropWhile_cons, if_pos e2, h3]⟩
theorem cut_8 (A : Option Addr) (b2 c : Nat) (xs : List Int) (hv : (HP.val K8 (.slice A xs.length c) xs).at_ W Z) (hc : W.cell? ⟨b2, 0, none⟩ = some (.int .u8 10)) (hb : ∀ x ∈ xs, 0 ≤ x ∧ x < 256) (hl : xs.length ≤ 1000000) :
    Calls Try.prog 18 #[.slice A xs.length c, .slice (some ⟨b2, 0, none⟩) 1 1] W fun e w' => ∃ v1 v2, e = .returned (.tuple #[v1, v2, .bool (cutL xs).2.2]) ∧ Kd.V K8 0 w' 0 (fun k => Z k ∨ W.heap.size ≤ k) v1 (cutL xs).1 ∧ Kd.V K8 0 w' 0 (fun k => Z k ∨ W.heap.size ≤ k) v2 (cutL xs).2.1 ∧ Below W.heap.size W w' := by
  have hnl := nl_eq xs hb
  have hidx := Aside0.mk (fun (w : World) (h1 : (HP.rd K8 A xs).at_ w Z) (h2 : w.cell? ⟨b2, 0, none⟩ = some (.int .u8 10)) => index_8 A b2 c xs h1 h2)
  have hv0 := Aside0.mk hv
  have hcap := HP.val_le hv
  by_cases hf : xs.contains 10 = true
  · rw [if_pos hf] at hnl
    obtain ⟨pre, post, hxs, ht, hd⟩ := split_nl xs hf
    have hlt : pre.length < xs.length := by rw [hxs, List.length_append, List.length_cons]; omega
    obtain ⟨i, hi⟩ : ∃ i, i = pre.length := ⟨_, rfl⟩
    have e1 : (cutL xs).1 = xs.take i := by show xs.takeWhile (· != 10) = _; rw [ht, hi, hxs, List.take_left]
    have e2 : (cutL xs).2.1 = xs.drop (i + 1) := by
      show (xs.dropWhile (· != 10)).tail = _
      rw [hd, hi, ← List.drop_drop, hxs, List.drop_left]
      rfl
    rw [ht] at hnl
    have e3 : (cutL xs).2.2 = true := hf
    rw [e1, e2, e3]
    rw [← hi] at hnl hlt
    obtain ⟨h1, h2⟩ := cut_take (P := Try.prog) (d := K8) 27 5 Try.underlying27 (info_parts info8).choose_spec.1 A c xs (i : Int) (by omega) (by omega) hcap
    obtain ⟨A', h3, h4⟩ := cut_drop (P := Try.prog) (d := K8) 27 5 Try.underlying27 (info_parts info8).choose_spec.1 (info_parts info8).choose_spec.2.2.1 A c xs (i + 1 : Int) (by omega) (by omega) hcap
    have hw : IntKind.i64.wrap ((i : Int) + 1) = (i : Int) + 1 := IntWalk.i64_in _ (by omega)
    have hi0 : (0 : Int) ≤ i := by omega
    rw [Int.toNat_natCast] at h1 h2
    rw [show ((i : Int) + 1).toNat = i + 1 by omega] at h3 h4
    generalize hT : xs.take i = T at *
    generalize hD : xs.drop (i + 1) = D at *
    replace hT := Lib.hid hT
    replace hD := Lib.hid hD
    replace h2 := Aside0.mk h2
    replace h4 := Aside0.mk h4
    replace hnl := Lib.hid hnl
    replace hi := Lib.hid hi
    replace hxs := Lib.hid hxs
    clear hv e1 e2 e3 hf ht hd
    go_enter Try.func18, Try.ntmps18
    go_wp2_with fail
    refine (hidx.out W (HP.val_rd hv0.out) hc).mono ?_
    rintro e w' ⟨rfl, rfl⟩
    rw [hnl.out]
    go_wp2
    go_quiet (fail)
    go_wp2
    have hm : ∀ {v : Value} {L : List Int}, (HP.val K8 v L).at_ w' Z → (HP.val K8 v L).at_ (w'.drewN nq) (fun k => Z k ∨ w'.heap.size ≤ k) := fun h => HP.move (HP.val K8 _ _) h (fun k hk hl => ⟨rfl, .inl hk⟩)
    exact bodyPost_ret (v := .tuple #[.slice A T.length c, .slice A' D.length (c - (i + 1)), .bool true]) (by simp [results, Try.results18, go_sem]) rfl ⟨_, _, rfl, hm (h2.out _ _ hv0.out), hm (h4.out _ _ hv0.out), pw_below_drewN (Below.refl _ _) _⟩
  · rw [if_neg hf] at hnl
    have e0 : ∀ ys : List Int, ¬ (ys.contains 10 = true) → ys.takeWhile (· != 10) = ys ∧ ys.dropWhile (· != 10) = [] := by
      intro ys
      induction ys with
      | nil => intro _; exact ⟨rfl, rfl⟩
      | cons y ys ih =>
        intro h
        rw [List.contains_cons] at h
        simp only [Bool.or_eq_true, not_or] at h
        have hy : (y != 10) = true := by
          have := h.1
          simp only [beq_iff_eq] at this
          simpa using fun e => this e.symm
        obtain ⟨h1, h2⟩ := ih h.2
        exact ⟨by rw [List.takeWhile_cons, if_pos hy, h1], by rw [List.dropWhile_cons, if_pos hy, h2]⟩
    have e1 : (cutL xs).1 = xs := (e0 xs hf).1
    have e2 : (cutL xs).2.1 = [] := by show (xs.dropWhile (· != 10)).tail = []; rw [(e0 xs hf).2]; rfl
    have e3 : (cutL xs).2.2 = false := by show xs.contains 10 = false; simpa using hf
    rw [e1, e2, e3]
    replace hnl := Lib.hid hnl
    clear hv e0 e1 e2 e3 hf
    go_enter Try.func18, Try.ntmps18
    go_wp2_with fail
    refine (hidx.out W (HP.val_rd hv0.out) hc).mono ?_
    rintro e w' ⟨rfl, rfl⟩
    rw [hnl.out]
    go_wp2
    exact bodyPost_ret (v := .tuple #[.slice A xs.length c, .slice none 0 0, .bool false]) (by simp [results, Try.results18, go_sem]) rfl ⟨_, _, rfl, HP.mono hv0.out (fun k hk _ => .inl hk), HP.val_nil _ _ _, Below.refl _ _⟩
end Go.Proofs.Ytbndpdjpfehdnaa.Chunk
