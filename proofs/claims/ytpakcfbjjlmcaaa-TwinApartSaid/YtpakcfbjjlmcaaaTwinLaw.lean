/- What a deed does to a window of texts and to the document's list. No condition. -/
import Derived.Test.YtpakcfbjjlmcaaaTwinS3
import Derived.Test.YtpakcfbjjlmcaaaCut
import Derived.Test.YtpakcfbjjlmcaaaPAllx2
set_option linter.unusedVariables false
set_option linter.unusedSimpArgs false
set_option maxHeartbeats 800000
set_option maxRecDepth 100000
namespace Go.Proofs.Ytpakcfbjjlmcaaa.TwinS
open Go.RowKit Go.RK Go.TW Go.Proofs.YtpakcfbjjlmcaaaW.PrintWords Go.Proofs.Ytpakcfbjjlmcaaa.PAll
variable {W : World} {M Z : Nat → Prop} {g : Nat} {most : Int} {L : List ByteArray}
abbrev cat : ByteArray → ByteArray → ByteArray := fun a b => a ++ b
abbrev len : ByteArray → Nat := ByteArray.size
theorem cat_len (a b : ByteArray) : len (cat a b) ≤ len a + len b := by simp [ByteArray.size_append]
theorem cat_ok : JoinOk len cat := fun a b W h => Cx.toBelow (rifflelaw12_put.calls a b (a ++ b) W (by unfold rifflelaw12_put.f; rw [if_pos (by simp only [len] at h; omega)]))
theorem cat_assoc (a b c : ByteArray) : cat (cat a b) c = cat a (cat b c) := ByteArray.append_assoc

theorem ref_push (A : Option Addr) (c : Nat) (x : ByteArray) (hv : (HP.val Kd.string (.slice A L.length c) L).at_ W Z) (hl : L.length ≤ 100) :
    Calls Try.prog 75 #[.slice A L.length c, .int .i64 most, .string x] W fun e w' => ∃ v, e = .returned (.tuple #[v, .int .i64 (if (L.length : Int) = most then 19 else 0)]) ∧ (HP.val Kd.string v (if (L.length : Int) = most then L else L ++ [x])).at_ w' (fun k => Z k ∨ W.heap.size ≤ k) ∧ Below W.heap.size W w' := by
  by_cases hm : (L.length : Int) = most
  · rw [if_pos hm, if_pos hm]
    have hb : ((L.length : Int) == most) = true := by simp [hm]
    clear hm
    go_enter Try.func75, Try.ntmps75
    go_wp2
    go_ret2
    exact ⟨_, rfl, HP.mono hv (fun k hk _ => .inl hk), Below.refl _ _⟩
  · rw [if_neg hm, if_neg hm]
    have hb : ((L.length : Int) == most) = false := by simpa using hm
    clear hm
    have hd := HP.val_C hv
    have H := Aside0.mk ((Cx.startz (W := W) hv).alloc (.cells #[] 9 (0, 0)))
    have H1 := Aside0.mk (H.out.impi (Ψ' := HP.raw W.heap.size 9 1 (.slice (some ⟨W.heap.size, 0, none⟩) 0 0) 0 []) 0 rfl (fun M hM => raw_zero hM (Nat.le_refl _)))
    have hrd : Kd.string.C (W.alloc (.cells #[] 9)) A L.length L := Kd.C_below hd (below_alloc (Below.refl _ _) _)
    obtain ⟨v1, w1, hrun, H2⟩ := H1.out.app (P := Try.prog) 0 57 57 9 (.string ⟨#[]⟩) 1 16 rfl (Nat.le_refl _) Try.underlying57 infoE rfl (by omega) (by omega) A L.length c (L.map Value.string) (by simp) (fun hp => Cx.src_of (enc := Value.string) (h1 := fun _ => rfl) hrd hp) (fun u hu => by obtain ⟨q, _, rfl⟩ := List.mem_map.1 hu; rfl) (by omega)
    simp only [Nat.zero_add, List.nil_append] at H2
    obtain ⟨A1, c1, rfl, _⟩ := HP.raw_form (H2.get 0 rfl).choose_spec
    obtain ⟨v2, w2, hrun2, H3⟩ := H2.app1 (P := Try.prog) 0 57 57 9 (.string ⟨#[]⟩) 1 16 rfl (Nat.le_refl _) Try.underlying57 infoE rfl (by omega) (by omega) [.string x] rfl (by intro u hu; rw [List.mem_singleton.1 hu]; rfl) (by omega)
    obtain ⟨A2, c2, rfl, _⟩ := HP.raw_form (H3.get 0 rfl).choose_spec
    replace hrun := Aside0.mk hrun
    replace hrun2 := Aside0.mk hrun2
    have H4 := Aside0.mk ((H3.freezeRow 0 rfl (Nat.le_refl _)).done0)
    clear H H1 H2 H3 hd hrd
    go_enter Try.func75, Try.ntmps75
    go_wp2_with (first | refine wpList_app (o := ⟨some 15, _, _, _, _, _⟩) rfl rfl rfl rfl hrun.out ?_ | refine wpList_app (o := ⟨some 18, _, _, _, _, _⟩) rfl rfl rfl rfl hrun2.out ?_)
    go_ret2
    refine ⟨_, rfl, ?_, H4.out.1⟩
    have h := H4.out.2.2
    have e : L.length + 1 = (L ++ [x]).length := by simp
    rw [e] at h ⊢
    exact HP.val_of h (HP.reps_scalar _ _ (by simp))

/-- what a deed makes of the list -/
def stepF (most : Int) (L : List ByteArray) (drop : Bool) (x : ByteArray) : List ByteArray := if drop = true then L.tail else if (L.length : Int) = most then L else L ++ [x]
theorem drop_of (T : List ByteArray) (b : Bool) (hT : Hid (L.tail = T ∧ (!L.isEmpty) = b)) (h : (WinH cat g most L).at_ W M) (hZ : ∀ k, Z k → ¬ M k) (hl : L.length ≤ 64) (hB : ∀ y ∈ L, len y ≤ 40) :
    Calls Try.prog 42 #[.pointer (some ⟨g, 0, none⟩)] W fun e w' => e = .returned (.bool b) ∧ Does W M Z HP.tt (WinH cat g most T) w' := by
  obtain ⟨rfl, rfl⟩ := hT.out
  exact win_drop len cat_len cat_ok h hZ hl hB
theorem push_of (T : List ByteArray) (n : Int) (x : ByteArray) (hT : Hid ((if (L.length : Int) = most then L else L ++ [x]) = T ∧ (if (L.length : Int) = most then 19 else 0) = n)) (h : (WinH cat g most L).at_ W M) (hZ : ∀ k, Z k → ¬ M k) (hl : L.length ≤ 64) (hB : ∀ y ∈ L, len y ≤ 40) (hx : len x ≤ 40) :
    Calls Try.prog 44 #[.pointer (some ⟨g, 0, none⟩), .string x] W fun e w' => e = .returned (.int .i64 n) ∧ Does W M Z HP.tt (WinH cat g most T) w' := by
  obtain ⟨rfl, rfl⟩ := hT.out
  exact win_push len cat_len cat_ok x h hZ hl hB hx
theorem does_drop (h : (WinH cat g most L).at_ W M) (v : Value) (hv : (HP.val Kd.string v L).at_ W Z) (hZ : ∀ k, Z k → ¬ M k) (hl : L.length ≤ 64) (hB : ∀ y ∈ L, len y ≤ 40) (x : ByteArray) :
    Calls Try.prog 33 #[.pointer (some ⟨g, 0, none⟩), v, .int .i64 most, .agg #[.bool true, .string x]] W fun e W1 => ∃ v', e = .returned (.tuple #[v', .bool true]) ∧ Does W M Z (HP.val Kd.string v' L.tail) (WinH cat g most L.tail) W1 := by
  obtain ⟨A0, c0, rfl, hl0, _⟩ := HP.val_now hv
  have H := Aside0.mk (Cx.start (Φ := HP.val Kd.string (.slice A0 L.length c0) L) h hv hZ)
  generalize hT : L.tail = T
  generalize hb : (!L.isEmpty) = b
  have hTb := Lib.hid (And.intro hT hb)
  replace hB := Lib.hid hB
  rcases L with _ | ⟨y, ys⟩
  · simp only [List.tail_nil, List.isEmpty_nil, Bool.not_true] at hT hb
    subst hT; subst hb
    clear h hv hl
    go_enter Try.func33, Try.ntmps33
    go_wp2_with fail
    refine ((H.out.alloc _).cobj 0 rfl (fun M Z hM hZ hd => drop_of [] false hTb hM hd (by simp) (by simp))).mono ?_
    rintro e w1 ⟨rfl, H1⟩
    replace H1 := Aside0.mk H1
    go_wp2
    go_ret2
    exact ⟨_, rfl, H1.out.done 0 rfl⟩
  · simp only [List.tail_cons, List.isEmpty_cons, Bool.not_false] at hT hb
    subst hT; subst hb
    obtain ⟨A1, hcut, hval⟩ := cut_drop (P := Try.prog) (d := Kd.string) 57 9 Try.underlying57 (info_parts infoE).choose_spec.1 (info_parts infoE).choose_spec.2.2.1 A0 c0 (y :: ys) 1 (by omega) (by simp; omega) hl0
    have e1 : ((y :: ys).drop (1 : Int).toNat) = ys := rfl
    rw [e1] at hcut hval
    generalize hL : y :: ys = L at *
    have hne : ((L.length : Int) == 0) = false := by rw [← hL, beq_eq_false_iff_ne]; simp; omega
    have hne2 : 0 < L.length := by rw [← hL]; simp
    replace hL := Lib.hid hL
    replace hval := Lib.hid hval
    clear h hv e1
    go_enter Try.func33, Try.ntmps33
    go_wp2_with fail
    refine ((H.out.alloc _).cobj 0 rfl (fun M Z hM hZ hd => drop_of _ _ hTb hM hd hl hB.out)).mono ?_
    rintro e w1 ⟨rfl, H1⟩
    replace H1 := Aside0.mk H1
    go_wp2
    go_ret2
    exact ⟨_, rfl, (H1.out.imp (fun Z hz => hval.out _ _ hz)).done 0 rfl⟩
theorem does_push (h : (WinH cat g most L).at_ W M) (v : Value) (hv : (HP.val Kd.string v L).at_ W Z) (hZ : ∀ k, Z k → ¬ M k) (hl : L.length ≤ 64) (hB : ∀ y ∈ L, len y ≤ 40) (x : ByteArray) (hx : len x ≤ 40) (T : List ByteArray) (n : Int) (hT : Hid ((if (L.length : Int) = most then L else L ++ [x]) = T ∧ (if (L.length : Int) = most then 19 else 0) = n)) :
    Calls Try.prog 33 #[.pointer (some ⟨g, 0, none⟩), v, .int .i64 most, .agg #[.bool false, .string x]] W fun e W1 => ∃ v', e = .returned (.tuple #[v', .bool true]) ∧ Does W M Z (HP.val Kd.string v' T) (WinH cat g most T) W1 := by
  obtain ⟨A0, c0, rfl, hl0, _⟩ := HP.val_now hv
  have H := Aside0.mk (Cx.start (Φ := HP.val Kd.string (.slice A0 L.length c0) L) h hv hZ)
  have hrp : ∀ {W : World} {Z : Nat → Prop}, (HP.val Kd.string (.slice A0 L.length c0) L).at_ W Z → Calls Try.prog 75 #[.slice A0 L.length c0, .int .i64 most, .string x] W fun e w' => ∃ v, e = .returned (.tuple #[v, .int .i64 n]) ∧ (HP.val Kd.string v T).at_ w' (fun k => Z k ∨ W.heap.size ≤ k) ∧ Below W.heap.size W w' := by
    intro W Z h
    obtain ⟨rfl, rfl⟩ := hT.out
    exact ref_push A0 c0 x h (by omega)
  replace hrp := Aside0.mk @hrp
  replace hB := Lib.hid hB
  clear h hv
  go_enter Try.func33, Try.ntmps33
  go_wp2_with fail
  refine ((H.out.alloc _).cvalh (fun Z hZ => hrp.out hZ)).mono ?_
  rintro e w1 ⟨A1, c1, rfl, H1⟩
  replace H1 := Aside0.mk H1
  have k1 := H1.out.cell 1 rfl 1 rfl
  go_wp2_with fail
  refine (H1.out.cobj 0 rfl (fun M Z hM hZ hd => push_of _ _ x hT hM hd hl hB.out hx)).mono ?_
  rintro e w2 ⟨rfl, H2⟩
  replace H2 := Aside0.mk H2
  clear k1
  go_wp2
  go_ret2
  exact ⟨_, rfl, (H2.out.imp (fun Z hz => hz.2)).done 0 rfl⟩
theorem does_any (h : (WinH cat g most L).at_ W M) (v : Value) (hv : (HP.val Kd.string v L).at_ W Z) (hZ : ∀ k, Z k → ¬ M k) (hl : L.length ≤ 64) (hB : ∀ y ∈ L, len y ≤ 40) (b : Bool) (x : ByteArray) (hx : len x ≤ 40) :
    Calls Try.prog 33 #[.pointer (some ⟨g, 0, none⟩), v, .int .i64 most, .agg #[.bool b, .string x]] W fun e W1 => ∃ v', e = .returned (.tuple #[v', .bool true]) ∧ Does W M Z (HP.val Kd.string v' (stepF most L b x)) (WinH cat g most (stepF most L b x)) W1 := by
  unfold stepF
  cases b with
  | true => rw [if_pos rfl]; exact does_drop h v hv hZ hl hB x
  | false => rw [if_neg (by simp)]; exact does_push h v hv hZ hl hB x hx _ _ (Lib.hid ⟨rfl, rfl⟩)
end Go.Proofs.Ytpakcfbjjlmcaaa.TwinS
