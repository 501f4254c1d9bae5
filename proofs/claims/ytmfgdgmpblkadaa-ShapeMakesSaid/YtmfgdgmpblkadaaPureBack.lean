/- ShapeBack: the plain statement. No condition. -/
import Derived.Test.YtmfgdgmpblkadaaPurePlaces2
import Derived.Test.YtmfgdgmpblkadaaPureShapeTells
import Derived.Test.YtmfgdgmpblkadaaPAllx9
import Derived.KernelRfl
set_option linter.unusedVariables false
set_option linter.unusedSimpArgs false
namespace Go.Proofs.Ytmfgdgmpblkadaa.Pure
open Go.RowKit Go.RS Go.RL Go.RP Go.Proofs.Ytmfgdgmpblkadaa.PAll Go.Proofs.YtmfgdgmpblkadaaW.PrintWords Go.Proofs.YtmfgdgmpblkadaaW.PrintLast

/-! behind -/
def lexGt : List Int → List Int → Bool
  | x :: xs, y :: ys => if x = y then lexGt xs ys else decide (x > y)
  | _, _ => false
theorem behind_l (a b : List Int) (hl : a.length = b.length) (hm : a.length ≤ 1000) : ∀ (m j k : Nat), j + m = a.length → 2 * m + 1 < k → rifflelaw01_behind.l0 k a b (j : Int) = some (lexGt (a.drop j) (b.drop j)) := by
  intro m
  induction m with
  | zero =>
    intro j k hj hk
    obtain ⟨k, rfl⟩ := succ_of (show 0 < k by omega)
    obtain ⟨k, rfl⟩ := succ_of (show 0 < k by omega)
    simp only [rifflelaw01_behind.l0]
    rw [if_neg (by omega), List.drop_of_length_le (show a.length ≤ j by omega)]
    simp [rifflelaw01_behind.j1, lexGt]
  | succ m ih =>
    intro j k hj hk
    obtain ⟨k, rfl⟩ := succ_of (show 0 < k by omega)
    obtain ⟨k, rfl⟩ := succ_of (show 0 < k by omega)
    have ha : j < a.length := by omega
    have hb : j < b.length := by omega
    simp only [rifflelaw01_behind.l0]
    rw [if_pos (by omega), decide_eq_true (by omega)]
    simp only [rifflelaw01_behind.j1]
    rw [if_pos trivial, if_pos (by omega), if_pos (by omega), if_pos (by omega), rd_get ha, rd_get hb, drop_cons ha, drop_cons hb, lexGt, w64_succ (by omega)]
    by_cases h : a[j] = b[j]
    · rw [if_pos h, if_pos h]
      exact ih (j + 1) k (by omega) (by omega)
    · rw [if_neg h, if_neg h]
theorem behind_eq (a b : List Int) (hl : a.length = b.length) (hm : a.length ≤ 100) (k : Nat) (hk : 300 ≤ k) : rifflelaw01_behind.f k a b = some (lexGt a b) := by
  unfold rifflelaw01_behind.f
  have := behind_l a b hl (by omega) a.length 0 k (by omega) (by omega)
  simpa using this

/-- the worth of a place, from the first number on -/
def vl : List Int → List Int → Int
  | _ :: d, x :: p => x * prodI d + vl d p
  | _, _ => 0
theorem vl_hr (d p : List Int) (h : p.length = d.length) : vl d p = hr d.reverse p.reverse := by
  induction d generalizing p with
  | nil => cases p with
    | nil => rfl
    | cons x p => simp at h
  | cons a d ih => cases p with
    | nil => simp at h
    | cons x p =>
      have hl : p.length = d.length := by simpa using h
      rw [vl, List.reverse_cons, List.reverse_cons, hr_snoc (by simpa using hl), prodI_rev, ih p hl, Int.mul_comm]; omega
theorem okPlace_rev (d p : List Int) (h : p.length = d.length) : okPlace d.reverse p.reverse = okPlace d p := by
  induction d generalizing p with
  | nil => cases p with
    | nil => rfl
    | cons x p => simp at h
  | cons a d ih => cases p with
    | nil => simp at h
    | cons x p =>
      have hl : p.length = d.length := by simpa using h
      rw [List.reverse_cons, List.reverse_cons, okPlace_snoc (by simpa using hl), ih p hl, okPlace, Bool.and_comm]
theorem vl_bd {d p : List Int} (h : okPlace d p = true) : 0 ≤ vl d p ∧ vl d p < prodI d := by
  have hl := okPlace_length h
  have h' : okPlace d.reverse p.reverse = true := by rw [okPlace_rev d p hl]; exact h
  obtain ⟨h1, h2, _⟩ := hr_bd h'
  rw [vl_hr d p hl]
  rw [prodI_rev] at h2
  exact ⟨h1, h2⟩
theorem lexGt_of {d a b : List Int} (ha : okPlace d a = true) (hb : okPlace d b = true) (h : vl d b < vl d a) : lexGt a b = true := by
  induction d generalizing a b with
  | nil =>
    cases a <;> cases b <;> simp [vl] at h
  | cons c d ih =>
    cases a with
    | nil => simp [okPlace] at ha
    | cons x a => cases b with
      | nil => simp [okPlace] at hb
      | cons y b =>
        simp only [okPlace, Bool.and_eq_true, decide_eq_true_eq] at ha hb
        obtain ⟨a1, a2⟩ := vl_bd ha.2
        obtain ⟨b1, b2⟩ := vl_bd hb.2
        rw [vl, vl] at h
        rw [lexGt]
        by_cases hxy : x = y
        · rw [if_pos hxy]
          subst hxy
          exact ih ha.2 hb.2 (by omega)
        · rw [if_neg hxy]
          by_cases hlt : x < y
          · exfalso
            have h3 : (x + 1) * prodI d ≤ y * prodI d := Int.mul_le_mul_of_nonneg_right (by omega) (by omega)
            rw [Int.add_mul, Int.one_mul] at h3
            omega
          · simp; omega

/-! Turned -/
theorem turned_loop : ∀ (rest pre d : List Int) (k : Nat), d = pre ++ rest → d.length ≤ 1000 → rest.length < k →
    shape_Turned.l0 k d (List.replicate rest.length 0 ++ pre.reverse) (d.length : Int) (pre.length : Int) = some d.reverse := by
  intro rest
  induction rest with
  | nil =>
    intro pre d k hd hm hk
    obtain ⟨k, rfl⟩ := succ_of (show 0 < k by omega)
    subst hd
    simp only [shape_Turned.l0]
    rw [if_neg (by simp)]
    simp
  | cons a t ih =>
    intro pre d k hd hm hk
    obtain ⟨k, rfl⟩ := succ_of (show 0 < k by omega)
    have hl : d.length = pre.length + 1 + t.length := by rw [hd]; simp; omega
    have eax : wrap64 (wrap64 ((d.length : Int) - 1) - (pre.length : Int)) = ((t.length : Nat) : Int) := by rw [w64 (n := (d.length : Int) - 1) (by omega), w64 (by omega)]; omega
    have erd : rd d (pre.length : Int) = a := by rw [hd]; exact rd_mid pre a t
    simp only [shape_Turned.l0]
    rw [eax, erd, if_pos (by omega), if_pos (by omega), if_pos (by omega), if_pos (by omega), if_pos (by simp; omega), List.length_cons, show (((t.length : Nat) : Int)).toNat = t.length from rfl, set_mid, w64_succ (by omega)]
    have := ih (pre ++ [a]) d k (by rw [hd]; simp) hm (by simp at hk; omega)
    rw [List.length_append, List.length_singleton, List.reverse_append] at this
    simpa using this
theorem turned_eq (d : List Int) (hm : d.length ≤ 1000) (k : Nat) (hk : d.length < k) : shape_Turned.f k d = some d.reverse := by
  unfold shape_Turned.f
  rw [if_pos (by omega), if_pos (by omega)]
  have := turned_loop d [] d k rfl hm hk
  simpa using this
theorem rightB_rev (d : List Int) : rightB d.reverse = rightB d := by
  unfold rightB okDims
  rw [prodI_rev, List.length_reverse, List.all_reverse]
theorem sizeF_rev (d : List Int) : sizeF d.reverse = sizeF d := by unfold sizeF; rw [rightB_rev, prodI_rev]

/-! Perm -/
def hadL (n : Nat) (s : List Int) : List Bool := (List.range n).map (fun v : Nat => decide ((v : Int) ∈ s))
theorem hadL_nil (n : Nat) : hadL n [] = List.replicate n false := by
  apply List.ext_getElem <;> simp [hadL]
theorem hadL_rd {n : Nat} {s : List Int} {x : Int} (h0 : 0 ≤ x) (h1 : x < n) : rdOf false (hadL n s) x = decide (x ∈ s) := by
  obtain ⟨v, rfl⟩ := Int.eq_ofNat_of_zero_le h0
  have : v < (hadL n s).length := by simp [hadL]; omega
  unfold rdOf
  rw [Int.toNat_natCast, List.getD_eq_getElem?_getD, List.getElem?_eq_getElem this]
  simp [hadL]
theorem hadL_set {n : Nat} {s : List Int} {x : Int} (h0 : 0 ≤ x) (h1 : x < n) : (hadL n s).set x.toNat true = hadL n (s ++ [x]) := by
  obtain ⟨v, rfl⟩ := Int.eq_ofNat_of_zero_le h0
  rw [Int.toNat_natCast]
  apply List.ext_getElem
  · simp [hadL]
  · intro i h2 h3
    rw [List.getElem_set]
    by_cases h : v = i
    · subst h; simp [hadL]
    · rw [if_neg h]
      simp only [hadL, List.getElem_map, List.getElem_range]
      congr 1
      simp only [List.mem_append, List.mem_singleton, Int.natCast_inj, eq_iff_iff]
      constructor
      · exact Or.inl
      · rintro (h' | h')
        · exact h'
        · exact absurd h'.symm h
def permOk (p : List Int) : Prop := p.Nodup ∧ ∀ x ∈ p, 0 ≤ x ∧ x < p.length
instance (p : List Int) : Decidable (permOk p) := by unfold permOk; infer_instance
theorem nodup_snoc {s : List Int} {x : Int} : (s ++ [x]).Nodup ↔ s.Nodup ∧ x ∉ s := by
  rw [List.nodup_append]
  constructor
  · rintro ⟨h1, _, h2⟩; exact ⟨h1, fun h => h2 x h x (by simp) rfl⟩
  · rintro ⟨h1, h2⟩
    refine ⟨h1, by simp, fun a ha b hb => ?_⟩
    simp at hb
    subst hb
    intro he; subst he; exact h2 ha
theorem perm_loop (p : List Int) (hm : p.length ≤ 1000) : ∀ (m i k : Nat), i + m = p.length → m < k → (p.take i).Nodup → (∀ x ∈ p.take i, 0 ≤ x ∧ x < p.length) →
    shape_Perm.l0 k p (hadL p.length (p.take i)) (p.length : Int) (i : Int) = some (decide (permOk p)) := by
  intro m
  induction m with
  | zero =>
    intro i k hi hk h1 h2
    obtain ⟨k, rfl⟩ := succ_of (show 0 < k by omega)
    simp only [shape_Perm.l0]
    rw [List.take_of_length_le (by omega)] at h1 h2
    rw [if_neg (by omega), decide_eq_true (show permOk p from ⟨h1, h2⟩)]
  | succ m ih =>
    intro i k hi hk h1 h2
    obtain ⟨k, rfl⟩ := succ_of (show 0 < k by omega)
    have hlt : i < p.length := by omega
    have et : p.take (i + 1) = p.take i ++ [p[i]] := by rw [List.take_add_one, List.getElem?_eq_getElem hlt]; rfl
    have hsub : ∀ {q : List Int}, permOk p → q = p.take (i + 1) → q.Nodup ∧ ∀ x ∈ q, 0 ≤ x ∧ x < p.length := by
      rintro q ⟨n1, n2⟩ rfl
      exact ⟨(List.take_sublist _ _).nodup n1, fun x hx => n2 x (List.mem_of_mem_take hx)⟩
    simp only [shape_Perm.l0]
    rw [if_pos (by omega), if_pos (by omega), if_pos (by omega), rd_get hlt]
    by_cases ha : p[i] < 0
    · rw [if_pos ha, decide_eq_false]
      intro hp
      have := (hp.2 p[i] (List.getElem_mem hlt)).1
      omega
    · rw [if_neg ha]
      by_cases hb : p[i] ≥ (p.length : Int)
      · rw [if_pos hb, decide_eq_false]
        intro hp
        have := (hp.2 p[i] (List.getElem_mem hlt)).2
        omega
      · rw [if_neg hb, if_pos (by omega), if_pos (by simp [hadL]; omega), hadL_rd (by omega) (by omega)]
        by_cases hc : p[i] ∈ p.take i
        · rw [if_pos (decide_eq_true hc), decide_eq_false]
          intro hp
          have := (hsub hp rfl).1
          rw [et, nodup_snoc] at this
          exact this.2 hc
        · rw [if_neg (by rw [decide_eq_true_eq]; exact hc), hadL_set (by omega) (by omega), w64_succ (by omega), ← et]
          refine ih (i + 1) k (by omega) (by omega) (by rw [et, nodup_snoc]; exact ⟨h1, hc⟩) (fun x hx => ?_)
          rw [et] at hx
          rcases List.mem_append.1 hx with hx | hx
          · exact h2 x hx
          · simp at hx; subst hx; omega
theorem perm_eq (p : List Int) (hm : p.length ≤ 1000) (k : Nat) (hk : p.length < k) : shape_Perm.f k p = some (decide (permOk p)) := by
  unfold shape_Perm.f
  rw [if_pos (by omega), if_pos (by omega)]
  have := perm_loop p hm p.length 0 k (by omega) hk (by simp) (by simp)
  rw [List.take_zero, hadL_nil] at this
  simpa using this

theorem prodI_perm {q d : List Int} (h : q.Perm d) : prodI q = prodI d := by
  induction h with
  | nil => rfl
  | cons x _ ih => rw [prodI_cons, prodI_cons, ih]
  | swap x y l => rw [prodI_cons, prodI_cons, prodI_cons, prodI_cons, ← Int.mul_assoc, ← Int.mul_assoc, Int.mul_comm x y]
  | trans _ _ h1 h2 => rw [h1, h2]
theorem rightB_perm {q d : List Int} (h : q.Perm d) : rightB q = rightB d := by
  unfold rightB okDims
  rw [prodI_perm h, h.length_eq, h.all_eq]
theorem sizeF_perm {q d : List Int} (h : q.Perm d) : sizeF q = sizeF d := by unfold sizeF; rw [rightB_perm h, prodI_perm h]

theorem picked_size (d p : List Int) (hl : p.length = d.length) (h3 : d.length ≤ 3) (hp : permOk p) : ∃ q, shape_Picked.f 100 d p = some q ∧ q.Perm d := by
  match d, p, hl, h3, hp with
  | [], [], _, _, _ => exact ⟨[], by kernel_rfl, .refl _⟩
  | [a], [x], _, _, hp =>
    have hx := hp.2 x (by simp)
    simp at hx
    obtain rfl : x = 0 := by omega
    exact ⟨[a], by kernel_rfl, .refl _⟩
  | [a, b], [x, y], _, _, hp =>
    have hx := hp.2 x (by simp)
    have hy := hp.2 y (by simp)
    have hn := hp.1
    simp at hx hy hn
    have hc : (x = 0 ∧ y = 1) ∨ (x = 1 ∧ y = 0) := by omega
    rcases hc with ⟨rfl, rfl⟩ | ⟨rfl, rfl⟩
    · exact ⟨[a, b], by kernel_rfl, .refl _⟩
    · exact ⟨[b, a], by kernel_rfl, .swap _ _ _⟩
  | [a, b, c], [x, y, z], _, _, hp =>
    have hx := hp.2 x (by simp)
    have hy := hp.2 y (by simp)
    have hz := hp.2 z (by simp)
    have hn := hp.1
    simp at hx hy hz hn
    have hc : ((x = 0 ∧ y = 1 ∧ z = 2) ∨ (x = 0 ∧ y = 2 ∧ z = 1) ∨ (x = 1 ∧ y = 0 ∧ z = 2)) ∨ ((x = 1 ∧ y = 2 ∧ z = 0) ∨ (x = 2 ∧ y = 0 ∧ z = 1) ∨ (x = 2 ∧ y = 1 ∧ z = 0)) := by omega
    rcases hc with (⟨rfl, rfl, rfl⟩ | ⟨rfl, rfl, rfl⟩ | ⟨rfl, rfl, rfl⟩) | (⟨rfl, rfl, rfl⟩ | ⟨rfl, rfl, rfl⟩ | ⟨rfl, rfl, rfl⟩)
    · exact ⟨[a, b, c], by kernel_rfl, .refl _⟩
    · exact ⟨[a, c, b], by kernel_rfl, .cons a (.swap _ _ _)⟩
    · exact ⟨[b, a, c], by kernel_rfl, .swap _ _ _⟩
    · exact ⟨[c, a, b], by kernel_rfl, List.perm_append_comm (l₁ := [c]) (l₂ := [a, b])⟩
    · exact ⟨[b, c, a], by kernel_rfl, List.perm_append_comm (l₁ := [b, c]) (l₂ := [a])⟩
    · exact ⟨[c, b, a], by kernel_rfl, List.reverse_perm [a, b, c]⟩
  | _ :: _ :: _ :: _ :: _, _, _, h3, _ => simp at h3

theorem picked_at (d p : List Int) (hl : p.length = d.length) (h3 : d.length ≤ 3) (hp : permOk p) (k : Nat) (hk : 100 ≤ k) : ∃ q, shape_Picked.f k d p = some q ∧ q.Perm d := by
  obtain ⟨q, h1, h2⟩ := picked_size d p hl h3 hp
  exact ⟨q, at_rounds (fun k => shape_Picked.mono d p k) hk h1, h2⟩

theorem back_j2 (d p : List Int) (h3 : d.length ≤ 3) (hp3 : p.length ≤ 3) (n : Int) (hn : n = sizeF d) (k : Nat) (hk : 200 ≤ k) : rifflelaw01_ShapeBack.j2 k d p n false = some true := by
  obtain ⟨k, rfl⟩ := succ_of (show 0 < k by omega)
  simp only [rifflelaw01_ShapeBack.j2]
  rw [if_neg (by decide), lives01_at (by omega)]
  by_cases hl : (p.length : Int) = (d.length : Int)
  · rw [if_pos hl, perm_eq p (by omega) k (by omega)]
    simp only [Option.bind_some]
    by_cases hp : permOk p
    · rw [if_pos (decide_eq_true hp)]
      obtain ⟨q, h1, h2⟩ := picked_at d p (by omega) h3 hp k (by omega)
      rw [h1]
      simp only [Option.bind_some, size_eq]
      rw [if_pos (by rw [sizeF_perm h2, hn])]
    · rw [if_neg (by simpa using hp)]
  · rw [if_neg hl]; rfl

theorem back_loop (d p : List Int) (h3 : d.length ≤ 3) (hp3 : p.length ≤ 3) (hs : sizeF d ≤ 64) : ∀ (m i k : Nat) (last : List Int), (i : Int) + m = sizeF d → 400 + m < k → (0 < i → last = placeF d ((i : Int) - 1)) →
    rifflelaw01_ShapeBack.l0 k d p last (sizeF d) (i : Int) = some true := by
  intro m
  induction m with
  | zero =>
    intro i k last hi hk hlast
    obtain ⟨k, rfl⟩ := succ_of (show 0 < k by omega)
    simp only [rifflelaw01_ShapeBack.l0]
    rw [if_neg (by omega), turned_eq d (by omega) k (by omega)]
    simp only [Option.bind_some]
    rw [turned_eq d.reverse (by simp; omega) k (by simp; omega), List.reverse_reverse]
    simp only [Option.bind_some]
    rw [refSame_eq d d (by omega) k (by omega)]
    simp only [Option.bind_some, decide_true, if_true, size_eq, sizeF_rev, bne_self_eq_false]
    exact back_j2 d p h3 hp3 _ rfl k (by omega)
  | succ m ih =>
    intro i k last hi hk hlast
    obtain ⟨k, rfl⟩ := succ_of (show 0 < k by omega)
    obtain ⟨hr, hlt, hpos, h64⟩ := pos_of_size (d := d) (i := (i : Int)) (by omega) (by omega)
    simp only [rifflelaw01_ShapeBack.l0]
    rw [if_pos (by omega), place_eq d _ k (by omega), if_pos (by omega)]
    simp only [Option.bind_some]
    rw [if_pos (by rw [placeF_length]), index_eq d _ k (by omega), if_pos hr]
    simp only [Option.bind_some]
    rw [index_place hpos (by omega) hlt, if_pos rfl, w64_succ (by omega)]
    have hnext := ih (i + 1) k (placeF d (i : Int)) (by omega) (by omega) (fun _ => by congr 1; omega)
    by_cases h0 : (i : Int) > 0
    · rw [if_pos h0, hlast (by omega), behind_eq _ _ (by rw [placeF_length, placeF_length]) (by rw [placeF_length]; omega) k (by omega)]
      simp only [Option.bind_some]
      have hg : lexGt (placeF d (i : Int)) (placeF d ((i : Int) - 1)) = true := by
        have ok : ∀ j : Int, okPlace d (placeF d j) = true := by
          intro j
          rw [← okPlace_rev d _ (placeF_length d j)]
          unfold placeF
          rw [List.reverse_reverse]
          exact plr_ok (fun x hx => hpos x (by simpa using hx)) j
        have vv : ∀ j : Int, 0 ≤ j → j < prodI d → vl d (placeF d j) = j := by
          intro j h1 h2
          have := index_place hpos h1 h2
          unfold indexF at this
          rw [okPlace_rev d _ (placeF_length d j), if_pos (ok j), ← vl_hr d _ (placeF_length d j)] at this
          exact this
        exact lexGt_of (ok _) (ok _) (by rw [vv _ (by omega) hlt, vv _ (by omega) (by omega)]; omega)
      rw [if_pos hg]
      exact hnext
    · rw [if_neg h0]
      exact hnext

theorem shapeBack_all (d p : List Int) : rifflelaw01_ShapeBack.f 1000 d p = some true := by
  have jt : rifflelaw01_ShapeBack.j0 1000 d p true = some true := by
    simp only [rifflelaw01_ShapeBack.j0]
    simp [lives01_at]
  unfold rifflelaw01_ShapeBack.f
  by_cases h1 : (d.length : Int) > 3
  · rw [if_pos h1]; exact jt
  · rw [if_neg h1]
    by_cases h2 : (p.length : Int) > 3
    · rw [if_pos h2]; exact jt
    · rw [if_neg h2, right_eq]
      simp only [Option.bind_some]
      by_cases hr : rightB d = true
      · rw [hr]
        have hs : sizeF d ≤ 64 := by unfold sizeF; rw [if_pos hr]; exact (rightB_ok hr).2.2
        have h0 : 0 ≤ sizeF d := by unfold sizeF; rw [if_pos hr]; exact prodI_nonneg (rightB_ok hr).2.1
        simp only [rifflelaw01_ShapeBack.j0, Bool.not_true]
        rw [if_neg (by decide), size_eq]
        simp only [Option.bind_some]
        rw [if_neg (by omega)]
        exact back_loop d p (by omega) (by omega) hs (sizeF d).toNat 0 _ [] (by omega) (by omega) (fun h => absurd h (by omega))
      · rw [Bool.eq_false_iff.2 hr]; exact jt

end Go.Proofs.Ytmfgdgmpblkadaa.Pure
