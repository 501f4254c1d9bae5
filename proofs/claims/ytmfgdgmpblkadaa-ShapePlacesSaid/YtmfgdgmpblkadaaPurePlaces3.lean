/- What the reference's Places and Index, and Strides, come to. No condition but that lists are shorter than memory. -/
import Derived.Test.YtmfgdgmpblkadaaPurePlaces2
import Derived.Test.YtmfgdgmpblkadaaPAllx4
import Derived.Test.YtmfgdgmpblkadaaPAllx1
set_option linter.unusedVariables false
set_option linter.unusedSimpArgs false
namespace Go.RS
/-- how far apart places are -/
def strL : List Int → List Int
  | [] => []
  | _ :: d => prodI d :: strL d
def placesF (d : List Int) : List (List Int) := (List.range (sizeF d).toNat).map (fun i : Nat => placeF d (i : Int))
end Go.RS
namespace Go.Proofs.Ytmfgdgmpblkadaa.Pure
open Go.RowKit Go.RS Go.RL Go.RP Go.Proofs.Ytmfgdgmpblkadaa.PAll Go.Proofs.YtmfgdgmpblkadaaW.PrintWords Go.Proofs.YtmfgdgmpblkadaaW.PrintLast

theorem set_at (xs : List Int) (a v : Int) (ys : List Int) : (xs ++ a :: ys).set xs.length v = xs ++ v :: ys := by
  rw [List.set_append]; simp

theorem places_inner : ∀ (ds es d xs zs : List Int) (out : List (List Int)) (n i : Int) (k : Nat), d = ds.reverse ++ es → xs.length = ds.length → (∀ x ∈ xs, -1 ≤ x ∧ x ≤ 1000) → ds.length + es.length ≤ 1000 → zs.length = es.length → ds.length + 1 ≤ k →
    ∃ k', k ≤ k' + ds.length + 1 ∧ riffleref01_Places.l1 k d out n (xs.reverse ++ zs) i ((ds.length : Int) - 1) = riffleref01_Places.l0 k' d out n ((inc ds xs).reverse ++ zs) (wrap64 (i + 1)) := by
  intro ds
  induction ds with
  | nil =>
    intro es d xs zs out n i k hd hx hb hm hz hk
    obtain ⟨k, rfl⟩ := succ_of (show 0 < k by omega)
    refine ⟨k, by simp, ?_⟩
    obtain rfl : xs = [] := List.length_eq_zero_iff.1 hx
    simp only [riffleref01_Places.l1]
    rw [if_neg (by simp)]
    rfl
  | cons a t ih =>
    intro es d xs zs out n i k hd hx hb hm hz hk
    obtain ⟨k, rfl⟩ := succ_of (show 0 < k by omega)
    cases xs with
    | nil => simp at hx
    | cons x xs =>
      have hxl : xs.length = t.length := by simpa using hx
      have hd2 : d = t.reverse ++ a :: es := by rw [hd, List.reverse_cons, List.append_assoc]; rfl
      have hp2 : (x :: xs).reverse ++ zs = xs.reverse ++ x :: zs := by rw [List.reverse_cons, List.append_assoc]; rfl
      have e0 : (((a :: t).length : Nat) : Int) - 1 = ((t.length : Nat) : Int) := by simp
      have erd : rd d ((t.length : Nat) : Int) = a := by
        have := rd_mid t.reverse a es
        rw [List.length_reverse] at this
        rw [hd2]; exact this
      have hset : ∀ (y v : Int), (xs.reverse ++ y :: zs).set t.length v = xs.reverse ++ v :: zs := by
        intro y v
        have := set_at xs.reverse y v zs
        rw [List.length_reverse, hxl] at this
        exact this
      have hrdp : ∀ y : Int, rd (xs.reverse ++ y :: zs) ((t.length : Nat) : Int) = y := by
        intro y
        have := rd_mid xs.reverse y zs
        rw [List.length_reverse, hxl] at this
        exact this
      have hxb := hb x (by simp)
      have hdl : d.length = t.length + 1 + es.length := by rw [hd2]; simp; omega
      have hml : t.length + 1 + es.length ≤ 1000 := by simpa using hm
      rw [hp2, e0]
      simp only [riffleref01_Places.l1]
      rw [if_pos (by omega), if_pos (by omega), if_pos (by simp; omega), hrdp]
      simp only [Option.bind_some]
      rw [if_pos (by omega), show (((t.length : Nat) : Int)).toNat = t.length from rfl, hset, hrdp, erd, w64 (n := x + 1) (by omega)]
      rw [inc]
      by_cases h : x + 1 < a
      · rw [if_pos h, if_pos h]
        refine ⟨k, by simp, ?_⟩
        rw [List.reverse_cons, List.append_assoc]; rfl
      · rw [if_neg h, if_neg h, hset, w64 (n := ((t.length : Nat) : Int) - 1) (by omega)]
        obtain ⟨k', h1, h2⟩ := ih (a :: es) d xs (0 :: zs) out n i k hd2 hxl (fun y hy => hb y (by simp [hy])) (by simp; omega) (by simp [hz]) (by simp at hk; omega)
        refine ⟨k', by simp; omega, ?_⟩
        rw [h2, List.reverse_cons, List.append_assoc]; rfl

theorem plr_bd {r : List Int} (hp : ∀ x ∈ r, 0 < x) (hb : ∀ x ∈ r, x ≤ 64) (i : Int) : ∀ x ∈ plr r i, -1 ≤ x ∧ x ≤ 1000 := by
  induction r generalizing i with
  | nil => intro x hx; cases hx
  | cons a t ih =>
    intro x hx
    rw [plr] at hx
    rcases List.mem_cons.1 hx with rfl | hx
    · have ha := hp a (by simp)
      have hb' := hb a (by simp)
      have h1 := Int.emod_nonneg i (show a ≠ 0 by omega)
      have h2 := Int.emod_lt_of_pos i ha
      omega
    · exact ih (fun x hx => hp x (by simp [hx])) (fun x hx => hb x (by simp [hx])) _ x hx

theorem places_outer (d : List Int) (hr : rightB d = true) : ∀ (m i k : Nat), (i : Int) + m = sizeF d → 10 * m + 10 ≤ k →
    riffleref01_Places.l0 k d ((List.range i).map (fun j : Nat => placeF d (j : Int))) (sizeF d) (placeF d (i : Int)) (i : Int) = some (placesF d) := by
  have hl := (rightB_ok hr).1
  intro m
  induction m with
  | zero =>
    intro i k hi hk
    obtain ⟨k, rfl⟩ := succ_of (show 0 < k by omega)
    simp only [riffleref01_Places.l0]
    rw [if_neg (by omega)]
    unfold placesF
    rw [show (sizeF d).toNat = i by omega]
  | succ m ih =>
    intro i k hi hk
    obtain ⟨k, rfl⟩ := succ_of (show 0 < k by omega)
    obtain ⟨_, hlt, hpos, h64⟩ := pos_of_size (d := d) (i := (i : Int)) (by omega) (by omega)
    have hs : sizeF d ≤ 64 := by unfold sizeF; rw [if_pos hr]; exact h64
    have hall := (rightB_ok hr).2.1
    have hb : ∀ x ∈ d.reverse, x ≤ 64 := fun x hx => (inAxis_iff.1 (List.all_eq_true.1 hall x (by simpa using hx))).2
    have hp : ∀ x ∈ d.reverse, 0 < x := fun x hx => hpos x (by simpa using hx)
    simp only [riffleref01_Places.l0]
    rw [if_pos (by omega)]
    simp only [Option.bind_some, List.nil_append, List.length_nil]
    rw [if_pos (by rw [placeF_length]; omega), if_pos (by simp; omega), w64 (n := (d.length : Int) - 1) (by omega)]
    obtain ⟨k', h1, h2⟩ := places_inner d.reverse [] d (plr d.reverse i) [] ((List.range i).map (fun j : Nat => placeF d (j : Int)) ++ [placeF d (i : Int)]) (sizeF d) i k (by simp) (plr_length _ _) (plr_bd hp hb _) (by simp; omega) rfl (by simp; omega)
    rw [List.length_reverse, List.append_nil, List.append_nil, inc_plr hp (by omega), w64_succ (by omega)] at h2
    rw [show placeF d (i : Int) = (plr d.reverse (i : Int)).reverse from rfl] at h2 ⊢
    rw [h2]
    have := ih (i + 1) k' (by omega) (by simp at h1; omega)
    rw [List.range_succ, List.map_append] at this
    exact this

theorem size_nonneg (d : List Int) : 0 ≤ sizeF d ∧ sizeF d ≤ 64 := by
  unfold sizeF
  by_cases hr : rightB d = true
  · rw [if_pos hr]; obtain ⟨h1, h2, h3⟩ := rightB_ok hr; exact ⟨prodI_nonneg h2, h3⟩
  · rw [if_neg hr]; omega
theorem places_eq (d : List Int) (hm : d.length ≤ 1000) (k : Nat) (hk : 700 ≤ k) : riffleref01_Places.f k d = some (placesF d) := by
  unfold riffleref01_Places.f
  rw [refSize_eq d k (by omega)]
  simp only [Option.bind_some]
  rw [if_pos (by omega), if_pos (by omega)]
  have hz : List.replicate ((d.length : Int)).toNat (0 : Int) = placeF d 0 := by
    unfold placeF; rw [plr_zero]; simp
  rw [hz]
  by_cases h : sizeF d = 0
  · obtain ⟨k, rfl⟩ := succ_of (show 0 < k by omega)
    simp only [riffleref01_Places.l0]
    rw [if_neg (by omega)]
    unfold placesF
    rw [h]; rfl
  · have hr : rightB d = true := by
      by_cases hr : rightB d = true
      · exact hr
      · exfalso; apply h; unfold sizeF; rw [if_neg hr]
    obtain ⟨h0, h1⟩ := size_nonneg d
    exact places_outer d hr (sizeF d).toNat 0 k (by omega) (by omega)

theorem places_get (d : List Int) (i : Nat) (h : (i : Int) < sizeF d) : rd_L1 (placesF d) (i : Int) = placeF d (i : Int) := by
  have : i < (placesF d).length := by simp [placesF]; omega
  show (placesF d).getD ((i : Int)).toNat [] = _
  rw [Int.toNat_natCast, List.getD_eq_getElem?_getD, List.getElem?_eq_getElem this]
  simp [placesF]
theorem places_length (d : List Int) : ((placesF d).length : Int) = sizeF d := by
  have := (size_nonneg d).1
  simp [placesF]; omega

theorem refIndex_l (d p : List Int) (hm : d.length ≤ 1000) : ∀ (m i k : Nat), (i : Int) + m = sizeF d → m + 1010 ≤ k → (indexF d p = -1 ∨ (i : Int) ≤ indexF d p) →
    riffleref01_Index.l0 k p (placesF d) (i : Int) = some (if rightB d then indexF d p else -1) := by
  intro m
  induction m with
  | zero =>
    intro i k hi hk hx
    obtain ⟨k, rfl⟩ := succ_of (show 0 < k by omega)
    simp only [riffleref01_Index.l0]
    rw [if_neg (by rw [places_length]; omega)]
    by_cases hr : rightB d = true
    · rw [if_pos hr]
      congr 1
      rcases hx with hx | hx
      · exact hx.symm
      · by_cases ok : okPlace d.reverse p.reverse = true
        · exfalso
          obtain ⟨_, h1, h2⟩ := place_index ok
          have : sizeF d = prodI d := by unfold sizeF; rw [if_pos hr]
          omega
        · unfold indexF; rw [if_neg ok]
    · rw [if_neg hr]
  | succ m ih =>
    intro i k hi hk hx
    obtain ⟨k, rfl⟩ := succ_of (show 0 < k by omega)
    obtain ⟨hr, hlt, hpos, h64⟩ := pos_of_size (d := d) (i := (i : Int)) (by omega) (by omega)
    simp only [riffleref01_Index.l0]
    rw [if_pos (by rw [places_length]; omega), if_pos (by omega), places_get d i (by omega), refSame_eq _ _ (by rw [placeF_length]; omega) k (by rw [placeF_length]; omega)]
    simp only [Option.bind_some]
    by_cases h : placeF d (i : Int) = p
    · rw [if_pos (decide_eq_true h), if_pos hr, ← h, index_place hpos (by omega) hlt]
    · rw [if_neg (by simpa using h), w64_succ (by have := size_nonneg d; omega)]
      refine ih (i + 1) k (by omega) (by omega) ?_
      rcases hx with hx | hx
      · exact Or.inl hx
      · refine Or.inr ?_
        have : indexF d p ≠ (i : Int) := by
          intro he
          by_cases ok : okPlace d.reverse p.reverse = true
          · have := (place_index ok).1
            rw [he] at this
            exact h this
          · unfold indexF at he; rw [if_neg ok] at he; omega
        omega
theorem refIndex_eq (d p : List Int) (hm : d.length ≤ 1000) (k : Nat) (hk : 1200 ≤ k) : riffleref01_Index.f k d p = some (if rightB d then indexF d p else -1) := by
  unfold riffleref01_Index.f
  rw [places_eq d hm k (by omega)]
  simp only [Option.bind_some]
  obtain ⟨h0, h1⟩ := size_nonneg d
  refine refIndex_l d p hm (sizeF d).toNat 0 k (by omega) (by omega) ?_
  by_cases ok : okPlace d.reverse p.reverse = true
  · exact Or.inr (place_index ok).2.1
  · unfold indexF; rw [if_neg ok]; exact Or.inl rfl

/-! Strides -/
theorem prodI_small {d : List Int} (hr : rightB d = true) {pre es : List Int} (h : d = pre ++ es) : 0 ≤ prodI es ∧ prodI es ≤ 262144 := by
  obtain ⟨h1, h2, _⟩ := rightB_ok hr
  refine prodI_bd (List.all_eq_true.2 fun x hx => List.all_eq_true.1 h2 x (by rw [h]; simp [hx])) ?_
  rw [h, List.length_append] at h1; omega
theorem strides_loop (d : List Int) (hr : rightB d = true) : ∀ (ds es : List Int) (k : Nat), d = ds.reverse ++ es → ds.length < k →
    shape_Strides.l0 k d (List.replicate ds.length 0 ++ strL es) (prodI es) (d.length : Int) (es.length : Int) = some (strL d) := by
  have h3 := (rightB_ok hr).1
  intro ds
  induction ds with
  | nil =>
    intro es k hd hk
    obtain ⟨k, rfl⟩ := succ_of (show 0 < k by omega)
    simp at hd
    subst hd
    simp only [shape_Strides.l0]
    rw [if_neg (by omega)]
    rfl
  | cons a t ih =>
    intro es k hd hk
    obtain ⟨k, rfl⟩ := succ_of (show 0 < k by omega)
    have hd2 : d = t.reverse ++ a :: es := by rw [hd, List.reverse_cons, List.append_assoc]; rfl
    have hl : d.length = t.length + 1 + es.length := by rw [hd2]; simp; omega
    have hsl : ∀ l : List Int, (strL l).length = l.length := by intro l; induction l with | nil => rfl | cons a l ih => simp [strL, ih]
    have eax : wrap64 (wrap64 ((d.length : Int) - 1) - (es.length : Int)) = ((t.length : Nat) : Int) := by rw [w64 (n := (d.length : Int) - 1) (by omega), w64 (by omega)]; omega
    have erd : rd d ((t.length : Nat) : Int) = a := by
      have := rd_mid t.reverse a es
      rw [List.length_reverse] at this
      rw [hd2]; exact this
    have hb := prodI_small hr hd2
    rw [prodI_cons, Int.mul_comm] at hb
    simp only [shape_Strides.l0]
    rw [eax, erd, if_pos (by omega), if_pos (by omega), if_pos (by simp [hsl]; omega), if_pos (by omega), List.length_cons, show (((t.length : Nat) : Int)).toNat = t.length from rfl, set_mid, w64_succ (by omega), w64 (by omega), Int.mul_comm, ← prodI_cons]
    have := ih (a :: es) k hd2 (by simp at hk; omega)
    rw [List.length_cons] at this
    exact this
theorem strides_eq (d : List Int) (k : Nat) (hk : 10 ≤ k) : shape_Strides.f k d = some (if rightB d then strL d else []) := by
  unfold shape_Strides.f
  rw [right_eq]
  simp only [Option.bind_some]
  by_cases hr : rightB d = true
  · have h3 := (rightB_ok hr).1
    rw [if_pos hr, if_pos hr, if_pos (by omega), if_pos (by omega)]
    have := strides_loop d hr d.reverse [] k (by simp) (by simp; omega)
    simpa [strL, prodI_nil] using this
  · rw [if_neg hr, if_neg hr]

theorem refStr_inner (d out : List Int) (hr : rightB d = true) (i : Nat) (hi : i < d.length) (ho : out.length ≤ 1000) : ∀ (m j k : Nat), j + m = d.length → i + 1 ≤ j → m + 1 ≤ k →
    ∃ k', k ≤ k' + m + 1 ∧ riffleref01_Strides.l1 k d out (i : Int) (prodI ((d.drop (i + 1)).take (j - (i + 1)))) (j : Int) = riffleref01_Strides.l0 k' d (out ++ [prodI (d.drop (i + 1))]) ((i + 1 : Nat) : Int) := by
  have h3 := (rightB_ok hr).1
  intro m
  induction m with
  | zero =>
    intro j k hj hij hk
    obtain ⟨k, rfl⟩ := succ_of (show 0 < k by omega)
    refine ⟨k, by omega, ?_⟩
    simp only [riffleref01_Strides.l1]
    rw [if_neg (by omega), if_pos (by omega), w64_succ (by omega), List.take_of_length_le (by simp; omega)]
  | succ m ih =>
    intro j k hj hij hk
    obtain ⟨k, rfl⟩ := succ_of (show 0 < k by omega)
    have hjd : j < d.length := by omega
    simp only [riffleref01_Strides.l1]
    have et : (d.drop (i + 1)).take (j + 1 - (i + 1)) = (d.drop (i + 1)).take (j - (i + 1)) ++ [d[j]] := by
      have : j - (i + 1) < (d.drop (i + 1)).length := by simp; omega
      rw [show j + 1 - (i + 1) = j - (i + 1) + 1 by omega, List.take_add_one, List.getElem?_eq_getElem this]
      simp only [List.getElem_drop, Option.toList_some]
      congr 2
      congr 1
      omega
    have hbd : 0 ≤ prodI ((d.drop (i + 1)).take (j + 1 - (i + 1))) ∧ prodI ((d.drop (i + 1)).take (j + 1 - (i + 1))) ≤ 262144 := by
      obtain ⟨_, h2, _⟩ := rightB_ok hr
      exact prodI_bd (List.all_eq_true.2 fun x hx => List.all_eq_true.1 h2 x (List.mem_of_mem_drop (List.mem_of_mem_take hx))) (by simp; omega)
    rw [et, prodI_snoc] at hbd
    rw [if_pos (by omega), if_pos (by omega), rd_get hjd, w64_succ (by omega), w64 (by omega), ← prodI_snoc, ← et]
    obtain ⟨k', h1, h2⟩ := ih (j + 1) k (by omega) (by omega) (by omega)
    exact ⟨k', by omega, h2⟩
theorem refStr_outer (d : List Int) (hr : rightB d = true) : ∀ (m i k : Nat) (out : List Int), i + m = d.length → out.length = i → 10 * m + 10 ≤ k → riffleref01_Strides.l0 k d out (i : Int) = some (out ++ strL (d.drop i)) := by
  have h3 := (rightB_ok hr).1
  intro m
  induction m with
  | zero =>
    intro i k out hi ho hk
    obtain ⟨k, rfl⟩ := succ_of (show 0 < k by omega)
    obtain ⟨k, rfl⟩ := succ_of (show 0 < k by omega)
    simp only [riffleref01_Strides.l0]
    rw [if_neg (by omega), List.drop_of_length_le (by omega)]
    simp [riffleref01_Strides.j1, strL]
  | succ m ih =>
    intro i k out hi ho hk
    obtain ⟨k, rfl⟩ := succ_of (show 0 < k by omega)
    obtain ⟨k, rfl⟩ := succ_of (show 0 < k by omega)
    have hid : i < d.length := by omega
    simp only [riffleref01_Strides.l0]
    rw [if_pos (by omega), refRight_eq d _ (by omega), hr]
    simp only [Option.bind_some, riffleref01_Strides.j1]
    rw [if_pos trivial, w64_succ (by omega)]
    obtain ⟨k', h1, h2⟩ := refStr_inner d out hr i hid (by omega) (d.length - (i + 1)) (i + 1) k (by omega) (by omega) (by omega)
    rw [Nat.sub_self, List.take_zero, prodI_nil] at h2
    rw [h2, ih (i + 1) k' _ (by omega) (by simp [ho]) (by omega), drop_cons hid, strL, List.append_assoc]
    rfl
theorem refStrides_eq (d : List Int) (k : Nat) (hk : 100 ≤ k) : riffleref01_Strides.f k d = some (if rightB d then strL d else []) := by
  unfold riffleref01_Strides.f
  by_cases hr : rightB d = true
  · have h3 := (rightB_ok hr).1
    have := refStr_outer d hr d.length 0 k [] (by omega) rfl (by omega)
    rw [if_pos hr]
    simpa using this
  · obtain ⟨k, rfl⟩ := succ_of (show 0 < k by omega)
    obtain ⟨k, rfl⟩ := succ_of (show 0 < k by omega)
    rw [if_neg hr]
    simp only [riffleref01_Strides.l0]
    by_cases h : (0 : Int) < (d.length : Int)
    · rw [if_pos h, refRight_eq d _ (by omega), Bool.eq_false_iff.2 hr]
      simp [riffleref01_Strides.j1]
    · rw [if_neg h]
      simp [riffleref01_Strides.j1]

end Go.Proofs.Ytmfgdgmpblkadaa.Pure
