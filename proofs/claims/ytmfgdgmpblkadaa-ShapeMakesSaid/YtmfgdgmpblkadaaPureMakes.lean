/- Without, With, Turned, Perm and Picked of shape and of its reference. No condition but that lists are short. -/
import Derived.Test.YtmfgdgmpblkadaaPureBack
import Derived.Test.YtmfgdgmpblkadaaPClone
import Derived.Test.YtmfgdgmpblkadaaPAllx7
import Derived.Test.YtmfgdgmpblkadaaPAllx6
import Derived.Test.YtmfgdgmpblkadaaPAllx5
set_option linter.unusedVariables false
set_option linter.unusedSimpArgs false
namespace Go.Proofs.Ytmfgdgmpblkadaa.Pure
open Go.RowKit Go.RS Go.RL Go.RP Go.Proofs.Ytmfgdgmpblkadaa.PAll Go.Proofs.YtmfgdgmpblkadaaW.PrintWords Go.Proofs.YtmfgdgmpblkadaaW.PrintLast

/-! Without -/
def woF (a : Int) : List Int → Nat → List Int
  | [], _ => []
  | x :: t, j => if (j : Int) = a then woF a t (j + 1) else x :: woF a t (j + 1)
theorem woF_length (a : Int) (l : List Int) (j : Nat) : (woF a l j).length ≤ l.length := by
  induction l generalizing j with
  | nil => simp [woF]
  | cons x t ih =>
    rw [woF]
    have := ih (j + 1)
    split
    · simp; omega
    · simp; omega
theorem without_l (l : List Int) (a : Int) (hm : l.length ≤ 1000) : ∀ (m j k : Nat) (out : List Int), j + m = l.length → m < k → out.length ≤ j → shape_Without.l0 k l a out (l.length : Int) (j : Int) = some (out ++ woF a (l.drop j) j) := by
  intro m
  induction m with
  | zero =>
    intro j k out hj hk ho
    obtain ⟨k, rfl⟩ := succ_of (show 0 < k by omega)
    simp only [shape_Without.l0]
    rw [if_neg (by omega), List.drop_of_length_le (by omega)]; simp [woF]
  | succ m ih =>
    intro j k out hj hk ho
    obtain ⟨k, rfl⟩ := succ_of (show 0 < k by omega)
    have hlt : j < l.length := by omega
    simp only [shape_Without.l0]
    rw [if_pos (by omega), drop_cons hlt, woF, w64_succ (by omega)]
    by_cases h : (j : Int) = a
    · rw [if_pos h, if_pos h, ih (j + 1) k out (by omega) (by omega) (by omega)]
    · rw [if_neg h, if_neg h, if_pos (by omega), if_pos (by omega), if_pos (by omega), rd_get hlt, ih (j + 1) k _ (by omega) (by omega) (by simp; omega), List.append_assoc]; rfl
theorem refWithout_l (l : List Int) (a : Int) (hm : l.length ≤ 1000) : ∀ (m j k : Nat) (out : List Int), j + m = l.length → m < k → out.length ≤ j → riffleref01_Without.l0 k l a out (j : Int) = some (out ++ woF a (l.drop j) j) := by
  intro m
  induction m with
  | zero =>
    intro j k out hj hk ho
    obtain ⟨k, rfl⟩ := succ_of (show 0 < k by omega)
    simp only [riffleref01_Without.l0]
    rw [if_neg (by omega), List.drop_of_length_le (by omega)]; simp [woF]
  | succ m ih =>
    intro j k out hj hk ho
    obtain ⟨k, rfl⟩ := succ_of (show 0 < k by omega)
    have hlt : j < l.length := by omega
    simp only [riffleref01_Without.l0]
    rw [if_pos (by omega), drop_cons hlt, woF, w64_succ (by omega)]
    by_cases h : (j : Int) = a
    · rw [if_pos h, if_pos h, ih (j + 1) k out (by omega) (by omega) (by omega)]
    · rw [if_neg h, if_neg h, if_pos (by omega), if_pos (by omega), rd_get hlt, ih (j + 1) k _ (by omega) (by omega) (by simp; omega), List.append_assoc]; rfl
theorem without_eq (l : List Int) (a : Int) (hm : l.length ≤ 1000) (k : Nat) (hk : l.length < k) : shape_Without.f k l a = some (woF a l 0) ∧ riffleref01_Without.f k l a = some (woF a l 0) := by
  have h1 := without_l l a hm l.length 0 k [] (by omega) hk (by simp)
  have h2 := refWithout_l l a hm l.length 0 k [] (by omega) hk (by simp)
  exact ⟨by unfold shape_Without.f; simpa using h1, by unfold riffleref01_Without.f; simpa using h2⟩

/-! With -/
theorem refWith_l (l : List Int) (a n : Int) (hm : l.length ≤ 1000) : ∀ (m j k : Nat), j + m = l.length → m < k → riffleref01_With.l0 k l a n ((withF l a n).take j) (j : Int) = some (withF l a n) := by
  have hwl : (withF l a n).length = l.length := by unfold withF; split <;> simp
  intro m
  induction m with
  | zero =>
    intro j k hj hk
    obtain ⟨k, rfl⟩ := succ_of (show 0 < k by omega)
    simp only [riffleref01_With.l0]
    rw [if_neg (by omega), List.take_of_length_le (by omega)]
  | succ m ih =>
    intro j k hj hk
    obtain ⟨k, rfl⟩ := succ_of (show 0 < k by omega)
    have hlt : j < l.length := by omega
    have hlt' : j < (withF l a n).length := by omega
    have et : (withF l a n).take (j + 1) = (withF l a n).take j ++ [if (j : Int) = a then n else l[j]] := by
      rw [List.take_add_one, List.getElem?_eq_getElem hlt', Option.toList_some]
      congr 2
      unfold withF
      by_cases h : (j : Int) = a
      · rw [if_pos h]
        subst h
        simp
      · rw [if_neg h]
        split
        · rw [List.getElem_set_ne (by omega)]
        · rfl
    simp only [riffleref01_With.l0]
    rw [if_pos (by omega), w64_succ (by omega), rd_get hlt]
    by_cases h : (j : Int) = a
    · rw [if_pos h] at et ⊢
      rw [if_pos (by simp; omega), ← et, ih (j + 1) k (by omega) (by omega)]
    · rw [if_neg h] at et ⊢
      rw [if_pos (by omega), if_pos (by simp; omega), ← et, ih (j + 1) k (by omega) (by omega)]
theorem with_eq (l : List Int) (a n : Int) (hm : l.length ≤ 1000) (k : Nat) (hk : l.length < k) : shape_With.f l a n = some (withF l a n) ∧ riffleref01_With.f k l a n = some (withF l a n) := by
  refine ⟨by unfold shape_With.f; rw [if_pos (by omega)], ?_⟩
  have := refWith_l l a n hm l.length 0 k (by omega) hk
  unfold riffleref01_With.f
  simpa using this

/-! Turned -/
theorem refTurned_l (l : List Int) (hm : l.length ≤ 1000) : ∀ (j k : Nat), j ≤ l.length → j < k → riffleref01_Turned.l0 k l ((l.drop j).reverse) ((j : Int) - 1) = some l.reverse := by
  intro j
  induction j with
  | zero =>
    intro k hj hk
    obtain ⟨k, rfl⟩ := succ_of (show 0 < k by omega)
    simp only [riffleref01_Turned.l0]
    rw [if_neg (by omega), List.drop_zero]
  | succ j ih =>
    intro k hj hk
    obtain ⟨k, rfl⟩ := succ_of (show 0 < k by omega)
    have hlt : j < l.length := by omega
    simp only [riffleref01_Turned.l0]
    have e : ((j + 1 : Nat) : Int) - 1 = (j : Int) := by omega
    rw [e, if_pos (by omega), if_pos (by omega), if_pos (by omega), if_pos (by simp; omega), rd_get hlt, w64 (by omega)]
    have := ih k (by omega) (by omega)
    rw [drop_cons hlt, List.reverse_cons] at this
    exact this
theorem refTurned_eq (l : List Int) (hm : l.length ≤ 1000) (k : Nat) (hk : l.length < k) : riffleref01_Turned.f k l = some l.reverse := by
  unfold riffleref01_Turned.f
  rw [w64 (by omega)]
  have := refTurned_l l hm l.length k (by omega) hk
  simpa using this

/-! Perm -/
theorem php : ∀ (p q : List Int), p.Nodup → p ⊆ q → p.length = q.length → p.Perm q := by
  intro p
  induction p with
  | nil => intro q _ _ h; cases q with
    | nil => exact .refl _
    | cons _ _ => simp at h
  | cons a t ih =>
    intro q hn hs hl
    rw [List.nodup_cons] at hn
    have ha : a ∈ q := hs (by simp)
    have hp := List.perm_cons_erase ha
    have hle : (q.erase a).length = q.length - 1 := List.length_erase_of_mem ha
    refine (List.Perm.cons a (ih (q.erase a) hn.2 (fun x hx => ?_) ?_)).trans hp.symm
    · exact (List.mem_erase_of_ne (by rintro rfl; exact hn.1 hx)).2 (hs (by simp [hx]))
    · simp at hl; omega
def nats (n : Nat) : List Int := (List.range n).map (fun v : Nat => (v : Int))
theorem nats_nodup (n : Nat) : (nats n).Nodup := by
  unfold nats List.Nodup
  rw [List.pairwise_map]
  exact List.nodup_range.imp (fun h h' => h (by omega))
theorem mem_nats {n : Nat} {x : Int} : x ∈ nats n ↔ 0 ≤ x ∧ x < n := by
  unfold nats
  simp only [List.mem_map, List.mem_range]
  constructor
  · rintro ⟨v, h, rfl⟩; omega
  · rintro ⟨h1, h2⟩; exact ⟨x.toNat, by omega, by omega⟩
theorem perm_nats {p : List Int} (h : permOk p) : p.Perm (nats p.length) :=
  php p _ h.1 (fun x hx => mem_nats.2 (h.2 x hx)) (by simp [nats])
theorem count_of_perm {p : List Int} (h : permOk p) (n : Nat) (hn : n < p.length) : p.count (n : Int) = 1 := by
  rw [(perm_nats h).count_eq]
  have hm : (n : Int) ∈ nats p.length := mem_nats.2 (by omega)
  have h1 : 0 < (nats p.length).count (n : Int) := List.count_pos_iff.2 hm
  have h2 : (nats p.length).count (n : Int) ≤ 1 := List.nodup_iff_count.1 (nats_nodup _) _
  omega
theorem perm_of_count {p : List Int} (h : ∀ n : Nat, n < p.length → p.count (n : Int) = 1) : permOk p := by
  have hp : (nats p.length).Perm p := php _ _ (nats_nodup _) (fun x hx => by
    obtain ⟨h1, h2⟩ := mem_nats.1 hx
    have := h x.toNat (by omega)
    rw [Int.toNat_of_nonneg h1] at this
    exact List.count_pos_iff.1 (by omega)) (by simp [nats])
  exact ⟨hp.nodup_iff.1 (nats_nodup _), fun x hx => mem_nats.1 (hp.mem_iff.2 hx)⟩
theorem refPerm_l1 (p : List Int) (hm : p.length ≤ 1000) (n : Nat) : ∀ (m j k : Nat), j + m = p.length → m < k →
    ∃ k', k ≤ k' + m + 1 ∧ riffleref01_Perm.l1 k p (n : Int) ((p.take j).count (n : Int) : Nat) (j : Int) = if p.count (n : Int) = 1 then riffleref01_Perm.l0 k' p (wrap64 ((n : Int) + 1)) else some false := by
  intro m
  induction m with
  | zero =>
    intro j k hj hk
    obtain ⟨k, rfl⟩ := succ_of (show 0 < k by omega)
    refine ⟨k, by omega, ?_⟩
    simp only [riffleref01_Perm.l1]
    rw [if_neg (by omega), List.take_of_length_le (by omega)]
    by_cases h : p.count (n : Int) = 1
    · rw [if_pos (by omega), if_pos h]
    · rw [if_neg (by omega), if_neg h]
  | succ m ih =>
    intro j k hj hk
    obtain ⟨k, rfl⟩ := succ_of (show 0 < k by omega)
    have hlt : j < p.length := by omega
    have hc : (p.take j).count (n : Int) ≤ 1000 := Nat.le_trans List.count_le_length (by simp; omega)
    have et : (p.take (j + 1)).count (n : Int) = (p.take j).count (n : Int) + (if p[j] = (n : Int) then 1 else 0) := by
      rw [List.take_add_one, List.getElem?_eq_getElem hlt, Option.toList_some, List.count_append, List.count_singleton]
      simp [beq_iff_eq]
    obtain ⟨k', h1, h2⟩ := ih (j + 1) k (by omega) (by omega)
    refine ⟨k', by omega, ?_⟩
    simp only [riffleref01_Perm.l1]
    rw [if_pos (by omega), if_pos (by omega), rd_get hlt, w64_succ (i := j) (by omega), w64_succ (by omega), ← h2, et]
    by_cases h : p[j] = (n : Int)
    · rw [if_pos h, if_pos h]
    · rw [if_neg h, if_neg h]; rfl
theorem refPerm_l0 (p : List Int) (hm : p.length ≤ 100) : ∀ (m n k : Nat), n + m = p.length → 200 * m + 1 ≤ k → (∀ v : Nat, v < n → p.count (v : Int) = 1) → riffleref01_Perm.l0 k p (n : Int) = some (decide (permOk p)) := by
  intro m
  induction m with
  | zero =>
    intro n k hn hk hv
    obtain ⟨k, rfl⟩ := succ_of (show 0 < k by omega)
    simp only [riffleref01_Perm.l0]
    rw [if_neg (by omega), decide_eq_true (perm_of_count (fun v hv' => hv v (by omega)))]
  | succ m ih =>
    intro n k hn hk hv
    obtain ⟨k, rfl⟩ := succ_of (show 0 < k by omega)
    simp only [riffleref01_Perm.l0]
    rw [if_pos (by omega)]
    obtain ⟨k', h1, h2⟩ := refPerm_l1 p (by omega) n p.length 0 k (by omega) (by omega)
    rw [List.take_zero, List.count_nil] at h2
    rw [show ((0 : Nat) : Int) = 0 from rfl] at h2
    rw [h2]
    by_cases h : p.count (n : Int) = 1
    · rw [if_pos h, w64_succ (by omega)]
      refine ih (n + 1) k' (by omega) (by omega) (fun v hv' => ?_)
      by_cases hvn : v = n
      · subst hvn; exact h
      · exact hv v (by omega)
    · rw [if_neg h, decide_eq_false]
      intro hp
      exact h (count_of_perm hp n (by omega))
theorem refPerm_eq (p : List Int) (hm : p.length ≤ 100) (k : Nat) (hk : 20100 ≤ k) : riffleref01_Perm.f k p = some (decide (permOk p)) := by
  unfold riffleref01_Perm.f
  exact refPerm_l0 p hm p.length 0 k (by omega) (by omega) (fun v hv => absurd hv (by omega))

/-! Picked -/
def sel (p d : List Int) (v : Int) : List Int := ((p.zip d).filter (fun e => e.1 = v)).map (·.2)
theorem sel_snoc (p d : List Int) (h : p.length = d.length) (x y v : Int) : sel (p ++ [x]) (d ++ [y]) v = sel p d v ++ (if x = v then [y] else []) := by
  unfold sel
  rw [List.zip_append h, List.filter_append, List.map_append]
  by_cases hx : x = v <;> simp [hx]
theorem sel_none {p d : List Int} {v : Int} (h : v ∉ p) : sel p d v = [] := by
  unfold sel
  rw [List.filter_eq_nil_iff.2]
  · rfl
  · intro e he hv
    have := (List.of_mem_zip (show (e.1, e.2) ∈ p.zip d from he)).1
    simp at hv
    rw [hv] at this
    exact h this
theorem picked_loop (d p : List Int) (hl : p.length = d.length) (hm : d.length ≤ 1000) (hp : permOk p) : ∀ (m i k : Nat) (out : List Int), i + m = d.length → m < k → out.length = d.length →
    (∀ v : Nat, (hv : v < out.length) → sel (p.take i) (d.take i) (v : Int) = if (v : Int) ∈ p.take i then [out[v]] else []) →
    ∃ q, shape_Picked.l0 k d p out (d.length : Int) (i : Int) = some q ∧ q.length = d.length ∧ ∀ v : Nat, (hv : v < q.length) → sel p d (v : Int) = [q[v]] := by
  intro m
  induction m with
  | zero =>
    intro i k out hi hk ho hs
    obtain ⟨k, rfl⟩ := succ_of (show 0 < k by omega)
    simp only [shape_Picked.l0]
    rw [if_neg (by omega)]
    refine ⟨out, rfl, ho, fun v hv => ?_⟩
    have := hs v hv
    rw [List.take_of_length_le (show p.length ≤ i by omega), List.take_of_length_le (show d.length ≤ i by omega)] at this
    rw [this, if_pos]
    exact ((perm_nats hp).mem_iff).2 (mem_nats.2 (by omega))
  | succ m ih =>
    intro i k out hi hk ho hs
    obtain ⟨k, rfl⟩ := succ_of (show 0 < k by omega)
    have hip : i < p.length := by omega
    have hid : i < d.length := by omega
    obtain ⟨b0, b1⟩ := hp.2 p[i] (List.getElem_mem hip)
    have etp : p.take (i + 1) = p.take i ++ [p[i]] := by rw [List.take_add_one, List.getElem?_eq_getElem hip]; rfl
    have etd : d.take (i + 1) = d.take i ++ [d[i]] := by rw [List.take_add_one, List.getElem?_eq_getElem hid]; rfl
    have hnew : p[i] ∉ p.take i := by
      have := (List.take_sublist (i + 1) p).nodup hp.1
      rw [etp, nodup_snoc] at this
      exact this.2
    simp only [shape_Picked.l0]
    rw [if_pos (by omega), if_pos (by omega), if_pos (by omega), if_pos (by omega), rd_get hip, rd_get hid, if_pos b0, if_pos (by omega), w64_succ (by omega)]
    refine ih (i + 1) k _ (by omega) (by omega) (by simp [ho]) (fun v hv => ?_)
    have hv' : v < out.length := by simpa using hv
    have h1 := hs v hv'
    rw [etp, etd, sel_snoc _ _ (by simp; omega)]
    by_cases hx : p[i] = (v : Int)
    · have hn : ¬ (v : Int) ∈ p.take i := by rw [← hx]; exact hnew
      rw [if_neg hn] at h1
      rw [h1, if_pos hx, if_pos (by simp [hx])]
      have : p[i].toNat = v := by omega
      simp [this]
    · rw [if_neg hx, List.append_nil, h1, List.getElem_set_ne (by omega)]
      have : ((v : Int) ∈ p.take i ++ [p[i]]) = ((v : Int) ∈ p.take i) := by
        simp only [List.mem_append, List.mem_singleton, eq_iff_iff]
        constructor
        · rintro (h | h)
          · exact h
          · exact absurd h.symm hx
        · exact Or.inl
      simp only [this]
theorem refPicked_l1 (d p : List Int) (hl : p.length = d.length) (hm : d.length ≤ 100) (n : Nat) (out : List Int) (ho : out.length ≤ 10000) : ∀ (m j k : Nat), j + m = d.length → m < k →
    ∃ k', k ≤ k' + m + 1 ∧ riffleref01_Picked.l1 k d p (out ++ sel (p.take j) (d.take j) (n : Int)) (n : Int) (j : Int) = riffleref01_Picked.l0 k' d p (out ++ sel p d (n : Int)) (wrap64 ((n : Int) + 1)) := by
  intro m
  induction m with
  | zero =>
    intro j k hj hk
    obtain ⟨k, rfl⟩ := succ_of (show 0 < k by omega)
    refine ⟨k, by omega, ?_⟩
    simp only [riffleref01_Picked.l1]
    rw [if_neg (by omega), List.take_of_length_le (by omega), List.take_of_length_le (by omega)]
  | succ m ih =>
    intro j k hj hk
    obtain ⟨k, rfl⟩ := succ_of (show 0 < k by omega)
    have hjp : j < p.length := by omega
    have hjd : j < d.length := by omega
    have etp : p.take (j + 1) = p.take j ++ [p[j]] := by rw [List.take_add_one, List.getElem?_eq_getElem hjp]; rfl
    have etd : d.take (j + 1) = d.take j ++ [d[j]] := by rw [List.take_add_one, List.getElem?_eq_getElem hjd]; rfl
    obtain ⟨k', h1, h2⟩ := ih (j + 1) k (by omega) (by omega)
    refine ⟨k', by omega, ?_⟩
    rw [etp, etd, sel_snoc _ _ (by simp; omega), ← List.append_assoc] at h2
    have hsl : (sel (p.take j) (d.take j) (n : Int)).length ≤ 100 := by
      unfold sel
      rw [List.length_map]
      exact Nat.le_trans (List.length_filter_le _ _) (by simp; omega)
    simp only [riffleref01_Picked.l1]
    rw [if_pos (by omega), if_pos (by omega), if_pos (by omega), rd_get hjp, rd_get hjd, w64_succ (i := j) (by omega)]
    by_cases h : p[j] = (n : Int)
    · rw [if_pos h] at h2 ⊢
      rw [if_pos (by simp; omega), h2]
    · rw [if_neg h, List.append_nil] at h2
      rw [if_neg h, h2]
theorem refPicked_l0 (d p q : List Int) (hl : p.length = d.length) (hm : d.length ≤ 100) (hq : q.length = d.length) (hs : ∀ v : Nat, (hv : v < q.length) → sel p d (v : Int) = [q[v]]) : ∀ (m n k : Nat), n + m = d.length → 200 * m + 1 ≤ k → riffleref01_Picked.l0 k d p (q.take n) (n : Int) = some q := by
  intro m
  induction m with
  | zero =>
    intro n k hn hk
    obtain ⟨k, rfl⟩ := succ_of (show 0 < k by omega)
    simp only [riffleref01_Picked.l0]
    rw [if_neg (by omega), List.take_of_length_le (by omega)]
  | succ m ih =>
    intro n k hn hk
    obtain ⟨k, rfl⟩ := succ_of (show 0 < k by omega)
    have hnq : n < q.length := by omega
    simp only [riffleref01_Picked.l0]
    rw [if_pos (by omega)]
    obtain ⟨k', h1, h2⟩ := refPicked_l1 d p hl hm n (q.take n) (by simp; omega) d.length 0 k (by omega) (by omega)
    have e0 : sel (p.take 0) (d.take 0) (n : Int) = [] := by simp [sel]
    rw [e0, List.append_nil, hs n hnq, w64_succ (by omega)] at h2
    rw [show ((0 : Nat) : Int) = 0 from rfl] at h2
    rw [h2]
    have := ih (n + 1) k' (by omega) (by omega)
    rw [List.take_add_one, List.getElem?_eq_getElem hnq, Option.toList_some] at this
    exact this
theorem picked_both (d p : List Int) (hd : d.length ≤ 100) (hp : p.length ≤ 100) : ∃ q, q.length ≤ 100 ∧ shape_Picked.f 30000 d p = some q ∧ riffleref01_Picked.f 30000 d p = some q := by
  unfold shape_Picked.f riffleref01_Picked.f
  by_cases hl : (p.length : Int) = (d.length : Int)
  · rw [if_pos hl, if_pos hl, perm_eq p (by omega) 30000 (by omega), refPerm_eq p hp 30000 (by omega)]
    simp only [Option.bind_some]
    by_cases hk : permOk p
    · rw [decide_eq_true hk]
      obtain ⟨q, h1, h2, h3⟩ := picked_loop d p (by omega) (by omega) hk d.length 0 29999 (List.replicate d.length 0) (by omega) (by omega) (by simp) (fun v hv => by simp [sel])
      have h4 := refPicked_l0 d p q (by omega) hd h2 h3 d.length 0 29999 (by omega) (by omega)
      refine ⟨q, by omega, ?_, ?_⟩
      · simp only [shape_Picked.j0, Bool.not_true]
        rw [if_neg (by decide), if_pos (by omega), if_pos (by omega)]
        simpa using h1
      · simp only [riffleref01_Picked.j0, Bool.not_true]
        rw [if_neg (by decide)]
        simpa using h4
    · rw [decide_eq_false hk]
      exact ⟨[], by simp, by simp [shape_Picked.j0], by simp [riffleref01_Picked.j0]⟩
  · rw [if_neg hl, if_neg hl]
    exact ⟨[], by simp, by simp [shape_Picked.j0], by simp [riffleref01_Picked.j0]⟩

end Go.Proofs.Ytmfgdgmpblkadaa.Pure
