/- The document's lines, in plain Lean. No program in sight. -/
import Derived.Test.YtbndpdjpfehdnaaChunk6
import Derived.Test.YtbndpdjpfehdnaaPAllx1
set_option linter.unusedVariables false
set_option linter.unusedSimpArgs false
set_option maxRecDepth 100000
namespace Go.Proofs.Ytbndpdjpfehdnaa.Chunk
open Go.RowKit Go.RK Go.Proofs.YtbndpdjpfehdnaaW.PrintWords Go.Proofs.Ytbndpdjpfehdnaa.PAll
abbrev SL : Type := S34
def toL (x : ByteArray × Bool) : SL := ⟨x.1, x.2⟩
theorem str_size (xs : List Int) : (strOfNums xs).size = xs.length := by show (List.toArray _).size = _; simp
theorem str_app (xs ys : List Int) : strOfNums xs ++ strOfNums ys = strOfNums (xs ++ ys) := by
  apply ByteArray.ext
  simp [strOfNums, ByteArray.data_append]
theorem str_extract (pre mid post : List Int) : (strOfNums (pre ++ mid ++ post)).extract pre.length (pre ++ mid).length = strOfNums mid := by
  apply ByteArray.ext
  rw [ByteArray.data_extract]
  simp only [strOfNums]
  apply Array.toList_inj.1
  rw [Array.toList_extract]
  simp [List.map_append, List.extract_eq_take_drop]
theorem line_eq (cur : List Int) : riffleref34_line.f (strOfNums cur) = some (lineV cur) := by
  unfold riffleref34_line.f lineV held
  rw [str_size]
  by_cases h : cur.length > 1600
  · rw [if_pos (by omega), if_pos h, decide_eq_true h]; rfl
  · rw [if_neg (by omega), if_neg h, decide_eq_false h]
theorem bt_at (pre : List Int) (x : Int) (post : List Int) (h0 : 0 ≤ x) (h1 : x < 256) : bt (strOfNums (pre ++ x :: post)) (pre.length : Int) = x := by
  have hs : pre.length < (strOfNums (pre ++ x :: post)).size := by rw [str_size]; simp
  unfold bt
  rw [dif_pos (by rw [Int.toNat_natCast]; exact hs)]
  have e : (strOfNums (pre ++ x :: post))[(pre.length : Int).toNat]'(by rw [Int.toNat_natCast]; exact hs) = UInt8.ofNat x.toNat := by
    show (strOfNums (pre ++ x :: post)).data[(pre.length : Int).toNat]'_ = _
    simp [strOfNums]
  rw [e]
  rw [UInt8.toNat_ofNat']
  omega
theorem lines_l0 (text : List Int) (hb : ∀ x ∈ text, 0 ≤ x ∧ x < 256) (hl : text.length ≤ 1000000) : ∀ (rest done cur : List Int) (out : List SL) (k : Nat), text = done ++ cur ++ rest → out.length ≤ done.length → rest.length < k →
    riffleref34_Lines.l0 k (strOfNums text) out (done.length : Int) ((done ++ cur).length : Int) = some (out ++ ((feed cur rest).1.map lineV).map toL, strOfNums (feed cur rest).2)
  | rest, done, cur, out, 0, _, _, hk => by omega
  | [], done, cur, out, k + 1, ht, ho, hk => by
    unfold riffleref34_Lines.l0
    rw [str_size, ht, List.append_nil]
    rw [if_neg (by omega), if_pos (by omega), if_pos (by rw [List.length_append]; omega)]
    have := str_extract done cur []
    rw [List.append_nil] at this
    simp only [feed, List.map_nil, List.append_nil]
    rw [Int.toNat_natCast, this]
  | x :: rest, done, cur, out, k + 1, ht, ho, hk => by
    unfold riffleref34_Lines.l0
    have hx := hb x (by rw [ht]; simp)
    have hlen : text.length = done.length + cur.length + (rest.length + 1) := by rw [ht]; simp; omega
    have e3 : wrap64 (((done ++ cur).length : Int) + 1) = ((done ++ cur ++ [x]).length : Int) := by simp only [List.length_append, List.length_cons, List.length_nil]; unfold wrap64; omega
    have hbt : bt (strOfNums text) ((done ++ cur).length : Int) = x := by rw [ht]; exact bt_at (done ++ cur) x rest hx.1 hx.2
    rw [str_size, if_pos (by rw [List.length_append]; omega), if_pos (by omega), hbt]
    by_cases e : x = 10
    · have hex : (strOfNums text).extract done.length (done ++ cur).length = strOfNums cur := by rw [ht]; exact str_extract done cur (x :: rest)
      rw [if_pos e, if_pos (by omega), if_pos (by rw [List.length_append]; omega), if_pos (by rw [List.length_append]; omega), Int.toNat_natCast, Int.toNat_natCast, hex, line_eq]
      simp only [Option.bind_some]
      rw [if_pos (by omega), e3]
      have ih := lines_l0 text hb hl rest (done ++ cur ++ [x]) [] (out ++ [toL (lineV cur)]) k (by rw [ht]; simp) (by simp only [List.length_append, List.length_cons, List.length_nil]; omega) (by simp only [List.length_cons] at hk; omega)
      rw [List.append_nil] at ih
      have e1 : (feed cur (x :: rest)).1 = cur :: (feed [] rest).1 := by simp only [feed, if_pos e]
      have e2 : (feed cur (x :: rest)).2 = (feed [] rest).2 := by simp only [feed, if_pos e]
      rw [e1, e2]
      refine Eq.trans ih ?_
      simp [toL]
    · rw [if_neg e, e3]
      have ih := lines_l0 text hb hl rest done (cur ++ [x]) out k (by rw [ht]; simp) ho (by simp only [List.length_cons] at hk; omega)
      rw [← List.append_assoc] at ih
      have e1 : feed cur (x :: rest) = feed (cur ++ [x]) rest := by simp only [feed, if_neg e]
      rw [e1]
      exact ih
theorem lines_eq (text : List Int) (hb : ∀ x ∈ text, 0 ≤ x ∧ x < 256) (hl : text.length ≤ 1000000) : riffleref34_Lines.f 2000000 (strOfNums text) = some (((feed [] text).1.map lineV).map toL, strOfNums (feed [] text).2) := by
  have := lines_l0 text hb hl text [] [] [] 2000000 rfl (by simp) (by omega)
  exact this
theorem heldF (cur : List Int) : riffleref34_Held.f (strOfNums cur) = some ((held cur).length : Int) := by
  unfold riffleref34_Held.f held
  rw [str_size]
  by_cases h : cur.length > 1600
  · rw [if_pos (by omega), if_pos h]; rfl
  · rw [if_neg (by omega), if_neg h]
theorem feed_no : ∀ (b cur : List Int), (∀ x ∈ cur, x ≠ 10) → ∀ x ∈ (feed cur b).2, x ≠ 10
  | [], cur, h => by simpa [feed] using h
  | y :: b, cur, h => by
    simp only [feed]
    split
    · exact feed_no b [] (by simp)
    · rename_i hy
      exact feed_no b (cur ++ [y]) (fun x hx => by
        rcases List.mem_append.1 hx with hx | hx
        · exact h x hx
        · rw [List.mem_singleton.1 hx]; exact hy)
theorem feed_id : ∀ (b cur : List Int), (∀ x ∈ b, x ≠ 10) → feed cur b = ([], cur ++ b)
  | [], cur, _ => by simp [feed]
  | y :: b, cur, h => by
    have hy := h y (by simp)
    simp only [feed, if_neg hy]
    rw [feed_id b (cur ++ [y]) (fun x hx => h x (List.mem_cons_of_mem _ hx))]
    simp
/-- of what is left the next ones come as if all came -/
theorem feed_rest (t b : List Int) : (feed [] ((feed [] t).2 ++ b)).2 = (feed (feed [] t).2 b).2 := by
  rw [feed_app, feed_id _ [] (feed_no t [] (by simp))]
  rfl
theorem feed_mem : ∀ (b cur : List Int), ∀ x ∈ (feed cur b).2, x ∈ cur ∨ x ∈ b
  | [], cur, x, h => by simp only [feed] at h; exact .inl h
  | y :: b, cur, x, h => by
    simp only [feed] at h
    split at h
    · rcases feed_mem b [] x h with h | h
      · simp at h
      · exact .inr (List.mem_cons_of_mem _ h)
    · rcases feed_mem b (cur ++ [y]) x h with h | h
      · rcases List.mem_append.1 h with h | h
        · exact .inl h
        · exact .inr (by rw [List.mem_singleton.1 h]; simp)
      · exact .inr (List.mem_cons_of_mem _ h)
theorem great_l0 (L : List (List Int)) : ∀ (d i k : Nat), i + d = 20 → i ≤ L.length → 2 * d + 3 < k → ∃ r, rifflelaw34_Great.l0 k L (i : Int) = some r ∧ (r = false → L.length ≤ 20 ∧ ∀ q, i ≤ q → (h : q < L.length) → L[q].length ≤ 4000) := by
  intro d
  induction d with
  | zero =>
    intro i k hd hi hk
    have hend : ∀ k, 0 < k → ∃ r, rifflelaw34_Great.j1 k L (i : Int) false = some r ∧ (r = false → L.length ≤ 20 ∧ ∀ q, i ≤ q → (h : q < L.length) → L[q].length ≤ 4000) := by
      intro k hk
      obtain ⟨k, rfl⟩ : ∃ m, k = m + 1 := ⟨k - 1, by omega⟩
      unfold rifflelaw34_Great.j1
      rw [if_neg (by decide)]
      refine ⟨_, rfl, fun h => ?_⟩
      have : ¬ ((L.length : Int) > 20) := by simpa using h
      exact ⟨by omega, fun q hq hql => by omega⟩
    obtain ⟨k, rfl⟩ : ∃ m, k = m + 1 := ⟨k - 1, by omega⟩
    unfold rifflelaw34_Great.l0
    by_cases h : i < L.length
    · rw [if_pos (by omega), show (decide ((i : Int) < 20)) = false by simpa using (by omega : ¬ ((i : Int) < 20))]
      exact hend k (by omega)
    · rw [if_neg (by omega)]
      exact hend k (by omega)
  | succ d ih =>
    intro i k hd hi hk
    obtain ⟨k, rfl⟩ : ∃ m, k = m + 2 := ⟨k - 2, by omega⟩
    unfold rifflelaw34_Great.l0
    by_cases h : i < L.length
    · rw [if_pos (by omega), show (decide ((i : Int) < 20)) = true by simpa using (by omega : ((i : Int) < 20))]
      have e1 : rd_L1 L (i : Int) = L[i] := by simp [rd_L1, List.getD_eq_getElem?_getD, List.getElem?_eq_getElem h]
      have e3 : wrap64 ((i : Int) + 1) = ((i + 1 : Nat) : Int) := by unfold wrap64; omega
      unfold rifflelaw34_Great.j1
      rw [if_pos rfl, if_pos (by omega), if_pos (by omega), e1, e3]
      by_cases h4 : L[i].length ≤ 4000
      · rw [if_neg (by omega)]
        obtain ⟨r, h1, h2⟩ := ih (i + 1) k (by omega) (by omega) (by omega)
        refine ⟨r, h1, fun hr => ⟨(h2 hr).1, fun q hq hql => ?_⟩⟩
        rcases Nat.lt_or_ge i q with h5 | h5
        · exact (h2 hr).2 q (by omega) hql
        · obtain rfl : i = q := by omega
          exact h4
      · rw [if_pos (by omega)]
        exact ⟨true, rfl, fun h => by cases h⟩
    · rw [if_neg (by omega)]
      unfold rifflelaw34_Great.j1
      rw [if_neg (by decide)]
      refine ⟨_, rfl, fun h => ?_⟩
      have : ¬ ((L.length : Int) > 20) := by simpa using h
      exact ⟨by omega, fun q hq hql => by omega⟩
theorem great_any (L : List (List Int)) : ∃ r, rifflelaw34_Great.f 100 L = some r ∧ (r = false → L.length ≤ 20 ∧ ∀ d ∈ L, d.length ≤ 4000) := by
  obtain ⟨r, h1, h2⟩ := great_l0 L 20 0 100 (by omega) (by omega) (by omega)
  refine ⟨r, h1, fun h => ⟨(h2 h).1, fun d hd => ?_⟩⟩
  obtain ⟨q, hq, rfl⟩ := List.mem_iff_getElem.1 hd
  exact (h2 h).2 q (by omega) hq
end Go.Proofs.Ytbndpdjpfehdnaa.Chunk
