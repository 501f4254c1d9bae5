/- PureScalar: what this claim needs of a text of ours. -/
import Derived.Test.YtmfgdgmpblkadaaZFoldRows13
import Derived.Test.YtmfgdgmpblkadaaZFoldRows15
import Derived.Test.YtmfgdgmpblkadaaZFoldRows16
import Derived.Laws.BitsLemmas
namespace Go.RS
end Go.RS
namespace Go.RL
end Go.RL
namespace Go.RP
end Go.RP
namespace Go.Proofs.Ytmfgdgmpblkadaa.PAll
end Go.Proofs.Ytmfgdgmpblkadaa.PAll
namespace Go.Proofs.YtmfgdgmpblkadaaW.PrintWords
end Go.Proofs.YtmfgdgmpblkadaaW.PrintWords
namespace Go.Proofs.YtmfgdgmpblkadaaW.PrintLast
end Go.Proofs.YtmfgdgmpblkadaaW.PrintLast

set_option linter.unusedVariables false
set_option linter.unusedSimpArgs false
namespace Go.Proofs.Ytmfgdgmpblkadaa.Pure
open Go.RowKit Go.RS Go.RL Go.RP Go.Proofs.Ytmfgdgmpblkadaa.PAll Go.Proofs.YtmfgdgmpblkadaaW.PrintWords Go.Proofs.YtmfgdgmpblkadaaW.PrintLast
theorem wrap_mod (x : Int) : ∃ q, wrap64 x = x + q * 18446744073709551616 := ⟨-((x + 9223372036854775808) / 18446744073709551616), by unfold wrap64; omega⟩
theorem wrap_of_mod {x y : Int} (q : Int) (h : x = y + q * 18446744073709551616) : wrap64 x = wrap64 y := by unfold wrap64; omega
theorem wrap_mul_l (x y : Int) : wrap64 (wrap64 x * y) = wrap64 (x * y) := by
  obtain ⟨q, hq⟩ := wrap_mod x
  refine wrap_of_mod (q * y) ?_
  rw [hq, Int.add_mul, Int.mul_assoc, Int.mul_assoc, Int.mul_comm 18446744073709551616 y]
theorem wrap_mul_r (x y : Int) : wrap64 (x * wrap64 y) = wrap64 (x * y) := by rw [Int.mul_comm, wrap_mul_l, Int.mul_comm]
theorem wrap_wrap (x : Int) : wrap64 (wrap64 x) = wrap64 x := by
  obtain ⟨q, hq⟩ := wrap_mod x
  exact wrap_of_mod q hq
theorem wrap_bd (x : Int) : -9223372036854775808 ≤ wrap64 x ∧ wrap64 x ≤ 9223372036854775807 := by unfold wrap64; omega
theorem wrap_pow (x : Int) (n : Nat) : wrap64 ((wrap64 x) ^ n) = wrap64 (x ^ n) := by
  induction n with
  | zero => simp
  | succ n ih => rw [Int.pow_succ, Int.pow_succ, wrap_mul_r, ← wrap_mul_l, ih, wrap_mul_l]
theorem lt64 {b : Int} (h : b ≤ 9223372036854775807) : b < 2 ^ 64 := by
  have : (2 : Int) ^ 64 = 18446744073709551616 := by decide
  omega
theorem and_one (n : Int) : Go.bits .and .i64 n 1 = n % 2 := by
  have h1 : (BitVec.ofInt 64 1).toNat = 2 ^ 1 - 1 := by decide
  have key : (BitVec.ofInt 64 n &&& BitVec.ofInt 64 1).toNat = (n % ((2 ^ 64 : Nat) : Int)).toNat % 2 ^ 1 := by
    rw [BitVec.toNat_and, BitVec.toNat_ofInt, h1, Nat.and_two_pow_sub_one_eq_mod]
  show IntKind.i64.wrap ((BitVec.ofInt 64 n &&& BitVec.ofInt 64 1).toNat : Nat) = n % 2
  rw [key, IntKind.wrap_i64]
  omega
theorem pow_loop : ∀ (d k : Nat) (a b out : Int), 0 ≤ b → b < 2 ^ d → d < k → wrap64 out = out → scalar_power.l0 k a b out = some (wrap64 (out * a ^ b.toNat)) := by
  intro d
  induction d with
  | zero =>
    intro k a b out h0 h1 hk ho
    obtain ⟨k, rfl⟩ := succ_of hk
    obtain rfl : b = 0 := by simp at h1; omega
    simp only [scalar_power.l0]
    rw [if_neg (by omega)]
    simp [ho]
  | succ d ih =>
    intro k a b out h0 h1 hk ho
    obtain ⟨k, rfl⟩ := succ_of (show 0 < k by omega)
    simp only [scalar_power.l0]
    by_cases hb : b > 0
    · rw [if_pos hb, and_one]
      have hd : b / 2 < 2 ^ d := by rw [Int.pow_succ] at h1; omega
      obtain ⟨m, hm⟩ : ∃ m : Nat, (b / 2).toNat = m := ⟨_, rfl⟩
      by_cases h2 : b % 2 = 1
      · rw [if_pos h2, ih k _ _ _ (by omega) hd (by omega) (wrap_wrap _)]
        have hbt : b.toNat = 2 * m + 1 := by omega
        rw [hm, hbt, wrap_mul_l, Int.pow_succ, Int.pow_mul, ← wrap_mul_r, wrap_pow, wrap_mul_r]
        congr 2
        rw [show a ^ 2 = a * a by rw [Int.pow_succ, Int.pow_succ, Int.pow_zero, Int.one_mul], Int.mul_assoc, Int.mul_comm a]
      · rw [if_neg h2, ih k _ _ _ (by omega) hd (by omega) ho]
        have hbt : b.toNat = 2 * m := by omega
        rw [hm, hbt, Int.pow_mul, ← wrap_mul_r, wrap_pow, wrap_mul_r]
        congr 2
        rw [show a ^ 2 = a * a by rw [Int.pow_succ, Int.pow_succ, Int.pow_zero, Int.one_mul]]
    · rw [if_neg hb]
      obtain rfl : b = 0 := by omega
      simp [ho]
def powF (a b : Int) : Int := if b < 0 then (if a = 1 then 1 else if a = -1 then (if b % 2 = 0 then 1 else -1) else 0) else wrap64 (a ^ b.toNat)
theorem power_eq (a b : Int) (hb : b ≤ 9223372036854775807) (k : Nat) (hk : 64 < k) : scalar_power.f k a b = some (powF a b) := by
  unfold scalar_power.f powF
  by_cases h : b < 0
  · rw [if_pos h, if_pos h]
    by_cases h1 : a = 1
    · rw [if_pos h1, if_pos h1]
    · rw [if_neg h1, if_neg h1]
      by_cases h2 : a = -1
      · rw [if_pos h2, if_pos h2, and_one]
        have : b % 2 = 0 ∨ b % 2 = 1 := by omega
        rcases this with h | h <;> rw [h] <;> simp [wrap64]
      · rw [if_neg h2, if_neg h2]
  · rw [if_neg h, if_neg h, pow_loop 64 k a b 1 (by omega) (lt64 (by omega)) (by omega) (by simp [wrap64]), Int.one_mul]
def ofBits : List Int → Nat
  | [] => 0
  | x :: xs => x.toNat + 2 * ofBits xs
theorem ofBits_snoc (l : List Int) (x : Int) : ofBits (l ++ [x]) = ofBits l + 2 ^ l.length * x.toNat := by
  induction l with
  | nil => simp [ofBits]
  | cons y l ih => simp only [List.cons_append, ofBits, ih, List.length_cons, Nat.pow_succ]; rw [Nat.mul_add, ← Nat.mul_assoc, Nat.mul_comm 2 (2 ^ l.length)]; omega
theorem refPow_l1 (a : Int) (bits : List Int) (hbits : ∀ x ∈ bits, x = 0 ∨ x = 1) (hl : bits.length ≤ 100) : ∀ (d k : Nat), d ≤ bits.length → d < k →
    ∀ out : Int, out = wrap64 (a ^ ofBits (bits.drop d)) → riffleref04_power.l1 k a bits out ((d : Int) - 1) = some (wrap64 (a ^ ofBits bits)) := by
  intro d
  induction d with
  | zero =>
    intro k hd hk out ho
    obtain ⟨k, rfl⟩ := succ_of hk
    simp only [riffleref04_power.l1]
    rw [if_neg (by omega), ho, List.drop_zero]
  | succ d ih =>
    intro k hd hk out ho
    obtain ⟨k, rfl⟩ := succ_of (show 0 < k by omega)
    have hlt : d < bits.length := by omega
    simp only [riffleref04_power.l1]
    rw [show ((d + 1 : Nat) : Int) - 1 = (d : Int) by omega, if_pos (by omega), if_pos (by omega), if_pos (by omega), rd_get hlt, w64 (n := (d : Int) - 1) (by omega)]
    have hdrop : ofBits (bits.drop d) = (bits[d]).toNat + 2 * ofBits (bits.drop (d + 1)) := by rw [List.drop_eq_getElem_cons hlt]; rfl
    have hsq : wrap64 (out * out) = wrap64 (a ^ (2 * ofBits (bits.drop (d + 1)))) := by
      rw [ho, wrap_mul_l, wrap_mul_r, ← Int.pow_add]; congr 2; omega
    rcases hbits _ (List.getElem_mem hlt) with h | h
    · rw [if_neg (by rw [h]; decide)]
      refine ih k (by omega) (by omega) _ ?_
      rw [hsq, hdrop, h]; simp
    · rw [if_pos h]
      refine ih k (by omega) (by omega) _ ?_
      rw [hsq, wrap_mul_l, hdrop, h, ← Int.pow_succ]
      congr 2
      simp; omega
theorem refPow_l0 (a b0 : Int) : ∀ (d k : Nat) (b : Int) (bits : List Int), 0 ≤ b → b < 2 ^ d → d + bits.length ≤ 64 → 200 + d < k → (∀ x ∈ bits, x = 0 ∨ x = 1) → b0.toNat = ofBits bits + 2 ^ bits.length * b.toNat →
    riffleref04_power.l0 k a b bits = some (wrap64 (a ^ b0.toNat)) := by
  intro d
  induction d with
  | zero =>
    intro k b bits h0 h1 hl hk hb he
    obtain ⟨k, rfl⟩ := succ_of (show 0 < k by omega)
    obtain rfl : b = 0 := by simp at h1; omega
    simp only [riffleref04_power.l0]
    rw [if_neg (by omega), w64 (by omega), refPow_l1 a bits hb (by omega) bits.length k (Nat.le_refl _) (by omega) 1 (by simp [ofBits, wrap64])]
    rw [he]; simp
  | succ d ih =>
    intro k b bits h0 h1 hl hk hb he
    obtain ⟨k, rfl⟩ := succ_of (show 0 < k by omega)
    simp only [riffleref04_power.l0]
    by_cases hp : b > 0
    · rw [if_pos hp, if_pos (by omega)]
      have hdiv : Int.tdiv b 2 = b / 2 := Int.tdiv_eq_ediv_of_nonneg h0
      have hmod : Int.tmod b 2 = b % 2 := Int.tmod_eq_emod_of_nonneg h0
      have hbd : b < 2 ^ 64 := Int.lt_of_lt_of_le h1 (by
        have : (2 : Int) ^ (d + 1) ≤ 2 ^ 64 := by
          have h : (2 : Nat) ^ (d + 1) ≤ 2 ^ 64 := Nat.pow_le_pow_right (by omega) (by omega)
          exact_mod_cast h
        exact this)
      have hbd : b < 18446744073709551616 := by have : (2 : Int) ^ 64 = 18446744073709551616 := by decide
                                                omega
      rw [hdiv, hmod, w64 (by omega)]
      refine ih k (b / 2) (bits ++ [b % 2]) (by omega) (by rw [Int.pow_succ] at h1; omega) (by simp; omega) (by omega) ?_ ?_
      · intro x hx
        rcases List.mem_append.1 hx with hx | hx
        · exact hb x hx
        · rw [List.mem_singleton.1 hx]; omega
      · rw [ofBits_snoc, List.length_append, List.length_singleton, Nat.pow_succ, he, Nat.mul_assoc, Nat.add_assoc, ← Nat.mul_add]
        congr 2
        omega
    · rw [if_neg hp]
      obtain rfl : b = 0 := by omega
      rw [w64 (by omega), refPow_l1 a bits hb (by omega) bits.length k (Nat.le_refl _) (by omega) 1 (by simp [ofBits, wrap64])]
      rw [he]; simp
theorem refPower_eq (a b : Int) (hb : -9223372036854775808 ≤ b ∧ b ≤ 9223372036854775807) (k : Nat) (hk : 300 < k) : riffleref04_power.f k a b = some (powF a b) := by
  unfold riffleref04_power.f powF
  by_cases h : b < 0
  · rw [if_pos h, if_pos h]
    have : (Int.tmod b 2 = 0) = (b % 2 = 0) := by rw [Int.tmod_eq_emod]; split <;> (refine propext ?_; omega)
    simp only [this]
    split
    · rfl
    · split
      · split <;> rfl
      · rfl
  · rw [if_neg h, if_neg h, refPow_l0 a b 64 k b [] (by omega) (lt64 (by omega)) (by simp) (by omega) (by simp) (by simp [ofBits])]
end Go.Proofs.Ytmfgdgmpblkadaa.Pure
