/- What joins, joins: three numbers come to the same, whichever two are taken first; units. No condition but that integers are of their kind. -/
import Derived.Test.YtmfgdgmpblkadaaPureKinds
import Derived.Test.YtmfgdgmpblkadaaPAllx19
set_option linter.unusedVariables false
set_option linter.unusedSimpArgs false
namespace Go.Proofs.Ytmfgdgmpblkadaa.Pure
open Go.RowKit Go.RS Go.RL Go.RP Go.Proofs.Ytmfgdgmpblkadaa.PAll Go.Proofs.YtmfgdgmpblkadaaW.PrintWords Go.Proofs.YtmfgdgmpblkadaaW.PrintLast

/-- a number's bits, and back -/
def bv (a : Int) : BitVec 64 := BitVec.ofInt 64 a
def ofBv (x : BitVec 64) : Int := wrap64 (x.toNat : Int)
theorem bv_ofBv (x : BitVec 64) : bv (ofBv x) = x := by
  apply BitVec.eq_of_toNat_eq
  unfold bv ofBv
  rw [BitVec.toNat_ofInt]
  have := x.isLt
  unfold wrap64
  omega
theorem ofBv_bv (a : Int) (h : In64 a) : ofBv (bv a) = a := by
  unfold bv ofBv
  rw [BitVec.toNat_ofInt]
  unfold In64 at h
  unfold wrap64
  omega
theorem bits_and (a b : Int) : Go.bits .and .i64 a b = ofBv (bv a &&& bv b) := by
  unfold Go.bits ofBv bv
  simp only [i64_w]
  rfl
theorem bits_or (a b : Int) : Go.bits .or .i64 a b = ofBv (bv a ||| bv b) := by
  unfold Go.bits ofBv bv
  simp only [i64_w]
  rfl

def joinF (c : Int) : Prop := c = 1 ∨ c = 3 ∨ c = 15 ∨ c = 16 ∨ c = 17 ∨ c = 18 ∨ c = 7 ∨ c = 8
theorem two1 (a b : Int) : twoF 1 a b = wrap64 (a + b) := by simp [twoF]
theorem two3 (a b : Int) : twoF 3 a b = wrap64 (a * b) := by simp [twoF]
theorem two15 (a b : Int) : twoF 15 a b = ofBv (bv a &&& bv b) := by rw [← bits_and]; simp [twoF]
theorem two16 (a b : Int) : twoF 16 a b = ofBv (bv a ||| bv b) := by rw [← bits_or]; simp [twoF]
theorem two17 (a b : Int) : twoF 17 a b = a := by simp [twoF]
theorem two18 (a b : Int) : twoF 18 a b = b := by simp [twoF]
theorem two7 (a b : Int) : twoF 7 a b = mx a b := by simp [twoF]
theorem two8 (a b : Int) : twoF 8 a b = mn a b := by simp [twoF]
theorem join_assoc (c a b d : Int) (hc : joinF c) : twoF c a (twoF c b d) = twoF c (twoF c a b) d := by
  rcases hc with rfl | rfl | rfl | rfl | rfl | rfl | rfl | rfl
  · simp only [two1]; unfold wrap64; omega
  · simp only [two3]; rw [wrap_mul_l, wrap_mul_r, Int.mul_assoc]
  · simp only [two15, bv_ofBv, BitVec.and_assoc]
  · simp only [two16, bv_ofBv, BitVec.or_assoc]
  · simp only [two17]
  · simp only [two18]
  · simp only [two7]; unfold mx; repeat' split
    all_goals omega
  · simp only [two8]; unfold mn; repeat' split
    all_goals omega
theorem join_doF (c : Int) (s : Bool) (a b d : Int) (hc : joinF c) : doF c s a (doF c s b d) = doF c s (doF c s a b) d := by
  cases s
  · exact join_assoc c a b d hc
  · exact (join_assoc c d b a hc).symm
theorem unit_two (c a : Int) (ha : In64 a) (hc : joinF c) (h : 1 ≤ c ∧ c ≤ 16) : twoF c (unitsL.getD c.toNat 0) a = a ∧ twoF c a (unitsL.getD c.toNat 0) = a := by
  have hm : bv (-1) = BitVec.allOnes 64 := by apply BitVec.eq_of_toNat_eq; decide
  have h0 : bv 0 = 0#64 := by apply BitVec.eq_of_toNat_eq; decide
  rcases hc with rfl | rfl | rfl | rfl | rfl | rfl | rfl | rfl
  · show twoF 1 0 a = a ∧ twoF 1 a 0 = a
    simp only [two1]; unfold In64 at ha; unfold wrap64; omega
  · show twoF 3 1 a = a ∧ twoF 3 a 1 = a
    simp only [two3]; unfold In64 at ha; unfold wrap64; omega
  · show twoF 15 (-1) a = a ∧ twoF 15 a (-1) = a
    simp only [two15, hm, BitVec.allOnes_and, BitVec.and_allOnes, ofBv_bv a ha, and_self]
  · show twoF 16 0 a = a ∧ twoF 16 a 0 = a
    simp only [two16, h0, BitVec.zero_or, BitVec.or_zero, ofBv_bv a ha, and_self]
  · omega
  · omega
  · show twoF 7 (-9223372036854775808) a = a ∧ twoF 7 a (-9223372036854775808) = a
    simp only [two7]; unfold In64 at ha; unfold mx; constructor <;> split <;> omega
  · show twoF 8 9223372036854775807 a = a ∧ twoF 8 a 9223372036854775807 = a
    simp only [two8]; unfold In64 at ha; unfold mn; constructor <;> split <;> omega
theorem unit_doF (c : Int) (s : Bool) (a : Int) (ha : In64 a) (hc : joinF c) (h : 1 ≤ c ∧ c ≤ 16) : doF c s (unitsL.getD c.toNat 0) a = a ∧ doF c s a (unitsL.getD c.toNat 0) = a := by
  obtain ⟨h1, h2⟩ := unit_two c a ha hc h
  cases s
  · exact ⟨h1, h2⟩
  · exact ⟨h2, h1⟩
theorem join_has (c : Int) (hc : joinF c) : hasF c 2 = true := by
  unfold joinF at hc; unfold hasF; simp; omega
theorem three_eq (c : Int) (s : Bool) (a b d : Int) (ha : In64 a) (hb : In64 b) (hd : In64 d) (hc : joinF c) : rifflelaw04_three.f 1000 c s a b d = some (doF c s a (doF c s b d), doF c s a (doF c s b d)) := by
  have hh := join_has c hc
  unfold rifflelaw04_three.f
  rw [do_eq' c s b d hb hd hh 1000 (by omega)]
  simp only [Option.bind_some]
  rw [do_eq' c s a _ ha (doF_in c s b d hb hd) hh 1000 (by omega), do_eq' c s a b ha hb hh 1000 (by omega)]
  simp only [Option.bind_some]
  rw [do_eq' c s _ d (doF_in c s a b ha hb) hd hh 1000 (by omega)]
  simp only [Option.bind_some, join_doF c s a b d hc]

end Go.Proofs.Ytmfgdgmpblkadaa.Pure
