/- Numbers of 64 bits, as natural numbers. -/
import Derived.Test.YtkamfflnfnjbeaaAbsSet
set_option linter.unusedSimpArgs false
set_option linter.unusedVariables false
namespace Go.Abs
open Go

theorem u64and_nat {a b : Nat} (ha : a < 18446744073709551616) (hb : b < 18446744073709551616) : u64and (a : Int) (b : Int) = ((a &&& b : Nat) : Int) := by
  unfold u64and
  rw [BitVec.ofInt_natCast, BitVec.ofInt_natCast, BitVec.toNat_and, BitVec.toNat_ofNat, BitVec.toNat_ofNat, Nat.mod_eq_of_lt ha, Nat.mod_eq_of_lt hb, wrap_u64]
  have : a &&& b ≤ a := Nat.and_le_left
  omega
theorem u64or_nat {a b : Nat} (ha : a < 18446744073709551616) (hb : b < 18446744073709551616) : u64or (a : Int) (b : Int) = ((a ||| b : Nat) : Int) := by
  unfold u64or
  rw [BitVec.ofInt_natCast, BitVec.ofInt_natCast, BitVec.toNat_or, BitVec.toNat_ofNat, BitVec.toNat_ofNat, Nat.mod_eq_of_lt ha, Nat.mod_eq_of_lt hb, wrap_u64]
  have : a ||| b < 2 ^ 64 := Nat.or_lt_two_pow (by omega) (by omega)
  omega
theorem lt_pow_iff {a L : Nat} : a < 2 ^ L ↔ ∀ i, L ≤ i → a.testBit i = false := by
  constructor
  · intro h i hi
    exact Nat.testBit_lt_two_pow (Nat.lt_of_lt_of_le h (Nat.pow_le_pow_right (by omega) hi))
  · intro h
    exact Nat.lt_pow_two_of_testBit a (fun i hi => h i hi)
theorem lt64 {a i : Nat} (ha : a < 18446744073709551616) (hi : 64 ≤ i) : a.testBit i = false := lt_pow_iff.1 (show a < 2 ^ 64 by omega) i hi
theorem u64andNot_hist {a L : Nat} (ha : a < 18446744073709551616) (hL : L ≤ 64) : decide (u64andNot (a : Int) ((2 ^ L - 1 : Nat) : Int) = 0) = decide (a < 2 ^ L) := by
  have hlt : (BitVec.ofNat 64 a &&& ~~~ BitVec.ofNat 64 (2 ^ L - 1)).toNat < 2 ^ 64 := BitVec.isLt _
  have hw : u64andNot (a : Int) ((2 ^ L - 1 : Nat) : Int) = ((BitVec.ofNat 64 a &&& ~~~ BitVec.ofNat 64 (2 ^ L - 1)).toNat : Int) := by
    unfold u64andNot
    rw [BitVec.ofInt_natCast, BitVec.ofInt_natCast, wrap_u64]
    omega
  rw [hw]
  congr 1
  rw [eq_iff_iff, lt_pow_iff]
  have hb : ∀ i, (BitVec.ofNat 64 a &&& ~~~ BitVec.ofNat 64 (2 ^ L - 1)).toNat.testBit i = (decide (i < 64) && (a.testBit i && !decide (i < L))) := by
    intro i
    rw [BitVec.testBit_toNat, BitVec.getLsbD_and, BitVec.getLsbD_not, BitVec.getLsbD_ofNat, BitVec.getLsbD_ofNat, Nat.testBit_two_pow_sub_one]
    by_cases h1 : i < 64
    · simp [h1]
    · simp [h1]
  constructor
  · intro h i hi
    have h0 : (BitVec.ofNat 64 a &&& ~~~ BitVec.ofNat 64 (2 ^ L - 1)).toNat = 0 := by omega
    by_cases h1 : i < 64
    · have := hb i
      rw [h0] at this
      have hn : ¬ i < L := by omega
      simpa [h1, hn] using this.symm
    · exact lt64 ha (by omega)
  · intro h
    have h0 : (BitVec.ofNat 64 a &&& ~~~ BitVec.ofNat 64 (2 ^ L - 1)).toNat = 0 := by
      refine Nat.eq_of_testBit_eq fun i => ?_
      rw [hb i, Nat.zero_testBit]
      by_cases h1 : i < L
      · simp [h1]
      · simp [h i (by omega)]
    omega

/-- The bits p 0 .. p (k-1) put behind s, the highest first. -/
def dn (p : Nat → Bool) : Nat → Nat → Nat
  | 0, s => s
  | k + 1, s => dn p k (2 * s + (p k).toNat)
theorem dn_bit (p : Nat → Bool) : ∀ (k s i : Nat), (dn p k s).testBit i = if i < k then p i else s.testBit (i - k) := by
  intro k
  induction k with
  | zero => intro s i; simp [dn]
  | succ k ih =>
    intro s i
    rw [dn, ih]
    by_cases h1 : i < k
    · simp [h1, show i < k + 1 by omega]
    · by_cases h2 : i = k
      · subst h2
        simp only [Nat.lt_irrefl, if_false, Nat.sub_self, show i < i + 1 by omega, if_true, Nat.testBit_zero]
        cases p i <;> simp <;> omega
      · obtain ⟨j, rfl⟩ : ∃ j, i = k + 1 + j := ⟨i - (k + 1), by omega⟩
        have e1 : k + 1 + j - k = j + 1 := by omega
        have e2 : k + 1 + j - (k + 1) = j := by omega
        simp only [h1, if_false, show ¬ k + 1 + j < k + 1 by omega, e1, e2, Nat.testBit_succ]
        congr 1
        cases p k <;> simp <;> omega
theorem dn_lt (p : Nat → Bool) (k : Nat) : dn p k 0 < 2 ^ k := by
  rw [lt_pow_iff]
  intro i hi
  rw [dn_bit, if_neg (by omega)]
  simp
theorem dn_part (p : Nat → Bool) (k j : Nat) (h : j ≤ k) : ∀ s, dn p k s = dn p j (dn (fun i => p (i + j)) (k - j) s) := by
  induction k with
  | zero => intro s; obtain rfl : j = 0 := by omega
            simp [dn]
  | succ k ih =>
    intro s
    by_cases hj : j = k + 1
    · subst hj; simp [dn]
    · have : k + 1 - j = (k - j) + 1 := by omega
      rw [dn, ih (by omega), this, dn]
      have e : k - j + j = k := by omega
      simp only [e]

end Go.Abs
