/- Words of 32 bits: what is kept of a word, its upper and its lower bits. No program is in sight here. -/
import Derived.Test.YtakihcdolpocjaaDoorCPlain
import Derived.Laws.BitsLemmas
import Derived.WalkKit
namespace Go.Proofs.YtakihcdolpocjaaDoor
open Go.RowKit

theorem testBit_hi (s : Nat) (hs : s ≤ 32) (i : Nat) : (2 ^ 32 - 2 ^ s).testBit i = (decide (s ≤ i) && decide (i < 32)) := by
  have e : 2 ^ 32 - 2 ^ s = (2 ^ (32 - s) - 1) <<< s := by
    rw [Nat.shiftLeft_eq, Nat.sub_mul, ← Nat.pow_add, Nat.one_mul]
    congr 2; omega
  rw [e, Nat.testBit_shiftLeft, Nat.testBit_two_pow_sub_one]
  by_cases h : s ≤ i
  · have : decide (i - s < 32 - s) = decide (i < 32) := by congr 1; apply propext; omega
    simp [h, this]
  · simp [h]
theorem and_hi (s : Nat) (hs : s ≤ 32) (n : Nat) (hn : n < 2 ^ 32) : n &&& (2 ^ 32 - 2 ^ s) = n / 2 ^ s * 2 ^ s := by
  apply Nat.eq_of_testBit_eq
  intro i
  rw [Nat.testBit_and, testBit_hi s hs i, ← Nat.shiftRight_eq_div_pow, ← Nat.shiftLeft_eq, Nat.testBit_shiftLeft, Nat.testBit_shiftRight]
  by_cases h : s ≤ i
  · have e : s + (i - s) = i := by omega
    by_cases h2 : i < 32
    · simp [h, h2, e]
    · have : n.testBit i = false := Nat.testBit_lt_two_pow (Nat.lt_of_lt_of_le hn (Nat.pow_le_pow_right (by decide) (by omega)))
      simp [h, this, e]
  · simp [h]
theorem wrap32 (n : Int) (h0 : 0 ≤ n) (h1 : n < 4294967296) : IntKind.u32.wrap n = n := by rw [IntKind.wrap_u32]; omega
theorem andNot_hi (s : Nat) (hs : s ≤ 32) (n : Nat) (hn : n < 2 ^ 32) : bits .andNot .u32 (n : Int) ((2 ^ s - 1 : Nat) : Int) = ((n / 2 ^ s * 2 ^ s : Nat) : Int) := by
  have h2 : 2 ^ s ≤ 2 ^ 32 := Nat.pow_le_pow_right (by decide) hs
  have h3 := Nat.two_pow_pos s
  have e1 : n % 2 ^ 32 = n := Nat.mod_eq_of_lt hn
  have e2 : (2 ^ s - 1) % 2 ^ 32 = 2 ^ s - 1 := Nat.mod_eq_of_lt (by omega)
  have e3 : 2 ^ 32 - 1 - (2 ^ s - 1) = 2 ^ 32 - 2 ^ s := by omega
  have hk : IntKind.u32.bits = 32 := rfl
  simp only [bits, hk, BitVec.ofInt_natCast, BitVec.toNat_and, BitVec.toNat_not, BitVec.toNat_ofNat, e1, e2, e3, and_hi s hs n hn]
  have := Nat.div_mul_le_self n (2 ^ s)
  exact wrap32 _ (by omega) (by omega)
theorem hi_12 (v : Int) (h0 : 0 ≤ v) (h1 : v ≤ 4294967295) : bits .andNot .u32 v 4095 = v / 4096 * 4096 % 4294967296 := by
  obtain ⟨n, rfl⟩ := Int.eq_ofNat_of_zero_le h0
  have := andNot_hi 12 (by omega) n (by omega)
  have e : ((2 ^ 12 - 1 : Nat) : Int) = 4095 := by decide
  rw [e] at this
  rw [this]
  have e2 : (2 : Nat) ^ 12 = 4096 := by decide
  rw [e2]
  omega
theorem and_lo (i : Nat) (hi : i ≤ 32) (v : Int) (h0 : 0 ≤ v) (h1 : v < 2 ^ 32) : bits .and .u32 v (2 ^ i - 1) = v % 2 ^ i :=
  bits_mask .u32 32 (by decide) (fun n h0 h1 => wrap32 n h0 (by simpa using h1)) i hi v h0 h1
theorem and_255 (v : Int) (h0 : 0 ≤ v) (h1 : v ≤ 4294967295) : bits .and .u32 v 255 = v % 256 := and_lo 8 (by decide) v h0 (by simp; omega)
theorem and_7 (v : Int) (h0 : 0 ≤ v) (h1 : v ≤ 4294967295) : bits .and .u32 v 7 = v % 8 := and_lo 3 (by decide) v h0 (by simp; omega)
theorem and_1 (v : Int) (h0 : 0 ≤ v) (h1 : v ≤ 4294967295) : bits .and .u32 v 1 = v % 2 := and_lo 1 (by decide) v h0 (by simp; omega)
theorem and_nat (a b : Nat) (ha : a < 2 ^ 32) (hb : b < 2 ^ 32) : bits .and .u32 a b = ((a &&& b : Nat) : Int) :=
  (bits_nat .u32 32 (by decide) (fun n h0 h1 => wrap32 n h0 (by simpa using h1)) a b ha hb).1
/-- what is kept of a word is kept of it again -/
theorem and_and (a b : Int) (ha : 0 ≤ a) (ha1 : a ≤ 4294967295) (hb : 0 ≤ b) (hb1 : b ≤ 4294967295) : bits .and .u32 (bits .and .u32 a b) b = bits .and .u32 a b ∧ bits .and .u32 (bits .and .u32 a b) a = bits .and .u32 a b ∧ 0 ≤ bits .and .u32 a b ∧ bits .and .u32 a b ≤ 4294967295 := by
  obtain ⟨m, rfl⟩ := Int.eq_ofNat_of_zero_le ha
  obtain ⟨n, rfl⟩ := Int.eq_ofNat_of_zero_le hb
  have h1 : m < 2 ^ 32 := by omega
  have h2 : n < 2 ^ 32 := by omega
  have h3 : m &&& n < 2 ^ 32 := Nat.and_lt_two_pow _ h2
  rw [and_nat m n h1 h2, and_nat _ n h3 h2, and_nat _ m h3 h1]
  refine ⟨by rw [Nat.and_assoc, Nat.and_self], by rw [Nat.and_comm m n, Nat.and_assoc, Nat.and_self], by omega, by omega⟩
end Go.Proofs.YtakihcdolpocjaaDoor
