/- Plain words of layer 8 (cp15): the registers' tuples, their kept bits, what they hold at the start. No program is in sight here. -/
import Derived.RowKit
namespace Go.Proofs.Ytakihcdolpocjaa

structure Tup where
  crn : Int
  op1 : Int
  crm : Int
  op2 : Int
def Tup.eqB (a b : Tup) : Bool := decide (a.crn = b.crn) && decide (a.op1 = b.op1) && decide (a.crm = b.crm) && decide (a.op2 = b.op2)
theorem Tup.eqB_iff (a b : Tup) : a.eqB b = true ↔ a = b := by
  constructor
  · intro h
    cases a; cases b
    simp only [Tup.eqB, Bool.and_eq_true, decide_eq_true_eq] at h
    obtain ⟨⟨⟨rfl, rfl⟩, rfl⟩, rfl⟩ := h
    rfl
  · rintro rfl; simp [Tup.eqB]
structure Tup.Ok (t : Tup) : Prop where
  a0 : -9223372036854775808 ≤ t.crn
  a1 : t.crn ≤ 9223372036854775807
  b0 : -9223372036854775808 ≤ t.op1
  b1 : t.op1 ≤ 9223372036854775807
  c0 : -9223372036854775808 ≤ t.crm
  c1 : t.crm ≤ 9223372036854775807
  d0 : -9223372036854775808 ≤ t.op2
  d1 : t.op2 ≤ 9223372036854775807
def ztup : Tup := ⟨0, 0, 0, 0⟩
def tupL : List Tup := [⟨1, 0, 0, 0⟩, ⟨2, 0, 0, 0⟩, ⟨2, 0, 0, 1⟩, ⟨2, 0, 0, 2⟩, ⟨3, 0, 0, 0⟩, ⟨5, 0, 0, 0⟩, ⟨5, 0, 0, 1⟩, ⟨6, 0, 0, 0⟩, ⟨6, 0, 0, 2⟩, ⟨7, 0, 4, 0⟩, ⟨10, 0, 2, 0⟩, ⟨10, 0, 2, 1⟩, ⟨13, 0, 0, 1⟩]
def keptL : List Int := [805306369, 4294967168, 4294950912, 55, 4294967295, 7423, 5135, 4294967295, 4294967295, 4294967295, 4279238655, 4294967295, 4294967295]
def startL : List Int := [0, 0, 0, 0, 0, 0, 0, 0, 0, 0, 625316, 1155549408, 0]
def tupOf (k : Nat) : Tup := tupL.getD k ztup
def keptOf (k : Nat) : Int := keptL.getD k 0
def startOf (k : Nat) : Int := startL.getD k 0
/-- the first register from k on whose tuple it is -/
def regFrom (t : Tup) (k : Nat) : Nat → Option Nat
  | 0 => none
  | n + 1 => if (tupOf k).eqB t = true then some k else regFrom t (k + 1) n
def regOf (t : Tup) : Option Nat := regFrom t 0 13
theorem regFrom_lt (t : Tup) : ∀ (n k i : Nat), regFrom t k n = some i → k ≤ i ∧ i < k + n ∧ (tupOf i).eqB t = true := by
  intro n
  induction n with
  | zero => intro k i h; cases h
  | succ n ih =>
    intro k i h
    unfold regFrom at h
    split at h
    · cases h; rename_i hh; exact ⟨Nat.le_refl _, by omega, hh⟩
    · have := ih _ _ h; exact ⟨by omega, by omega, this.2.2⟩
theorem regOf_lt {t : Tup} {i : Nat} (h : regOf t = some i) : i < 13 := by have := regFrom_lt t _ _ _ h; omega
theorem regOf_eq {t : Tup} {i : Nat} (h : regOf t = some i) : tupOf i = t := (Tup.eqB_iff _ _).1 (regFrom_lt t _ _ _ h).2.2
def NotTo (t : Tup) (k : Nat) : Prop := regOf t = regFrom t k (13 - k)
theorem notTo_zero (t : Tup) : NotTo t 0 := rfl
theorem notTo_next {t : Tup} {k : Nat} (h : NotTo t k) (hk : k < 13) (hn : (tupOf k).eqB t = false) : NotTo t (k + 1) := by
  unfold NotTo at *
  rw [h]
  obtain ⟨m, hm⟩ : ∃ m, 13 - k = m + 1 := ⟨12 - k, by omega⟩
  rw [hm]
  have : 13 - (k + 1) = m := by omega
  rw [this]
  show (if (tupOf k).eqB t = true then some k else regFrom t (k + 1) m) = regFrom t (k + 1) m
  rw [if_neg (by simp [hn])]
theorem notTo_at {t : Tup} {k : Nat} (h : NotTo t k) (hk : k < 13) (hn : (tupOf k).eqB t = true) : regOf t = some k := by
  unfold NotTo at h
  rw [h]
  obtain ⟨m, hm⟩ : ∃ m, 13 - k = m + 1 := ⟨12 - k, by omega⟩
  rw [hm]
  show (if (tupOf k).eqB t = true then some k else regFrom t (k + 1) m) = some k
  rw [if_pos hn]
theorem notTo_end {t : Tup} (h : NotTo t 13) : regOf t = none := h
end Go.Proofs.Ytakihcdolpocjaa
