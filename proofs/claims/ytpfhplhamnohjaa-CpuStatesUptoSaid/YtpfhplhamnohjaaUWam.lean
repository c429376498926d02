/- Layer 20: the room that a step takes. -/
import Derived.Test.YtpfhplhamnohjaaG17
namespace Go.Proofs.Ytpfhplhamnohjaa
open Go.RowKit

section
variable {T : TypeId} {V : Value} {M : Type} {I : M → (Nat → Prop) → World → Prop} {F : BusM M} {fA fC fR : Nat} (L : BusLaw T V I F fA fC fR)
include L
theorem mrun_fuelE (m : M) (o : Sta) (at_ : Int) (i : Ins) : ∀ k e, mrun F m o at_ i k = .error e → F.fuel m ≤ F.fuel e.1 + k
  | 0, e, h => by cases h
  | k + 1, e, h => by
    unfold mrun at h
    cases q : mrun F m o at_ i k with
    | error e1 =>
      rw [q] at h
      have ih := mrun_fuelE m o at_ i k e1 q
      rw [← Except.error.inj h]; omega
    | ok s1 =>
      rw [q] at h
      have ih := mrun_fuel L m o at_ i k s1 q
      dsimp only at h
      unfold mstep at h
      by_cases hz : bt16 i.list k = 0
      · rw [if_pos hz] at h; cases h
      rw [if_neg hz] at h
      dsimp only at h
      by_cases ho : (F.acc s1.1 (if i.op = 39 then 2 else 3) s1.2.1 4 (if i.op = 39 then 0 else getI o at_ k) (!userB o)).2.ok = true
      · rw [if_pos ho] at h; cases h
      · rw [if_neg ho] at h
        rw [← Except.error.inj h]
        have := L.spent s1.1 (if i.op = 39 then 2 else 3) s1.2.1 4 (if i.op = 39 then 0 else getI o at_ k) (!userB o)
        dsimp only
        omega
theorem exec_fuel (m : M) (o s : Sta) (at_ : Int) (i : Ins) : F.fuel m ≤ F.fuel (execO F m o s at_ i).1 + 16 := by
  unfold execO
  by_cases h16 : i.op ≤ 16
  · rw [if_pos h16]
    exact Nat.le_add_right _ _
  rw [if_neg h16]
  by_cases h18 : i.op ≤ 18
  · rw [if_pos h18]
    exact Nat.le_add_right _ _
  rw [if_neg h18]
  by_cases h24 : i.op ≤ 24
  · rw [if_pos h24]
    exact Nat.le_add_right _ _
  rw [if_neg h24]
  by_cases h30 : i.op ≤ 30
  · rw [if_pos h30]
    exact Nat.le_add_right _ _
  rw [if_neg h30]
  by_cases h38 : i.op ≤ 38
  · rw [if_pos h38]
    have : F.fuel m ≤ F.fuel (oneR F m o at_ i).1 + 1 := by
      unfold oneR
      exact L.spent _ _ _ _ _ _
    exact Nat.le_trans this (Nat.add_le_add_left (by omega) _)
  rw [if_neg h38]
  by_cases h40 : i.op ≤ 40
  · rw [if_pos h40]
    unfold manyO
    cases q : mrun F m o at_ i 16 with
    | error e => exact mrun_fuelE L m o at_ i 16 e q
    | ok st => exact mrun_fuel L m o at_ i 16 st q
  rw [if_neg h40]
  by_cases h44 : i.op ≤ 44
  · rw [if_pos h44]
    exact Nat.le_add_right _ _
  rw [if_neg h44]
  by_cases h46 : i.op ≤ 46
  · rw [if_pos h46]
    exact Nat.le_add_right _ _
  rw [if_neg h46]
  by_cases h48 : i.op ≤ 48
  · rw [if_pos h48]
    exact Nat.le_add_right _ _
  rw [if_neg h48]
  by_cases h49 : i.op = 49
  · rw [if_pos h49]
    exact Nat.le_trans (L.spentC m i (getI o at_ i.rd) (userB o)) (Nat.add_le_add_left (by omega) _)
  rw [if_neg h49]
  by_cases h50 : i.op = 50
  · rw [if_pos h50]
    exact Nat.le_trans (L.spentR m i (userB o)) (Nat.add_le_add_left (by omega) _)
  rw [if_neg h50]
  exact Nat.le_add_right _ _
theorem step_fuel (m : M) (s : Sta) (on : Bool) : F.fuel m ≤ F.fuel (stepO F m s on).1 + 17 := by
  have h1 := L.spent m 1 (s 28) 4 0 (!userB s)
  unfold stepO
  split
  · exact Nat.le_add_right _ _
  dsimp only
  split
  · dsimp only; omega
  unfold tookO
  split; · dsimp only; omega
  split; · dsimp only; omega
  split; · dsimp only; omega
  split; · dsimp only; omega
  split; · dsimp only; omega
  have h2 := exec_fuel L (F.acc m 1 (s 28) 4 0 (!userB s)).1 s (set s 28 ((s 28 + 4) % 4294967296)) (s 28) (decodeI (F.acc m 1 (s 28) 4 0 (!userB s)).2.val).1
  dsimp only
  omega
end
theorem line_fuel (m : LineM) (s : Sta) (on : Bool) : m.room ≤ (stepO lineF m s on).1.room + 17 := step_fuel (lineBus 0) m s on
theorem line_okS (m : LineM) (s : Sta) (on : Bool) (hs : OkS s) : OkS (stepO lineF m s on).2.1 := step_okS lineF (lineBus 0).val (lineBus 0).got m s on hs
end Go.Proofs.Ytpfhplhamnohjaa
