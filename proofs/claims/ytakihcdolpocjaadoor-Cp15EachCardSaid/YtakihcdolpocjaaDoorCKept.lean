/- Plain words of layer 8: what is kept stays kept. -/
import Derived.Test.YtakihcdolpocjaaDoorCFile
import Derived.Test.YtakihcdolpocjaaDoorCBits
namespace Go.Proofs.YtakihcdolpocjaaDoor
open Go.RowKit

theorem kept_b (k : Nat) (hk : k < 13) : 0 ≤ keptOf k ∧ keptOf k ≤ 4294967295 := by
  obtain rfl | rfl | rfl | rfl | rfl | rfl | rfl | rfl | rfl | rfl | rfl | rfl | rfl : k = 0 ∨ k = 1 ∨ k = 2 ∨ k = 3 ∨ k = 4 ∨ k = 5 ∨ k = 6 ∨ k = 7 ∨ k = 8 ∨ k = 9 ∨ k = 10 ∨ k = 11 ∨ k = 12 := by omega
  all_goals decide
theorem keep_idem (k : Nat) (hk : k < 13) (v : Int) (h0 : 0 ≤ v) (h1 : v ≤ 4294967295) : keep k (keep k v) = keep k v :=
  (and_and v (keptOf k) h0 h1 (kept_b k hk).1 (kept_b k hk).2).1
/-- each register holds kept bits alone -/
def Kept (rs : List Int) : Prop := ∀ k, k < 13 → keep k (rg rs k) = rg rs k
theorem startKept : Kept startL := fun k hk => by
  obtain rfl | rfl | rfl | rfl | rfl | rfl | rfl | rfl | rfl | rfl | rfl | rfl | rfl : k = 0 ∨ k = 1 ∨ k = 2 ∨ k = 3 ∨ k = 4 ∨ k = 5 ∨ k = 6 ∨ k = 7 ∨ k = 8 ∨ k = 9 ∨ k = 10 ∨ k = 11 ∨ k = 12 := by omega
  all_goals decide +kernel
end Go.Proofs.YtakihcdolpocjaaDoor
