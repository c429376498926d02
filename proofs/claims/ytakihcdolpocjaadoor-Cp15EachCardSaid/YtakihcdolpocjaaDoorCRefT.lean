/- The document's tuple of a register (atlasref08.tuple). -/
import Derived.Test.YtakihcdolpocjaaDoorCRefTa
import Derived.Test.YtakihcdolpocjaaDoorCRefTb
namespace Go.Proofs.YtakihcdolpocjaaDoor
open Go.RowKit

theorem refTuple_is (k : Nat) (hk : k < 13) (w : World) : Calls Tryd.prog 35 #[.int .i64 k] w fun e w' => e = .returned (.agg #[.int .i64 (tupOf k).crn, .int .i64 (tupOf k).op1, .int .i64 (tupOf k).crm, .int .i64 (tupOf k).op2]) ∧ Below w.heap.size w w' := by
  obtain rfl | rfl | rfl | rfl | rfl | rfl | rfl | rfl | rfl | rfl | rfl | rfl | rfl : k = 0 ∨ k = 1 ∨ k = 2 ∨ k = 3 ∨ k = 4 ∨ k = 5 ∨ k = 6 ∨ k = 7 ∨ k = 8 ∨ k = 9 ∨ k = 10 ∨ k = 11 ∨ k = 12 := by omega
  · exact refTuple_0 w
  · exact refTuple_1 w
  · exact refTuple_2 w
  · exact refTuple_3 w
  · exact refTuple_4 w
  · exact refTuple_5 w
  · exact refTuple_6 w
  · exact refTuple_7 w
  · exact refTuple_8 w
  · exact refTuple_9 w
  · exact refTuple_10 w
  · exact refTuple_11 w
  · exact refTuple_12 w
end Go.Proofs.YtakihcdolpocjaaDoor
