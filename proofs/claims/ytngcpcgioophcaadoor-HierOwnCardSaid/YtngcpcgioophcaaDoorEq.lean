/- '==' of two blocks, of two places, of two droppings: one Bool. -/
import Derived.Test.YtngcpcgioophcaaDoorSlots
import Derived.Laws.StructEq
namespace Go.Proofs.YtngcpcgioophcaaDoor
open Go.RowKit

set_option maxHeartbeats 1600000 in
theorem eqIn_blk (d : Nat) (b c : Blk) (w : World) : (Op.equalIn (d + 5) 29 (.agg #[.int .i64 b.asid, .int .i64 b.size, .int .u32 b.va, .int .u64 b.pa, .int .i64 b.dom, .int .i64 b.ap, .int .u32 b.bits, .bool b.ng, .bool b.xn]) (.agg #[.int .i64 c.asid, .int .i64 c.size, .int .u32 c.va, .int .u64 c.pa, .int .i64 c.dom, .int .i64 c.ap, .int .u32 c.bits, .bool c.ng, .bool c.xn])).run Tryd.prog w = .ok (b.eqB c) w := by
  unfold Blk.eqB
  by_cases h0 : b.asid = c.asid
  case neg => simp [go_sem, h0]
  by_cases h1 : b.size = c.size
  case neg => simp [go_sem, h0, h1]
  by_cases h2 : b.va = c.va
  case neg => simp [go_sem, h0, h1, h2]
  by_cases h3 : b.pa = c.pa
  case neg => simp [go_sem, h0, h1, h2, h3]
  by_cases h4 : b.dom = c.dom
  case neg => simp [go_sem, h0, h1, h2, h3, h4]
  by_cases h5 : b.ap = c.ap
  case neg => simp [go_sem, h0, h1, h2, h3, h4, h5]
  by_cases h6 : b.bits = c.bits
  case neg => simp [go_sem, h0, h1, h2, h3, h4, h5, h6]
  by_cases h7 : b.ng = c.ng
  case neg => simp [go_sem, h0, h1, h2, h3, h4, h5, h6, h7]
  by_cases h8 : b.xn = c.xn
  case neg => simp [go_sem, h0, h1, h2, h3, h4, h5, h6, h7, h8]
  simp [go_sem, h0, h1, h2, h3, h4, h5, h6, h7, h8]
theorem eql_blk (b c : Blk) (w : World) : (binOp .eql 29 (.agg #[.int .i64 b.asid, .int .i64 b.size, .int .u32 b.va, .int .u64 b.pa, .int .i64 b.dom, .int .i64 b.ap, .int .u32 b.bits, .bool b.ng, .bool b.xn]) (.agg #[.int .i64 c.asid, .int .i64 c.size, .int .u32 c.va, .int .u64 c.pa, .int .i64 c.dom, .int .i64 c.ap, .int .u32 c.bits, .bool c.ng, .bool c.xn])).run Tryd.prog w = .ok (.bool (b.eqB c)) w := by
  rw [run_eql_struct, eqIn_blk 9995]; rfl
theorem neq_blk (b c : Blk) (w : World) : (binOp .neq 29 (.agg #[.int .i64 b.asid, .int .i64 b.size, .int .u32 b.va, .int .u64 b.pa, .int .i64 b.dom, .int .i64 b.ap, .int .u32 b.bits, .bool b.ng, .bool b.xn]) (.agg #[.int .i64 c.asid, .int .i64 c.size, .int .u32 c.va, .int .u64 c.pa, .int .i64 c.dom, .int .i64 c.ap, .int .u32 c.bits, .bool c.ng, .bool c.xn])).run Tryd.prog w = .ok (.bool (!(b.eqB c))) w := by
  rw [run_neq_struct, eqIn_blk 9995]; rfl
end Go.Proofs.YtngcpcgioophcaaDoor
