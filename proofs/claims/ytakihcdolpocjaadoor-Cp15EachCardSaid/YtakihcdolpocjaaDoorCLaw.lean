/- The walks of the laws of layer 8 against the document: alike, asked. -/
import Derived.Test.YtakihcdolpocjaaDoorCAct
import Derived.Test.YtakihcdolpocjaaDoorCRules
import Derived.Test.YtakihcdolpocjaaDoorCCtxR
namespace Go.Proofs.YtakihcdolpocjaaDoor
open Go.RowKit

theorem no8_is (x : Int) (w : World) : Calls Tryd.prog 16 #[.int .i64 x] w fun e w' => e = .returned (.int .i64 x) ∧ w = w' := by
  go_enter Tryd.func16, Tryd.ntmps16
  go_wp2
  go_ret
  exact ⟨rfl, rfl⟩
theorem eql_ctx_self (a b c d e : Bool) (n : Int) (x y : Int) (p q r s : Int) (w : World) : (binOp .eql 59 (.agg #[.bool a, .bool b, .bool c, .int .i64 n, .bool d, .bool e, .int .u64 x, .int .u64 y, .int .u32 p, .int .u32 q, .int .u32 r, .int .i64 s]) (.agg #[.bool a, .bool b, .bool c, .int .i64 n, .bool d, .bool e, .int .u64 x, .int .u64 y, .int .u32 p, .int .u32 q, .int .u32 r, .int .i64 s])).run Tryd.prog w = .ok (.bool true) w := by
  have h : (Op.equalIn (9995 + 5) 59 (.agg #[.bool a, .bool b, .bool c, .int .i64 n, .bool d, .bool e, .int .u64 x, .int .u64 y, .int .u32 p, .int .u32 q, .int .u32 r, .int .i64 s]) (.agg #[.bool a, .bool b, .bool c, .int .i64 n, .bool d, .bool e, .int .u64 x, .int .u64 y, .int .u32 p, .int .u32 q, .int .u32 r, .int .i64 s])).run Tryd.prog w = .ok true w := by simp [go_sem]
  rw [run_eql_struct, h]; rfl
theorem eql_ctx (rs : List Int) (w : World) : (binOp .eql 59 (.agg (ctxA rs)) (.agg (ctxA rs))).run Tryd.prog w = .ok (.bool true) w := eql_ctx_self _ _ _ _ _ _ _ _ _ _ _ _ w
set_option maxHeartbeats 3200000 in
set_option maxRecDepth 100000 in
theorem alike_is (fb rb : Nat) (rs : List Int) (hok : RegsOk rs) (w : World) (hF : IsFile w 63 fb rs) (hR : IsFile w 68 rb rs) :
    Calls Tryd.prog 11 #[.pointer (some ⟨fb, 0, none⟩), .pointer (some ⟨rb, 0, none⟩)] w fun e w' => e = .returned (.bool true) ∧ Below w.heap.size w w' := by
  have CX := Lib.hid (fun W hW => Context_is fb rs hok W hW)
  have RX := Lib.hid (fun W hW => refContext_is rb rs hok W hW)
  have heq := eql_ctx rs
  go_enter Tryd.func11, Tryd.ntmps11
  go_wp2
  go_loopw [5] (fun v5 wr => ∃ k : Nat, k ≤ 13 ∧ v5 = .int .i64 k ∧ wr = w) (fun v5 _ => 13 - (intOf v5).toNat)
  case atStart => exact ⟨0, Nat.zero_le _, rfl, rfl⟩
  case round =>
    obtain ⟨k, hk, rfl, rfl⟩ := hrel
    by_cases hlt : k < 13
    · have c := hR.cell k hlt
      have i0 : (0 : Int) ≤ ↑k := by omega
      have i1 : (↑k : Int) < 13 := by omega
      have GT := Lib.hid (Get_yes 63 fb rs k hlt wr hF)
      go_wp2_with (first
        | (go_at_call 18; refine GT.out.mono ?_; rintro e w1 ⟨rfl, rfl⟩)
        | (go_at_call 16; refine (no8_is _ _).mono ?_; rintro e w1 ⟨rfl, rfl⟩))
      go_roundw
      case rel => exact ⟨k + 1, by omega, by go_num, by first | rfl | trivial⟩
      case measure => simp [intOf]; omega
    · go_wp2_with (first
        | (go_at_call 23; refine (RX.out _ (hR.below hB1)).mono ?_; rintro e w2 ⟨rfl, hB2⟩)
        | (go_at_call 22; refine (CX.out _ hF).mono ?_; rintro e w1 ⟨rfl, hB1⟩))
      go_ret
      exact ⟨rfl, bthen hB1 hB2⟩
end Go.Proofs.YtakihcdolpocjaaDoor
