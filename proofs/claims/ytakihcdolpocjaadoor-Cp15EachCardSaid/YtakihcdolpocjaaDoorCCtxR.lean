/- The Context of layer 8 (cp15), the document's. -/
import Derived.Test.YtakihcdolpocjaaDoorCCtx
namespace Go.Proofs.YtakihcdolpocjaaDoor
open Go.RowKit

set_option maxHeartbeats 6400000 in
set_option maxRecDepth 100000 in
theorem refContext_is (fb : Nat) (rs : List Int) (hok : RegsOk rs) (w : World) (h : IsFile w 68 fb rs) :
    Calls Tryd.prog 23 #[.pointer (some ⟨fb, 0, none⟩)] w fun e w' => e = .returned (.agg (ctxA rs)) ∧ Below w.heap.size w w' := by
  obtain ⟨n, hn⟩ : ∃ n, rg rs 3 % 8 = n := ⟨_, rfl⟩
  have q0 := hok.2 0 (by omega)
  have q1 := hok.2 1 (by omega)
  have q3 := hok.2 3 (by omega)
  have q2 := hok.2 2 (by omega)
  have q12 := hok.2 12 (by omega)
  have n0 : 0 ≤ n := by omega
  have n7 : n ≤ 7 := by omega
  have m0 : 0 ≤ 14 - n := by omega
  have m1 : 14 - n ≤ 64 := by omega
  have e3 : wrap64 (bits .and .u32 (rg rs 3) 7) = n := by rw [and_7 _ q3.1 q3.2]; rw [hn]; unfold wrap64; omega
  have e12 : wrap64 (bits .and .u32 (rg rs 12) 255) = rg rs 12 % 256 := by rw [and_255 _ q12.1 q12.2]; exact (by unfold wrap64; omega)
  have b0 := bit_eq _ 0 q0.1 q0.2
  have b1 := bit_eq _ 28 q0.1 q0.2
  have b2 := bit_eq _ 29 q0.1 q0.2
  have b3 := bit_eq _ 4 q3.1 q3.2
  have b4 := bit_eq _ 5 q3.1 q3.2
  have B0 := Lib.hid b0
  have B1 := Lib.hid b1
  have B2 := Lib.hid b2
  have B3 := Lib.hid b3
  have B4 := Lib.hid b4
  have HN := Lib.hid hn
  have E12 := Lib.hid e12
  have w1 := wrapk (14 - n) (by omega) (by omega)
  have w2 : IntKind.u64.wrap (14 - n) = 14 - n := by rw [IntKind.wrap_u64]; omega
  have c0 := h.cell 0 (by omega)
  have c1 := h.cell 1 (by omega)
  have c2 := h.cell 2 (by omega)
  have c3 := h.cell 3 (by omega)
  have c4 := h.cell 4 (by omega)
  have c10 := h.cell 10 (by omega)
  have c11 := h.cell 11 (by omega)
  have c12 := h.cell 12 (by omega)
  have hl := h.b.lt
  clear hn hok q0 q3 q12 e12 b0 b1 b2 b3 b4
  go_enter Tryd.func23, Tryd.ntmps23
  go_wp2_with fail
  simp only [List.append_eq, List.cons_append, List.nil_append]
  (refine wp_region_tail 70 (by kernel_rfl) (by kernel_rfl) ?_; simp only [List.take_succ_cons, List.take_zero, List.drop_succ_cons, List.drop_zero]; (repeat still_step); (try refine wpStill_nil ?_))
  go_wp2
  refine bodyPost_ret (v := .agg #[.bool (bits .and .u32 (rg rs 0) 1 == 1), .bool (bits .and .u32 (rg rs 0 / 268435456) 1 == 1), .bool (bits .and .u32 (rg rs 0 / 536870912) 1 == 1), .int .i64 n, .bool (bits .and .u32 (rg rs 3 / 16) 1 == 1), .bool (bits .and .u32 (rg rs 3 / 32) 1 == 1), .int .u64 (IntKind.u64.wrap (rg rs 1 / 2 ^ (14 - n).toNat * 2 ^ (14 - n).toNat)), .int .u64 (rg rs 2), .int .u32 (rg rs 4), .int .u32 (rg rs 10), .int .u32 (rg rs 11), .int .i64 (wrap64 (bits .and .u32 (rg rs 12) 255))]) (by simp [results, Tryd.results23, go_sem]) rfl ⟨?_, bdrew ((Below.refl _ _).alloc (Nat.le_refl _) _)⟩
  have g0 : (bits .and .u32 (rg rs 0) 1 == 1) = bitB (rg rs 0) 0 := by rw [← B0.out]; first | rfl | simp
  have g1 : (bits .and .u32 (rg rs 0 / 268435456) 1 == 1) = bitB (rg rs 0) 28 := by rw [← B1.out]; first | rfl | simp
  have g2 : (bits .and .u32 (rg rs 0 / 536870912) 1 == 1) = bitB (rg rs 0) 29 := by rw [← B2.out]; first | rfl | simp
  have g3 : (bits .and .u32 (rg rs 3 / 16) 1 == 1) = bitB (rg rs 3) 4 := by rw [← B3.out]; first | rfl | simp
  have g4 : (bits .and .u32 (rg rs 3 / 32) 1 == 1) = bitB (rg rs 3) 5 := by rw [← B4.out]; first | rfl | simp
  have g5 : IntKind.u64.wrap (rg rs 1 / 2 ^ (14 - n).toNat * 2 ^ (14 - n).toNat) = base0 (rg rs 1) n := base0_wrap _ n q1.1 q1.2
  rw [E12.out, g0, g1, g2, g3, g4, g5]
  unfold ctxA
  rw [HN.out]
end Go.Proofs.YtakihcdolpocjaaDoor
