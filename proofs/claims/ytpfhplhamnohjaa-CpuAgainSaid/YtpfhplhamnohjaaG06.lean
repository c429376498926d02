/- Layer 18: Shift. Layer 18: Decode of shifts; the small words. -/
import Derived.Test.YtpfhplhamnohjaaG04
namespace Go.Proofs.Ytpfhplhamnohjaa
set_option maxHeartbeats 25600000
set_option maxRecDepth 100000
open Go.RowKit

def capI (n m : Int) : Int := if n ≤ m then n else m
def shiftI (k x n : Int) (c : Bool) : Int × Bool :=
  if k = 4 then (if c then bits .or .u32 (x / 2) 2147483648 else x / 2, bits .and .u32 x 1 == 1)
  else if n = 0 then (x, c)
  else if k = 0 then (IntKind.u64.wrap (x * 2 ^ (capI n 33).toNat) % 4294967296, bits .and .u64 (IntKind.u64.wrap (x * 2 ^ (capI n 33).toNat) / 4294967296) 1 == 1)
  else if k = 1 then (x * 2 / 2 ^ (capI n 33).toNat / 2 % 4294967296, bits .and .u64 (x * 2 / 2 ^ (capI n 33).toNat) 1 == 1)
  else if k = 2 then (wrap64 (wrap64 (wrap32 x) * 2) / 2 ^ (capI n 32).toNat / 2 % 4294967296, bits .and .i64 (wrap64 (wrap64 (wrap32 x) * 2) / 2 ^ (capI n 32).toNat) 1 == 1)
  else (rotW x (-n), rotW x (-n) / 2147483648 == 1)
theorem ret_ib {a b : Int} {p q : Bool} (h : (a, p) = (b, q)) : Ending.returned (.tuple #[.int .u32 a, .bool p]) = .returned (.tuple #[.int .u32 b, .bool q]) := by injection h with h1 h2; rw [h1, h2]
theorem Shift_is (k x n : Int) (c : Bool) (hk : 0 ≤ k ∧ k < 5) (hx : 0 ≤ x ∧ x < 4294967296) (hn : 0 ≤ n ∧ n < 256) (W : World) :
    Calls Try.prog 78 #[.int .i64 k, .int .u32 x, .int .i64 n, .bool c] W fun e w' => e = .returned (.tuple #[.int .u32 (shiftI k x n c).1, .bool (shiftI k x n c).2]) ∧ ∃ j, w' = W.drewN j := by
  have m : bits .and .i64 n 255 = n := by
    have h := bits_mask .i64 63 (by decide) (fun v h0 h1 => by rw [IntKind.wrap_i64]; simp at h1; omega) 8 (by decide) n hn.1 (by simp; omega)
    simpa [show n % 256 = n by omega] using h
  obtain ⟨hx0, hx1⟩ := hx
  obtain ⟨hn0, hn1⟩ := hn
  have HE := Lib.hid (rfl : shiftI k x n c = shiftI k x n c)
  generalize hr : shiftI k x n c = r at HE ⊢
  obtain ⟨rv, rc⟩ := r
  have HR := Lib.hid hr
  clear hr HE
  have hk5 : k = 0 ∨ k = 1 ∨ k = 2 ∨ k = 3 ∨ k = 4 := by omega
  clear hk
  by_cases h4 : k = 4
  · subst h4
    cases c
    all_goals
      go_enter Try.func78, Try.ntmps78
      go_wp2
      go_ret2
      exact ⟨ret_ib HR.out, 0, rfl⟩
  by_cases h0 : n = 0
  · subst h0
    have HQ := Lib.hid (show (x, c) = (rv, rc) by rw [← HR.out]; unfold shiftI; rw [if_neg h4, if_pos rfl])
    have z : (k == 4) = false := by simp [h4]
    clear HR h4 hk5
    go_enter Try.func78, Try.ntmps78
    go_wp2
    go_ret2
    exact ⟨ret_ib HQ.out, 0, rfl⟩
  have z : (n == 0) = false := by simp; omega
  have U := HR.out
  unfold shiftI at U
  rw [if_neg h4, if_neg h0] at U
  clear HR
  rcases hk5 with rfl | rfl | rfl | rfl | rfl
  · rw [if_pos rfl] at U
    have U1 := Lib.hid (fun (h : n ≤ 33) => show (IntKind.u64.wrap (x * 2 ^ n.toNat) % 4294967296, bits .and .u64 (IntKind.u64.wrap (x * 2 ^ n.toNat) / 4294967296) 1 == 1) = (rv, rc) by rw [← U]; simp [capI, h])
    have U2 := Lib.hid (fun (h : ¬ n ≤ 33) => show (IntKind.u64.wrap (x * 8589934592) % 4294967296, bits .and .u64 (IntKind.u64.wrap (x * 8589934592) / 4294967296) 1 == 1) = (rv, rc) by rw [← U]; simp [capI, h])
    clear U
    go_enter Try.func78, Try.ntmps78
    go_wp2
    go_quiet (fail)
    go_wp2
    all_goals
      go_ret2
      exact ⟨ret_ib (by first | exact U1.out (by omega) | exact U2.out (by omega)), _, rfl⟩
  · rw [if_neg (by decide), if_pos rfl] at U
    have U1 := Lib.hid (fun (h : n ≤ 33) => show (x * 2 / 2 ^ n.toNat / 2 % 4294967296, bits .and .u64 (x * 2 / 2 ^ n.toNat) 1 == 1) = (rv, rc) by rw [← U]; simp [capI, h])
    have U2 := Lib.hid (fun (h : ¬ n ≤ 33) => show (x * 2 / 8589934592 / 2 % 4294967296, bits .and .u64 (x * 2 / 8589934592) 1 == 1) = (rv, rc) by rw [← U]; simp [capI, h])
    clear U
    go_enter Try.func78, Try.ntmps78
    go_wp2
    all_goals
      go_ret2
      exact ⟨ret_ib (by first | exact U1.out (by omega) | exact U2.out (by omega)), 0, rfl⟩
  · rw [if_neg (by decide), if_neg (by decide), if_pos rfl] at U
    have U1 := Lib.hid (fun (h : n ≤ 32) => show (wrap64 (wrap64 (wrap32 x) * 2) / 2 ^ n.toNat / 2 % 4294967296, bits .and .i64 (wrap64 (wrap64 (wrap32 x) * 2) / 2 ^ n.toNat) 1 == 1) = (rv, rc) by rw [← U]; simp [capI, h])
    have U2 := Lib.hid (fun (h : ¬ n ≤ 32) => show (wrap64 (wrap64 (wrap32 x) * 2) / 4294967296 / 2 % 4294967296, bits .and .i64 (wrap64 (wrap64 (wrap32 x) * 2) / 4294967296) 1 == 1) = (rv, rc) by rw [← U]; simp [capI, h])
    clear U
    go_enter Try.func78, Try.ntmps78
    go_wp2
    all_goals
      go_ret2
      exact ⟨ret_ib (by first | exact U1.out (by omega) | exact U2.out (by omega)), 0, rfl⟩
  · rw [if_neg (by decide), if_neg (by decide), if_neg (by decide)] at U
    have R := Lib.hid (fun W => Rot_is x (-n) W)
    generalize rotW x (-n) = r at U R
    have HU := Lib.hid U
    clear U
    go_enter Try.func78, Try.ntmps78
    go_wp2_with (go_at_call 82; (with_reducible refine (R.out _).mono ?_); rintro e w1 ⟨rfl, rfl⟩)
    go_ret2
    exact ⟨ret_ib HU.out, 0, rfl⟩
  · exact absurd rfl h4
end Go.Proofs.Ytpfhplhamnohjaa
namespace Go.Proofs.Ytpfhplhamnohjaa
set_option maxHeartbeats 25600000
set_option maxRecDepth 100000
open Go.RowKit

def shdI (k n : Int) : Int × Int := if k < 0 ∨ 3 < k ∨ n < 0 ∨ 31 < n then (0, 0) else if 0 < n then (k, n) else if k = 0 then (0, 0) else if k = 1 then (1, 32) else if k = 2 then (2, 32) else (4, 1)
theorem ShDecode_is (k n : Int) (hk : 0 ≤ k ∧ k < 4) (hn : 0 ≤ n ∧ n < 32) (W : World) :
    Calls Try.prog 79 #[.int .i64 k, .int .i64 n] W fun e w' => e = .returned (.tuple #[.int .i64 (shdI k n).1, .int .i64 (shdI k n).2]) ∧ ∃ j, w' = W.drewN j := by
  have d1 : ¬ k < 0 := by omega
  have d2 : ¬ 3 < k := by omega
  have d3 : ¬ n < 0 := by omega
  have d4 : ¬ 31 < n := by omega
  by_cases h : 0 < n
  · have HE := Lib.hid (show shdI k n = (k, n) by unfold shdI; rw [if_neg (by omega), if_pos h])
    rw [HE.out]
    go_enter Try.func79, Try.ntmps79
    go_wp2
    go_ret2
    exact ⟨rfl, 0, rfl⟩
  obtain rfl : n = 0 := by omega
  have h4 : k = 0 ∨ k = 1 ∨ k = 2 ∨ k = 3 := by omega
  have ia : ∀ V, (Instr.index 123 (.agg #[.int .i64 0, .int .i64 1, .int .i64 2, .int .i64 4]) (.int .i64 0)).run Try.prog V = .ok (.int .i64 0) V := fun V => by kernel_rfl
  have ib : ∀ V, (Instr.index 123 (.agg #[.int .i64 0, .int .i64 1, .int .i64 2, .int .i64 4]) (.int .i64 1)).run Try.prog V = .ok (.int .i64 1) V := fun V => by kernel_rfl
  have ic : ∀ V, (Instr.index 123 (.agg #[.int .i64 0, .int .i64 1, .int .i64 2, .int .i64 4]) (.int .i64 2)).run Try.prog V = .ok (.int .i64 2) V := fun V => by kernel_rfl
  have id : ∀ V, (Instr.index 123 (.agg #[.int .i64 0, .int .i64 1, .int .i64 2, .int .i64 4]) (.int .i64 3)).run Try.prog V = .ok (.int .i64 4) V := fun V => by kernel_rfl
  have ja : ∀ V, (Instr.index 123 (.agg #[.int .i64 0, .int .i64 32, .int .i64 32, .int .i64 1]) (.int .i64 0)).run Try.prog V = .ok (.int .i64 0) V := fun V => by kernel_rfl
  have jb : ∀ V, (Instr.index 123 (.agg #[.int .i64 0, .int .i64 32, .int .i64 32, .int .i64 1]) (.int .i64 1)).run Try.prog V = .ok (.int .i64 32) V := fun V => by kernel_rfl
  have jc : ∀ V, (Instr.index 123 (.agg #[.int .i64 0, .int .i64 32, .int .i64 32, .int .i64 1]) (.int .i64 2)).run Try.prog V = .ok (.int .i64 32) V := fun V => by kernel_rfl
  have jd : ∀ V, (Instr.index 123 (.agg #[.int .i64 0, .int .i64 32, .int .i64 32, .int .i64 1]) (.int .i64 3)).run Try.prog V = .ok (.int .i64 1) V := fun V => by kernel_rfl
  rcases h4 with rfl | rfl | rfl | rfl
  all_goals
    go_enter Try.func79, Try.ntmps79
    go_wp2
    go_quiet (fail)
    go_wp2
    go_ret2
    exact ⟨rfl, _, rfl⟩
def revI (x : Int) : Int :=
  let y := bits .or .u32 (bits .and .u32 (x / 256) 16711935) (bits .and .u32 x 16711935 * 256 % 4294967296)
  bits .or .u32 (y / 65536) (y * 65536 % 4294967296)
theorem Rev_is (x : Int) (W : World) :
    Calls Try.prog 84 #[.int .u32 x] W fun e w' => e = .returned (.int .u32 (revI x)) ∧ W = w' := by
  go_enter Try.func84, Try.ntmps84
  go_wp2
  go_ret
  exact ⟨rfl, rfl⟩
end Go.Proofs.Ytpfhplhamnohjaa
