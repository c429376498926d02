/- Layer 20: method (mkmethod.py). -/
import Derived.Test.YtpfhplhamnohjaaG11
namespace Go.Proofs.Ytpfhplhamnohjaa
set_option maxHeartbeats 25600000
set_option maxRecDepth 100000
open Go.RowKit

def methodF (op : Int) : FuncId := if op ≤ 16 then 47 else if op ≤ 18 then 48 else if op ≤ 24 then 49 else if op ≤ 30 then 50 else if op ≤ 38 then 51 else if op ≤ 40 then 52 else if op ≤ 44 then 53 else if op ≤ 46 then 54 else if op ≤ 48 then 55 else if op ≤ 50 then 56 else 54
theorem method0 (op : Int) (h1 : op ≤ 16) (W : World) :
    Calls Try.prog 36 #[.int .i64 op] W fun e w' => e = .returned (.func (.func 47) #[] #[]) ∧ Below W.heap.size W w' := by
  have i0 : ∀ V, (Instr.index 121 (.agg #[.int .i64 16, (.func (.func 47) #[] #[]), .int .i64 18, (.func (.func 48) #[] #[]), .int .i64 24, (.func (.func 49) #[] #[]), .int .i64 30, (.func (.func 50) #[] #[]), .int .i64 38, (.func (.func 51) #[] #[]), .int .i64 40, (.func (.func 52) #[] #[]), .int .i64 44, (.func (.func 53) #[] #[]), .int .i64 46, (.func (.func 54) #[] #[]), .int .i64 48, (.func (.func 55) #[] #[]), .int .i64 50, (.func (.func 56) #[] #[])]) (.int .i64 0)).run Try.prog V = .ok (.agg #[.int .i64 16, (.func (.func 47) #[] #[])]) V := fun V => by kernel_rfl
  go_enter Try.func36, Try.ntmps36
  go_wp2
  refine wp_loop_rounds 11 ?_
  rw [rounds_succ]
  go_wp2
  go_ret
  refine ⟨rfl, ?_⟩
  first | exact Below.refl _ _ | (repeat' (first | exact Below.refl _ _ | refine Below.alloc ?_ ?_ _)) <;> (first | (simp; done) | (simp; omega))
theorem method1 (op : Int) (h0 : ¬ op ≤ 16) (h1 : op ≤ 18) (W : World) :
    Calls Try.prog 36 #[.int .i64 op] W fun e w' => e = .returned (.func (.func 48) #[] #[]) ∧ Below W.heap.size W w' := by
  have n0 : ¬ op ≤ 16 := by omega
  have i0 : ∀ V, (Instr.index 121 (.agg #[.int .i64 16, (.func (.func 47) #[] #[]), .int .i64 18, (.func (.func 48) #[] #[]), .int .i64 24, (.func (.func 49) #[] #[]), .int .i64 30, (.func (.func 50) #[] #[]), .int .i64 38, (.func (.func 51) #[] #[]), .int .i64 40, (.func (.func 52) #[] #[]), .int .i64 44, (.func (.func 53) #[] #[]), .int .i64 46, (.func (.func 54) #[] #[]), .int .i64 48, (.func (.func 55) #[] #[]), .int .i64 50, (.func (.func 56) #[] #[])]) (.int .i64 0)).run Try.prog V = .ok (.agg #[.int .i64 16, (.func (.func 47) #[] #[])]) V := fun V => by kernel_rfl
  have i1 : ∀ V, (Instr.index 121 (.agg #[.int .i64 16, (.func (.func 47) #[] #[]), .int .i64 18, (.func (.func 48) #[] #[]), .int .i64 24, (.func (.func 49) #[] #[]), .int .i64 30, (.func (.func 50) #[] #[]), .int .i64 38, (.func (.func 51) #[] #[]), .int .i64 40, (.func (.func 52) #[] #[]), .int .i64 44, (.func (.func 53) #[] #[]), .int .i64 46, (.func (.func 54) #[] #[]), .int .i64 48, (.func (.func 55) #[] #[]), .int .i64 50, (.func (.func 56) #[] #[])]) (.int .i64 1)).run Try.prog V = .ok (.agg #[.int .i64 18, (.func (.func 48) #[] #[])]) V := fun V => by kernel_rfl
  go_enter Try.func36, Try.ntmps36
  go_wp2
  refine wp_loop_rounds 11 ?_
  rw [rounds_succ]
  go_wp2
  rw [rounds_succ]
  go_wp2
  go_ret
  refine ⟨rfl, ?_⟩
  first | exact Below.refl _ _ | (repeat' (first | exact Below.refl _ _ | refine Below.alloc ?_ ?_ _)) <;> (first | (simp; done) | (simp; omega))
theorem method2 (op : Int) (h0 : ¬ op ≤ 18) (h1 : op ≤ 24) (W : World) :
    Calls Try.prog 36 #[.int .i64 op] W fun e w' => e = .returned (.func (.func 49) #[] #[]) ∧ Below W.heap.size W w' := by
  have n0 : ¬ op ≤ 16 := by omega
  have n1 : ¬ op ≤ 18 := by omega
  have i0 : ∀ V, (Instr.index 121 (.agg #[.int .i64 16, (.func (.func 47) #[] #[]), .int .i64 18, (.func (.func 48) #[] #[]), .int .i64 24, (.func (.func 49) #[] #[]), .int .i64 30, (.func (.func 50) #[] #[]), .int .i64 38, (.func (.func 51) #[] #[]), .int .i64 40, (.func (.func 52) #[] #[]), .int .i64 44, (.func (.func 53) #[] #[]), .int .i64 46, (.func (.func 54) #[] #[]), .int .i64 48, (.func (.func 55) #[] #[]), .int .i64 50, (.func (.func 56) #[] #[])]) (.int .i64 0)).run Try.prog V = .ok (.agg #[.int .i64 16, (.func (.func 47) #[] #[])]) V := fun V => by kernel_rfl
  have i1 : ∀ V, (Instr.index 121 (.agg #[.int .i64 16, (.func (.func 47) #[] #[]), .int .i64 18, (.func (.func 48) #[] #[]), .int .i64 24, (.func (.func 49) #[] #[]), .int .i64 30, (.func (.func 50) #[] #[]), .int .i64 38, (.func (.func 51) #[] #[]), .int .i64 40, (.func (.func 52) #[] #[]), .int .i64 44, (.func (.func 53) #[] #[]), .int .i64 46, (.func (.func 54) #[] #[]), .int .i64 48, (.func (.func 55) #[] #[]), .int .i64 50, (.func (.func 56) #[] #[])]) (.int .i64 1)).run Try.prog V = .ok (.agg #[.int .i64 18, (.func (.func 48) #[] #[])]) V := fun V => by kernel_rfl
  have i2 : ∀ V, (Instr.index 121 (.agg #[.int .i64 16, (.func (.func 47) #[] #[]), .int .i64 18, (.func (.func 48) #[] #[]), .int .i64 24, (.func (.func 49) #[] #[]), .int .i64 30, (.func (.func 50) #[] #[]), .int .i64 38, (.func (.func 51) #[] #[]), .int .i64 40, (.func (.func 52) #[] #[]), .int .i64 44, (.func (.func 53) #[] #[]), .int .i64 46, (.func (.func 54) #[] #[]), .int .i64 48, (.func (.func 55) #[] #[]), .int .i64 50, (.func (.func 56) #[] #[])]) (.int .i64 2)).run Try.prog V = .ok (.agg #[.int .i64 24, (.func (.func 49) #[] #[])]) V := fun V => by kernel_rfl
  go_enter Try.func36, Try.ntmps36
  go_wp2
  refine wp_loop_rounds 11 ?_
  rw [rounds_succ]
  go_wp2
  rw [rounds_succ]
  go_wp2
  rw [rounds_succ]
  go_wp2
  go_ret
  refine ⟨rfl, ?_⟩
  first | exact Below.refl _ _ | (repeat' (first | exact Below.refl _ _ | refine Below.alloc ?_ ?_ _)) <;> (first | (simp; done) | (simp; omega))
theorem method3 (op : Int) (h0 : ¬ op ≤ 24) (h1 : op ≤ 30) (W : World) :
    Calls Try.prog 36 #[.int .i64 op] W fun e w' => e = .returned (.func (.func 50) #[] #[]) ∧ Below W.heap.size W w' := by
  have n0 : ¬ op ≤ 16 := by omega
  have n1 : ¬ op ≤ 18 := by omega
  have n2 : ¬ op ≤ 24 := by omega
  have i0 : ∀ V, (Instr.index 121 (.agg #[.int .i64 16, (.func (.func 47) #[] #[]), .int .i64 18, (.func (.func 48) #[] #[]), .int .i64 24, (.func (.func 49) #[] #[]), .int .i64 30, (.func (.func 50) #[] #[]), .int .i64 38, (.func (.func 51) #[] #[]), .int .i64 40, (.func (.func 52) #[] #[]), .int .i64 44, (.func (.func 53) #[] #[]), .int .i64 46, (.func (.func 54) #[] #[]), .int .i64 48, (.func (.func 55) #[] #[]), .int .i64 50, (.func (.func 56) #[] #[])]) (.int .i64 0)).run Try.prog V = .ok (.agg #[.int .i64 16, (.func (.func 47) #[] #[])]) V := fun V => by kernel_rfl
  have i1 : ∀ V, (Instr.index 121 (.agg #[.int .i64 16, (.func (.func 47) #[] #[]), .int .i64 18, (.func (.func 48) #[] #[]), .int .i64 24, (.func (.func 49) #[] #[]), .int .i64 30, (.func (.func 50) #[] #[]), .int .i64 38, (.func (.func 51) #[] #[]), .int .i64 40, (.func (.func 52) #[] #[]), .int .i64 44, (.func (.func 53) #[] #[]), .int .i64 46, (.func (.func 54) #[] #[]), .int .i64 48, (.func (.func 55) #[] #[]), .int .i64 50, (.func (.func 56) #[] #[])]) (.int .i64 1)).run Try.prog V = .ok (.agg #[.int .i64 18, (.func (.func 48) #[] #[])]) V := fun V => by kernel_rfl
  have i2 : ∀ V, (Instr.index 121 (.agg #[.int .i64 16, (.func (.func 47) #[] #[]), .int .i64 18, (.func (.func 48) #[] #[]), .int .i64 24, (.func (.func 49) #[] #[]), .int .i64 30, (.func (.func 50) #[] #[]), .int .i64 38, (.func (.func 51) #[] #[]), .int .i64 40, (.func (.func 52) #[] #[]), .int .i64 44, (.func (.func 53) #[] #[]), .int .i64 46, (.func (.func 54) #[] #[]), .int .i64 48, (.func (.func 55) #[] #[]), .int .i64 50, (.func (.func 56) #[] #[])]) (.int .i64 2)).run Try.prog V = .ok (.agg #[.int .i64 24, (.func (.func 49) #[] #[])]) V := fun V => by kernel_rfl
  have i3 : ∀ V, (Instr.index 121 (.agg #[.int .i64 16, (.func (.func 47) #[] #[]), .int .i64 18, (.func (.func 48) #[] #[]), .int .i64 24, (.func (.func 49) #[] #[]), .int .i64 30, (.func (.func 50) #[] #[]), .int .i64 38, (.func (.func 51) #[] #[]), .int .i64 40, (.func (.func 52) #[] #[]), .int .i64 44, (.func (.func 53) #[] #[]), .int .i64 46, (.func (.func 54) #[] #[]), .int .i64 48, (.func (.func 55) #[] #[]), .int .i64 50, (.func (.func 56) #[] #[])]) (.int .i64 3)).run Try.prog V = .ok (.agg #[.int .i64 30, (.func (.func 50) #[] #[])]) V := fun V => by kernel_rfl
  go_enter Try.func36, Try.ntmps36
  go_wp2
  refine wp_loop_rounds 11 ?_
  rw [rounds_succ]
  go_wp2
  rw [rounds_succ]
  go_wp2
  rw [rounds_succ]
  go_wp2
  rw [rounds_succ]
  go_wp2
  go_ret
  refine ⟨rfl, ?_⟩
  first | exact Below.refl _ _ | (repeat' (first | exact Below.refl _ _ | refine Below.alloc ?_ ?_ _)) <;> (first | (simp; done) | (simp; omega))
theorem method4 (op : Int) (h0 : ¬ op ≤ 30) (h1 : op ≤ 38) (W : World) :
    Calls Try.prog 36 #[.int .i64 op] W fun e w' => e = .returned (.func (.func 51) #[] #[]) ∧ Below W.heap.size W w' := by
  have n0 : ¬ op ≤ 16 := by omega
  have n1 : ¬ op ≤ 18 := by omega
  have n2 : ¬ op ≤ 24 := by omega
  have n3 : ¬ op ≤ 30 := by omega
  have i0 : ∀ V, (Instr.index 121 (.agg #[.int .i64 16, (.func (.func 47) #[] #[]), .int .i64 18, (.func (.func 48) #[] #[]), .int .i64 24, (.func (.func 49) #[] #[]), .int .i64 30, (.func (.func 50) #[] #[]), .int .i64 38, (.func (.func 51) #[] #[]), .int .i64 40, (.func (.func 52) #[] #[]), .int .i64 44, (.func (.func 53) #[] #[]), .int .i64 46, (.func (.func 54) #[] #[]), .int .i64 48, (.func (.func 55) #[] #[]), .int .i64 50, (.func (.func 56) #[] #[])]) (.int .i64 0)).run Try.prog V = .ok (.agg #[.int .i64 16, (.func (.func 47) #[] #[])]) V := fun V => by kernel_rfl
  have i1 : ∀ V, (Instr.index 121 (.agg #[.int .i64 16, (.func (.func 47) #[] #[]), .int .i64 18, (.func (.func 48) #[] #[]), .int .i64 24, (.func (.func 49) #[] #[]), .int .i64 30, (.func (.func 50) #[] #[]), .int .i64 38, (.func (.func 51) #[] #[]), .int .i64 40, (.func (.func 52) #[] #[]), .int .i64 44, (.func (.func 53) #[] #[]), .int .i64 46, (.func (.func 54) #[] #[]), .int .i64 48, (.func (.func 55) #[] #[]), .int .i64 50, (.func (.func 56) #[] #[])]) (.int .i64 1)).run Try.prog V = .ok (.agg #[.int .i64 18, (.func (.func 48) #[] #[])]) V := fun V => by kernel_rfl
  have i2 : ∀ V, (Instr.index 121 (.agg #[.int .i64 16, (.func (.func 47) #[] #[]), .int .i64 18, (.func (.func 48) #[] #[]), .int .i64 24, (.func (.func 49) #[] #[]), .int .i64 30, (.func (.func 50) #[] #[]), .int .i64 38, (.func (.func 51) #[] #[]), .int .i64 40, (.func (.func 52) #[] #[]), .int .i64 44, (.func (.func 53) #[] #[]), .int .i64 46, (.func (.func 54) #[] #[]), .int .i64 48, (.func (.func 55) #[] #[]), .int .i64 50, (.func (.func 56) #[] #[])]) (.int .i64 2)).run Try.prog V = .ok (.agg #[.int .i64 24, (.func (.func 49) #[] #[])]) V := fun V => by kernel_rfl
  have i3 : ∀ V, (Instr.index 121 (.agg #[.int .i64 16, (.func (.func 47) #[] #[]), .int .i64 18, (.func (.func 48) #[] #[]), .int .i64 24, (.func (.func 49) #[] #[]), .int .i64 30, (.func (.func 50) #[] #[]), .int .i64 38, (.func (.func 51) #[] #[]), .int .i64 40, (.func (.func 52) #[] #[]), .int .i64 44, (.func (.func 53) #[] #[]), .int .i64 46, (.func (.func 54) #[] #[]), .int .i64 48, (.func (.func 55) #[] #[]), .int .i64 50, (.func (.func 56) #[] #[])]) (.int .i64 3)).run Try.prog V = .ok (.agg #[.int .i64 30, (.func (.func 50) #[] #[])]) V := fun V => by kernel_rfl
  have i4 : ∀ V, (Instr.index 121 (.agg #[.int .i64 16, (.func (.func 47) #[] #[]), .int .i64 18, (.func (.func 48) #[] #[]), .int .i64 24, (.func (.func 49) #[] #[]), .int .i64 30, (.func (.func 50) #[] #[]), .int .i64 38, (.func (.func 51) #[] #[]), .int .i64 40, (.func (.func 52) #[] #[]), .int .i64 44, (.func (.func 53) #[] #[]), .int .i64 46, (.func (.func 54) #[] #[]), .int .i64 48, (.func (.func 55) #[] #[]), .int .i64 50, (.func (.func 56) #[] #[])]) (.int .i64 4)).run Try.prog V = .ok (.agg #[.int .i64 38, (.func (.func 51) #[] #[])]) V := fun V => by kernel_rfl
  go_enter Try.func36, Try.ntmps36
  go_wp2
  refine wp_loop_rounds 11 ?_
  rw [rounds_succ]
  go_wp2
  rw [rounds_succ]
  go_wp2
  rw [rounds_succ]
  go_wp2
  rw [rounds_succ]
  go_wp2
  rw [rounds_succ]
  go_wp2
  go_ret
  refine ⟨rfl, ?_⟩
  first | exact Below.refl _ _ | (repeat' (first | exact Below.refl _ _ | refine Below.alloc ?_ ?_ _)) <;> (first | (simp; done) | (simp; omega))
theorem method5 (op : Int) (h0 : ¬ op ≤ 38) (h1 : op ≤ 40) (W : World) :
    Calls Try.prog 36 #[.int .i64 op] W fun e w' => e = .returned (.func (.func 52) #[] #[]) ∧ Below W.heap.size W w' := by
  have n0 : ¬ op ≤ 16 := by omega
  have n1 : ¬ op ≤ 18 := by omega
  have n2 : ¬ op ≤ 24 := by omega
  have n3 : ¬ op ≤ 30 := by omega
  have n4 : ¬ op ≤ 38 := by omega
  have i0 : ∀ V, (Instr.index 121 (.agg #[.int .i64 16, (.func (.func 47) #[] #[]), .int .i64 18, (.func (.func 48) #[] #[]), .int .i64 24, (.func (.func 49) #[] #[]), .int .i64 30, (.func (.func 50) #[] #[]), .int .i64 38, (.func (.func 51) #[] #[]), .int .i64 40, (.func (.func 52) #[] #[]), .int .i64 44, (.func (.func 53) #[] #[]), .int .i64 46, (.func (.func 54) #[] #[]), .int .i64 48, (.func (.func 55) #[] #[]), .int .i64 50, (.func (.func 56) #[] #[])]) (.int .i64 0)).run Try.prog V = .ok (.agg #[.int .i64 16, (.func (.func 47) #[] #[])]) V := fun V => by kernel_rfl
  have i1 : ∀ V, (Instr.index 121 (.agg #[.int .i64 16, (.func (.func 47) #[] #[]), .int .i64 18, (.func (.func 48) #[] #[]), .int .i64 24, (.func (.func 49) #[] #[]), .int .i64 30, (.func (.func 50) #[] #[]), .int .i64 38, (.func (.func 51) #[] #[]), .int .i64 40, (.func (.func 52) #[] #[]), .int .i64 44, (.func (.func 53) #[] #[]), .int .i64 46, (.func (.func 54) #[] #[]), .int .i64 48, (.func (.func 55) #[] #[]), .int .i64 50, (.func (.func 56) #[] #[])]) (.int .i64 1)).run Try.prog V = .ok (.agg #[.int .i64 18, (.func (.func 48) #[] #[])]) V := fun V => by kernel_rfl
  have i2 : ∀ V, (Instr.index 121 (.agg #[.int .i64 16, (.func (.func 47) #[] #[]), .int .i64 18, (.func (.func 48) #[] #[]), .int .i64 24, (.func (.func 49) #[] #[]), .int .i64 30, (.func (.func 50) #[] #[]), .int .i64 38, (.func (.func 51) #[] #[]), .int .i64 40, (.func (.func 52) #[] #[]), .int .i64 44, (.func (.func 53) #[] #[]), .int .i64 46, (.func (.func 54) #[] #[]), .int .i64 48, (.func (.func 55) #[] #[]), .int .i64 50, (.func (.func 56) #[] #[])]) (.int .i64 2)).run Try.prog V = .ok (.agg #[.int .i64 24, (.func (.func 49) #[] #[])]) V := fun V => by kernel_rfl
  have i3 : ∀ V, (Instr.index 121 (.agg #[.int .i64 16, (.func (.func 47) #[] #[]), .int .i64 18, (.func (.func 48) #[] #[]), .int .i64 24, (.func (.func 49) #[] #[]), .int .i64 30, (.func (.func 50) #[] #[]), .int .i64 38, (.func (.func 51) #[] #[]), .int .i64 40, (.func (.func 52) #[] #[]), .int .i64 44, (.func (.func 53) #[] #[]), .int .i64 46, (.func (.func 54) #[] #[]), .int .i64 48, (.func (.func 55) #[] #[]), .int .i64 50, (.func (.func 56) #[] #[])]) (.int .i64 3)).run Try.prog V = .ok (.agg #[.int .i64 30, (.func (.func 50) #[] #[])]) V := fun V => by kernel_rfl
  have i4 : ∀ V, (Instr.index 121 (.agg #[.int .i64 16, (.func (.func 47) #[] #[]), .int .i64 18, (.func (.func 48) #[] #[]), .int .i64 24, (.func (.func 49) #[] #[]), .int .i64 30, (.func (.func 50) #[] #[]), .int .i64 38, (.func (.func 51) #[] #[]), .int .i64 40, (.func (.func 52) #[] #[]), .int .i64 44, (.func (.func 53) #[] #[]), .int .i64 46, (.func (.func 54) #[] #[]), .int .i64 48, (.func (.func 55) #[] #[]), .int .i64 50, (.func (.func 56) #[] #[])]) (.int .i64 4)).run Try.prog V = .ok (.agg #[.int .i64 38, (.func (.func 51) #[] #[])]) V := fun V => by kernel_rfl
  have i5 : ∀ V, (Instr.index 121 (.agg #[.int .i64 16, (.func (.func 47) #[] #[]), .int .i64 18, (.func (.func 48) #[] #[]), .int .i64 24, (.func (.func 49) #[] #[]), .int .i64 30, (.func (.func 50) #[] #[]), .int .i64 38, (.func (.func 51) #[] #[]), .int .i64 40, (.func (.func 52) #[] #[]), .int .i64 44, (.func (.func 53) #[] #[]), .int .i64 46, (.func (.func 54) #[] #[]), .int .i64 48, (.func (.func 55) #[] #[]), .int .i64 50, (.func (.func 56) #[] #[])]) (.int .i64 5)).run Try.prog V = .ok (.agg #[.int .i64 40, (.func (.func 52) #[] #[])]) V := fun V => by kernel_rfl
  go_enter Try.func36, Try.ntmps36
  go_wp2
  refine wp_loop_rounds 11 ?_
  rw [rounds_succ]
  go_wp2
  rw [rounds_succ]
  go_wp2
  rw [rounds_succ]
  go_wp2
  rw [rounds_succ]
  go_wp2
  rw [rounds_succ]
  go_wp2
  rw [rounds_succ]
  go_wp2
  go_ret
  refine ⟨rfl, ?_⟩
  first | exact Below.refl _ _ | (repeat' (first | exact Below.refl _ _ | refine Below.alloc ?_ ?_ _)) <;> (first | (simp; done) | (simp; omega))
theorem method6 (op : Int) (h0 : ¬ op ≤ 40) (h1 : op ≤ 44) (W : World) :
    Calls Try.prog 36 #[.int .i64 op] W fun e w' => e = .returned (.func (.func 53) #[] #[]) ∧ Below W.heap.size W w' := by
  have n0 : ¬ op ≤ 16 := by omega
  have n1 : ¬ op ≤ 18 := by omega
  have n2 : ¬ op ≤ 24 := by omega
  have n3 : ¬ op ≤ 30 := by omega
  have n4 : ¬ op ≤ 38 := by omega
  have n5 : ¬ op ≤ 40 := by omega
  have i0 : ∀ V, (Instr.index 121 (.agg #[.int .i64 16, (.func (.func 47) #[] #[]), .int .i64 18, (.func (.func 48) #[] #[]), .int .i64 24, (.func (.func 49) #[] #[]), .int .i64 30, (.func (.func 50) #[] #[]), .int .i64 38, (.func (.func 51) #[] #[]), .int .i64 40, (.func (.func 52) #[] #[]), .int .i64 44, (.func (.func 53) #[] #[]), .int .i64 46, (.func (.func 54) #[] #[]), .int .i64 48, (.func (.func 55) #[] #[]), .int .i64 50, (.func (.func 56) #[] #[])]) (.int .i64 0)).run Try.prog V = .ok (.agg #[.int .i64 16, (.func (.func 47) #[] #[])]) V := fun V => by kernel_rfl
  have i1 : ∀ V, (Instr.index 121 (.agg #[.int .i64 16, (.func (.func 47) #[] #[]), .int .i64 18, (.func (.func 48) #[] #[]), .int .i64 24, (.func (.func 49) #[] #[]), .int .i64 30, (.func (.func 50) #[] #[]), .int .i64 38, (.func (.func 51) #[] #[]), .int .i64 40, (.func (.func 52) #[] #[]), .int .i64 44, (.func (.func 53) #[] #[]), .int .i64 46, (.func (.func 54) #[] #[]), .int .i64 48, (.func (.func 55) #[] #[]), .int .i64 50, (.func (.func 56) #[] #[])]) (.int .i64 1)).run Try.prog V = .ok (.agg #[.int .i64 18, (.func (.func 48) #[] #[])]) V := fun V => by kernel_rfl
  have i2 : ∀ V, (Instr.index 121 (.agg #[.int .i64 16, (.func (.func 47) #[] #[]), .int .i64 18, (.func (.func 48) #[] #[]), .int .i64 24, (.func (.func 49) #[] #[]), .int .i64 30, (.func (.func 50) #[] #[]), .int .i64 38, (.func (.func 51) #[] #[]), .int .i64 40, (.func (.func 52) #[] #[]), .int .i64 44, (.func (.func 53) #[] #[]), .int .i64 46, (.func (.func 54) #[] #[]), .int .i64 48, (.func (.func 55) #[] #[]), .int .i64 50, (.func (.func 56) #[] #[])]) (.int .i64 2)).run Try.prog V = .ok (.agg #[.int .i64 24, (.func (.func 49) #[] #[])]) V := fun V => by kernel_rfl
  have i3 : ∀ V, (Instr.index 121 (.agg #[.int .i64 16, (.func (.func 47) #[] #[]), .int .i64 18, (.func (.func 48) #[] #[]), .int .i64 24, (.func (.func 49) #[] #[]), .int .i64 30, (.func (.func 50) #[] #[]), .int .i64 38, (.func (.func 51) #[] #[]), .int .i64 40, (.func (.func 52) #[] #[]), .int .i64 44, (.func (.func 53) #[] #[]), .int .i64 46, (.func (.func 54) #[] #[]), .int .i64 48, (.func (.func 55) #[] #[]), .int .i64 50, (.func (.func 56) #[] #[])]) (.int .i64 3)).run Try.prog V = .ok (.agg #[.int .i64 30, (.func (.func 50) #[] #[])]) V := fun V => by kernel_rfl
  have i4 : ∀ V, (Instr.index 121 (.agg #[.int .i64 16, (.func (.func 47) #[] #[]), .int .i64 18, (.func (.func 48) #[] #[]), .int .i64 24, (.func (.func 49) #[] #[]), .int .i64 30, (.func (.func 50) #[] #[]), .int .i64 38, (.func (.func 51) #[] #[]), .int .i64 40, (.func (.func 52) #[] #[]), .int .i64 44, (.func (.func 53) #[] #[]), .int .i64 46, (.func (.func 54) #[] #[]), .int .i64 48, (.func (.func 55) #[] #[]), .int .i64 50, (.func (.func 56) #[] #[])]) (.int .i64 4)).run Try.prog V = .ok (.agg #[.int .i64 38, (.func (.func 51) #[] #[])]) V := fun V => by kernel_rfl
  have i5 : ∀ V, (Instr.index 121 (.agg #[.int .i64 16, (.func (.func 47) #[] #[]), .int .i64 18, (.func (.func 48) #[] #[]), .int .i64 24, (.func (.func 49) #[] #[]), .int .i64 30, (.func (.func 50) #[] #[]), .int .i64 38, (.func (.func 51) #[] #[]), .int .i64 40, (.func (.func 52) #[] #[]), .int .i64 44, (.func (.func 53) #[] #[]), .int .i64 46, (.func (.func 54) #[] #[]), .int .i64 48, (.func (.func 55) #[] #[]), .int .i64 50, (.func (.func 56) #[] #[])]) (.int .i64 5)).run Try.prog V = .ok (.agg #[.int .i64 40, (.func (.func 52) #[] #[])]) V := fun V => by kernel_rfl
  have i6 : ∀ V, (Instr.index 121 (.agg #[.int .i64 16, (.func (.func 47) #[] #[]), .int .i64 18, (.func (.func 48) #[] #[]), .int .i64 24, (.func (.func 49) #[] #[]), .int .i64 30, (.func (.func 50) #[] #[]), .int .i64 38, (.func (.func 51) #[] #[]), .int .i64 40, (.func (.func 52) #[] #[]), .int .i64 44, (.func (.func 53) #[] #[]), .int .i64 46, (.func (.func 54) #[] #[]), .int .i64 48, (.func (.func 55) #[] #[]), .int .i64 50, (.func (.func 56) #[] #[])]) (.int .i64 6)).run Try.prog V = .ok (.agg #[.int .i64 44, (.func (.func 53) #[] #[])]) V := fun V => by kernel_rfl
  go_enter Try.func36, Try.ntmps36
  go_wp2
  refine wp_loop_rounds 11 ?_
  rw [rounds_succ]
  go_wp2
  rw [rounds_succ]
  go_wp2
  rw [rounds_succ]
  go_wp2
  rw [rounds_succ]
  go_wp2
  rw [rounds_succ]
  go_wp2
  rw [rounds_succ]
  go_wp2
  rw [rounds_succ]
  go_wp2
  go_ret
  refine ⟨rfl, ?_⟩
  first | exact Below.refl _ _ | (repeat' (first | exact Below.refl _ _ | refine Below.alloc ?_ ?_ _)) <;> (first | (simp; done) | (simp; omega))
theorem method7 (op : Int) (h0 : ¬ op ≤ 44) (h1 : op ≤ 46) (W : World) :
    Calls Try.prog 36 #[.int .i64 op] W fun e w' => e = .returned (.func (.func 54) #[] #[]) ∧ Below W.heap.size W w' := by
  have n0 : ¬ op ≤ 16 := by omega
  have n1 : ¬ op ≤ 18 := by omega
  have n2 : ¬ op ≤ 24 := by omega
  have n3 : ¬ op ≤ 30 := by omega
  have n4 : ¬ op ≤ 38 := by omega
  have n5 : ¬ op ≤ 40 := by omega
  have n6 : ¬ op ≤ 44 := by omega
  have i0 : ∀ V, (Instr.index 121 (.agg #[.int .i64 16, (.func (.func 47) #[] #[]), .int .i64 18, (.func (.func 48) #[] #[]), .int .i64 24, (.func (.func 49) #[] #[]), .int .i64 30, (.func (.func 50) #[] #[]), .int .i64 38, (.func (.func 51) #[] #[]), .int .i64 40, (.func (.func 52) #[] #[]), .int .i64 44, (.func (.func 53) #[] #[]), .int .i64 46, (.func (.func 54) #[] #[]), .int .i64 48, (.func (.func 55) #[] #[]), .int .i64 50, (.func (.func 56) #[] #[])]) (.int .i64 0)).run Try.prog V = .ok (.agg #[.int .i64 16, (.func (.func 47) #[] #[])]) V := fun V => by kernel_rfl
  have i1 : ∀ V, (Instr.index 121 (.agg #[.int .i64 16, (.func (.func 47) #[] #[]), .int .i64 18, (.func (.func 48) #[] #[]), .int .i64 24, (.func (.func 49) #[] #[]), .int .i64 30, (.func (.func 50) #[] #[]), .int .i64 38, (.func (.func 51) #[] #[]), .int .i64 40, (.func (.func 52) #[] #[]), .int .i64 44, (.func (.func 53) #[] #[]), .int .i64 46, (.func (.func 54) #[] #[]), .int .i64 48, (.func (.func 55) #[] #[]), .int .i64 50, (.func (.func 56) #[] #[])]) (.int .i64 1)).run Try.prog V = .ok (.agg #[.int .i64 18, (.func (.func 48) #[] #[])]) V := fun V => by kernel_rfl
  have i2 : ∀ V, (Instr.index 121 (.agg #[.int .i64 16, (.func (.func 47) #[] #[]), .int .i64 18, (.func (.func 48) #[] #[]), .int .i64 24, (.func (.func 49) #[] #[]), .int .i64 30, (.func (.func 50) #[] #[]), .int .i64 38, (.func (.func 51) #[] #[]), .int .i64 40, (.func (.func 52) #[] #[]), .int .i64 44, (.func (.func 53) #[] #[]), .int .i64 46, (.func (.func 54) #[] #[]), .int .i64 48, (.func (.func 55) #[] #[]), .int .i64 50, (.func (.func 56) #[] #[])]) (.int .i64 2)).run Try.prog V = .ok (.agg #[.int .i64 24, (.func (.func 49) #[] #[])]) V := fun V => by kernel_rfl
  have i3 : ∀ V, (Instr.index 121 (.agg #[.int .i64 16, (.func (.func 47) #[] #[]), .int .i64 18, (.func (.func 48) #[] #[]), .int .i64 24, (.func (.func 49) #[] #[]), .int .i64 30, (.func (.func 50) #[] #[]), .int .i64 38, (.func (.func 51) #[] #[]), .int .i64 40, (.func (.func 52) #[] #[]), .int .i64 44, (.func (.func 53) #[] #[]), .int .i64 46, (.func (.func 54) #[] #[]), .int .i64 48, (.func (.func 55) #[] #[]), .int .i64 50, (.func (.func 56) #[] #[])]) (.int .i64 3)).run Try.prog V = .ok (.agg #[.int .i64 30, (.func (.func 50) #[] #[])]) V := fun V => by kernel_rfl
  have i4 : ∀ V, (Instr.index 121 (.agg #[.int .i64 16, (.func (.func 47) #[] #[]), .int .i64 18, (.func (.func 48) #[] #[]), .int .i64 24, (.func (.func 49) #[] #[]), .int .i64 30, (.func (.func 50) #[] #[]), .int .i64 38, (.func (.func 51) #[] #[]), .int .i64 40, (.func (.func 52) #[] #[]), .int .i64 44, (.func (.func 53) #[] #[]), .int .i64 46, (.func (.func 54) #[] #[]), .int .i64 48, (.func (.func 55) #[] #[]), .int .i64 50, (.func (.func 56) #[] #[])]) (.int .i64 4)).run Try.prog V = .ok (.agg #[.int .i64 38, (.func (.func 51) #[] #[])]) V := fun V => by kernel_rfl
  have i5 : ∀ V, (Instr.index 121 (.agg #[.int .i64 16, (.func (.func 47) #[] #[]), .int .i64 18, (.func (.func 48) #[] #[]), .int .i64 24, (.func (.func 49) #[] #[]), .int .i64 30, (.func (.func 50) #[] #[]), .int .i64 38, (.func (.func 51) #[] #[]), .int .i64 40, (.func (.func 52) #[] #[]), .int .i64 44, (.func (.func 53) #[] #[]), .int .i64 46, (.func (.func 54) #[] #[]), .int .i64 48, (.func (.func 55) #[] #[]), .int .i64 50, (.func (.func 56) #[] #[])]) (.int .i64 5)).run Try.prog V = .ok (.agg #[.int .i64 40, (.func (.func 52) #[] #[])]) V := fun V => by kernel_rfl
  have i6 : ∀ V, (Instr.index 121 (.agg #[.int .i64 16, (.func (.func 47) #[] #[]), .int .i64 18, (.func (.func 48) #[] #[]), .int .i64 24, (.func (.func 49) #[] #[]), .int .i64 30, (.func (.func 50) #[] #[]), .int .i64 38, (.func (.func 51) #[] #[]), .int .i64 40, (.func (.func 52) #[] #[]), .int .i64 44, (.func (.func 53) #[] #[]), .int .i64 46, (.func (.func 54) #[] #[]), .int .i64 48, (.func (.func 55) #[] #[]), .int .i64 50, (.func (.func 56) #[] #[])]) (.int .i64 6)).run Try.prog V = .ok (.agg #[.int .i64 44, (.func (.func 53) #[] #[])]) V := fun V => by kernel_rfl
  have i7 : ∀ V, (Instr.index 121 (.agg #[.int .i64 16, (.func (.func 47) #[] #[]), .int .i64 18, (.func (.func 48) #[] #[]), .int .i64 24, (.func (.func 49) #[] #[]), .int .i64 30, (.func (.func 50) #[] #[]), .int .i64 38, (.func (.func 51) #[] #[]), .int .i64 40, (.func (.func 52) #[] #[]), .int .i64 44, (.func (.func 53) #[] #[]), .int .i64 46, (.func (.func 54) #[] #[]), .int .i64 48, (.func (.func 55) #[] #[]), .int .i64 50, (.func (.func 56) #[] #[])]) (.int .i64 7)).run Try.prog V = .ok (.agg #[.int .i64 46, (.func (.func 54) #[] #[])]) V := fun V => by kernel_rfl
  go_enter Try.func36, Try.ntmps36
  go_wp2
  refine wp_loop_rounds 11 ?_
  rw [rounds_succ]
  go_wp2
  rw [rounds_succ]
  go_wp2
  rw [rounds_succ]
  go_wp2
  rw [rounds_succ]
  go_wp2
  rw [rounds_succ]
  go_wp2
  rw [rounds_succ]
  go_wp2
  rw [rounds_succ]
  go_wp2
  rw [rounds_succ]
  go_wp2
  go_ret
  refine ⟨rfl, ?_⟩
  first | exact Below.refl _ _ | (repeat' (first | exact Below.refl _ _ | refine Below.alloc ?_ ?_ _)) <;> (first | (simp; done) | (simp; omega))
theorem method8 (op : Int) (h0 : ¬ op ≤ 46) (h1 : op ≤ 48) (W : World) :
    Calls Try.prog 36 #[.int .i64 op] W fun e w' => e = .returned (.func (.func 55) #[] #[]) ∧ Below W.heap.size W w' := by
  have n0 : ¬ op ≤ 16 := by omega
  have n1 : ¬ op ≤ 18 := by omega
  have n2 : ¬ op ≤ 24 := by omega
  have n3 : ¬ op ≤ 30 := by omega
  have n4 : ¬ op ≤ 38 := by omega
  have n5 : ¬ op ≤ 40 := by omega
  have n6 : ¬ op ≤ 44 := by omega
  have n7 : ¬ op ≤ 46 := by omega
  have i0 : ∀ V, (Instr.index 121 (.agg #[.int .i64 16, (.func (.func 47) #[] #[]), .int .i64 18, (.func (.func 48) #[] #[]), .int .i64 24, (.func (.func 49) #[] #[]), .int .i64 30, (.func (.func 50) #[] #[]), .int .i64 38, (.func (.func 51) #[] #[]), .int .i64 40, (.func (.func 52) #[] #[]), .int .i64 44, (.func (.func 53) #[] #[]), .int .i64 46, (.func (.func 54) #[] #[]), .int .i64 48, (.func (.func 55) #[] #[]), .int .i64 50, (.func (.func 56) #[] #[])]) (.int .i64 0)).run Try.prog V = .ok (.agg #[.int .i64 16, (.func (.func 47) #[] #[])]) V := fun V => by kernel_rfl
  have i1 : ∀ V, (Instr.index 121 (.agg #[.int .i64 16, (.func (.func 47) #[] #[]), .int .i64 18, (.func (.func 48) #[] #[]), .int .i64 24, (.func (.func 49) #[] #[]), .int .i64 30, (.func (.func 50) #[] #[]), .int .i64 38, (.func (.func 51) #[] #[]), .int .i64 40, (.func (.func 52) #[] #[]), .int .i64 44, (.func (.func 53) #[] #[]), .int .i64 46, (.func (.func 54) #[] #[]), .int .i64 48, (.func (.func 55) #[] #[]), .int .i64 50, (.func (.func 56) #[] #[])]) (.int .i64 1)).run Try.prog V = .ok (.agg #[.int .i64 18, (.func (.func 48) #[] #[])]) V := fun V => by kernel_rfl
  have i2 : ∀ V, (Instr.index 121 (.agg #[.int .i64 16, (.func (.func 47) #[] #[]), .int .i64 18, (.func (.func 48) #[] #[]), .int .i64 24, (.func (.func 49) #[] #[]), .int .i64 30, (.func (.func 50) #[] #[]), .int .i64 38, (.func (.func 51) #[] #[]), .int .i64 40, (.func (.func 52) #[] #[]), .int .i64 44, (.func (.func 53) #[] #[]), .int .i64 46, (.func (.func 54) #[] #[]), .int .i64 48, (.func (.func 55) #[] #[]), .int .i64 50, (.func (.func 56) #[] #[])]) (.int .i64 2)).run Try.prog V = .ok (.agg #[.int .i64 24, (.func (.func 49) #[] #[])]) V := fun V => by kernel_rfl
  have i3 : ∀ V, (Instr.index 121 (.agg #[.int .i64 16, (.func (.func 47) #[] #[]), .int .i64 18, (.func (.func 48) #[] #[]), .int .i64 24, (.func (.func 49) #[] #[]), .int .i64 30, (.func (.func 50) #[] #[]), .int .i64 38, (.func (.func 51) #[] #[]), .int .i64 40, (.func (.func 52) #[] #[]), .int .i64 44, (.func (.func 53) #[] #[]), .int .i64 46, (.func (.func 54) #[] #[]), .int .i64 48, (.func (.func 55) #[] #[]), .int .i64 50, (.func (.func 56) #[] #[])]) (.int .i64 3)).run Try.prog V = .ok (.agg #[.int .i64 30, (.func (.func 50) #[] #[])]) V := fun V => by kernel_rfl
  have i4 : ∀ V, (Instr.index 121 (.agg #[.int .i64 16, (.func (.func 47) #[] #[]), .int .i64 18, (.func (.func 48) #[] #[]), .int .i64 24, (.func (.func 49) #[] #[]), .int .i64 30, (.func (.func 50) #[] #[]), .int .i64 38, (.func (.func 51) #[] #[]), .int .i64 40, (.func (.func 52) #[] #[]), .int .i64 44, (.func (.func 53) #[] #[]), .int .i64 46, (.func (.func 54) #[] #[]), .int .i64 48, (.func (.func 55) #[] #[]), .int .i64 50, (.func (.func 56) #[] #[])]) (.int .i64 4)).run Try.prog V = .ok (.agg #[.int .i64 38, (.func (.func 51) #[] #[])]) V := fun V => by kernel_rfl
  have i5 : ∀ V, (Instr.index 121 (.agg #[.int .i64 16, (.func (.func 47) #[] #[]), .int .i64 18, (.func (.func 48) #[] #[]), .int .i64 24, (.func (.func 49) #[] #[]), .int .i64 30, (.func (.func 50) #[] #[]), .int .i64 38, (.func (.func 51) #[] #[]), .int .i64 40, (.func (.func 52) #[] #[]), .int .i64 44, (.func (.func 53) #[] #[]), .int .i64 46, (.func (.func 54) #[] #[]), .int .i64 48, (.func (.func 55) #[] #[]), .int .i64 50, (.func (.func 56) #[] #[])]) (.int .i64 5)).run Try.prog V = .ok (.agg #[.int .i64 40, (.func (.func 52) #[] #[])]) V := fun V => by kernel_rfl
  have i6 : ∀ V, (Instr.index 121 (.agg #[.int .i64 16, (.func (.func 47) #[] #[]), .int .i64 18, (.func (.func 48) #[] #[]), .int .i64 24, (.func (.func 49) #[] #[]), .int .i64 30, (.func (.func 50) #[] #[]), .int .i64 38, (.func (.func 51) #[] #[]), .int .i64 40, (.func (.func 52) #[] #[]), .int .i64 44, (.func (.func 53) #[] #[]), .int .i64 46, (.func (.func 54) #[] #[]), .int .i64 48, (.func (.func 55) #[] #[]), .int .i64 50, (.func (.func 56) #[] #[])]) (.int .i64 6)).run Try.prog V = .ok (.agg #[.int .i64 44, (.func (.func 53) #[] #[])]) V := fun V => by kernel_rfl
  have i7 : ∀ V, (Instr.index 121 (.agg #[.int .i64 16, (.func (.func 47) #[] #[]), .int .i64 18, (.func (.func 48) #[] #[]), .int .i64 24, (.func (.func 49) #[] #[]), .int .i64 30, (.func (.func 50) #[] #[]), .int .i64 38, (.func (.func 51) #[] #[]), .int .i64 40, (.func (.func 52) #[] #[]), .int .i64 44, (.func (.func 53) #[] #[]), .int .i64 46, (.func (.func 54) #[] #[]), .int .i64 48, (.func (.func 55) #[] #[]), .int .i64 50, (.func (.func 56) #[] #[])]) (.int .i64 7)).run Try.prog V = .ok (.agg #[.int .i64 46, (.func (.func 54) #[] #[])]) V := fun V => by kernel_rfl
  have i8 : ∀ V, (Instr.index 121 (.agg #[.int .i64 16, (.func (.func 47) #[] #[]), .int .i64 18, (.func (.func 48) #[] #[]), .int .i64 24, (.func (.func 49) #[] #[]), .int .i64 30, (.func (.func 50) #[] #[]), .int .i64 38, (.func (.func 51) #[] #[]), .int .i64 40, (.func (.func 52) #[] #[]), .int .i64 44, (.func (.func 53) #[] #[]), .int .i64 46, (.func (.func 54) #[] #[]), .int .i64 48, (.func (.func 55) #[] #[]), .int .i64 50, (.func (.func 56) #[] #[])]) (.int .i64 8)).run Try.prog V = .ok (.agg #[.int .i64 48, (.func (.func 55) #[] #[])]) V := fun V => by kernel_rfl
  go_enter Try.func36, Try.ntmps36
  go_wp2
  refine wp_loop_rounds 11 ?_
  rw [rounds_succ]
  go_wp2
  rw [rounds_succ]
  go_wp2
  rw [rounds_succ]
  go_wp2
  rw [rounds_succ]
  go_wp2
  rw [rounds_succ]
  go_wp2
  rw [rounds_succ]
  go_wp2
  rw [rounds_succ]
  go_wp2
  rw [rounds_succ]
  go_wp2
  rw [rounds_succ]
  go_wp2
  go_ret
  refine ⟨rfl, ?_⟩
  first | exact Below.refl _ _ | (repeat' (first | exact Below.refl _ _ | refine Below.alloc ?_ ?_ _)) <;> (first | (simp; done) | (simp; omega))
theorem method9 (op : Int) (h0 : ¬ op ≤ 48) (h1 : op ≤ 50) (W : World) :
    Calls Try.prog 36 #[.int .i64 op] W fun e w' => e = .returned (.func (.func 56) #[] #[]) ∧ Below W.heap.size W w' := by
  have n0 : ¬ op ≤ 16 := by omega
  have n1 : ¬ op ≤ 18 := by omega
  have n2 : ¬ op ≤ 24 := by omega
  have n3 : ¬ op ≤ 30 := by omega
  have n4 : ¬ op ≤ 38 := by omega
  have n5 : ¬ op ≤ 40 := by omega
  have n6 : ¬ op ≤ 44 := by omega
  have n7 : ¬ op ≤ 46 := by omega
  have n8 : ¬ op ≤ 48 := by omega
  have i0 : ∀ V, (Instr.index 121 (.agg #[.int .i64 16, (.func (.func 47) #[] #[]), .int .i64 18, (.func (.func 48) #[] #[]), .int .i64 24, (.func (.func 49) #[] #[]), .int .i64 30, (.func (.func 50) #[] #[]), .int .i64 38, (.func (.func 51) #[] #[]), .int .i64 40, (.func (.func 52) #[] #[]), .int .i64 44, (.func (.func 53) #[] #[]), .int .i64 46, (.func (.func 54) #[] #[]), .int .i64 48, (.func (.func 55) #[] #[]), .int .i64 50, (.func (.func 56) #[] #[])]) (.int .i64 0)).run Try.prog V = .ok (.agg #[.int .i64 16, (.func (.func 47) #[] #[])]) V := fun V => by kernel_rfl
  have i1 : ∀ V, (Instr.index 121 (.agg #[.int .i64 16, (.func (.func 47) #[] #[]), .int .i64 18, (.func (.func 48) #[] #[]), .int .i64 24, (.func (.func 49) #[] #[]), .int .i64 30, (.func (.func 50) #[] #[]), .int .i64 38, (.func (.func 51) #[] #[]), .int .i64 40, (.func (.func 52) #[] #[]), .int .i64 44, (.func (.func 53) #[] #[]), .int .i64 46, (.func (.func 54) #[] #[]), .int .i64 48, (.func (.func 55) #[] #[]), .int .i64 50, (.func (.func 56) #[] #[])]) (.int .i64 1)).run Try.prog V = .ok (.agg #[.int .i64 18, (.func (.func 48) #[] #[])]) V := fun V => by kernel_rfl
  have i2 : ∀ V, (Instr.index 121 (.agg #[.int .i64 16, (.func (.func 47) #[] #[]), .int .i64 18, (.func (.func 48) #[] #[]), .int .i64 24, (.func (.func 49) #[] #[]), .int .i64 30, (.func (.func 50) #[] #[]), .int .i64 38, (.func (.func 51) #[] #[]), .int .i64 40, (.func (.func 52) #[] #[]), .int .i64 44, (.func (.func 53) #[] #[]), .int .i64 46, (.func (.func 54) #[] #[]), .int .i64 48, (.func (.func 55) #[] #[]), .int .i64 50, (.func (.func 56) #[] #[])]) (.int .i64 2)).run Try.prog V = .ok (.agg #[.int .i64 24, (.func (.func 49) #[] #[])]) V := fun V => by kernel_rfl
  have i3 : ∀ V, (Instr.index 121 (.agg #[.int .i64 16, (.func (.func 47) #[] #[]), .int .i64 18, (.func (.func 48) #[] #[]), .int .i64 24, (.func (.func 49) #[] #[]), .int .i64 30, (.func (.func 50) #[] #[]), .int .i64 38, (.func (.func 51) #[] #[]), .int .i64 40, (.func (.func 52) #[] #[]), .int .i64 44, (.func (.func 53) #[] #[]), .int .i64 46, (.func (.func 54) #[] #[]), .int .i64 48, (.func (.func 55) #[] #[]), .int .i64 50, (.func (.func 56) #[] #[])]) (.int .i64 3)).run Try.prog V = .ok (.agg #[.int .i64 30, (.func (.func 50) #[] #[])]) V := fun V => by kernel_rfl
  have i4 : ∀ V, (Instr.index 121 (.agg #[.int .i64 16, (.func (.func 47) #[] #[]), .int .i64 18, (.func (.func 48) #[] #[]), .int .i64 24, (.func (.func 49) #[] #[]), .int .i64 30, (.func (.func 50) #[] #[]), .int .i64 38, (.func (.func 51) #[] #[]), .int .i64 40, (.func (.func 52) #[] #[]), .int .i64 44, (.func (.func 53) #[] #[]), .int .i64 46, (.func (.func 54) #[] #[]), .int .i64 48, (.func (.func 55) #[] #[]), .int .i64 50, (.func (.func 56) #[] #[])]) (.int .i64 4)).run Try.prog V = .ok (.agg #[.int .i64 38, (.func (.func 51) #[] #[])]) V := fun V => by kernel_rfl
  have i5 : ∀ V, (Instr.index 121 (.agg #[.int .i64 16, (.func (.func 47) #[] #[]), .int .i64 18, (.func (.func 48) #[] #[]), .int .i64 24, (.func (.func 49) #[] #[]), .int .i64 30, (.func (.func 50) #[] #[]), .int .i64 38, (.func (.func 51) #[] #[]), .int .i64 40, (.func (.func 52) #[] #[]), .int .i64 44, (.func (.func 53) #[] #[]), .int .i64 46, (.func (.func 54) #[] #[]), .int .i64 48, (.func (.func 55) #[] #[]), .int .i64 50, (.func (.func 56) #[] #[])]) (.int .i64 5)).run Try.prog V = .ok (.agg #[.int .i64 40, (.func (.func 52) #[] #[])]) V := fun V => by kernel_rfl
  have i6 : ∀ V, (Instr.index 121 (.agg #[.int .i64 16, (.func (.func 47) #[] #[]), .int .i64 18, (.func (.func 48) #[] #[]), .int .i64 24, (.func (.func 49) #[] #[]), .int .i64 30, (.func (.func 50) #[] #[]), .int .i64 38, (.func (.func 51) #[] #[]), .int .i64 40, (.func (.func 52) #[] #[]), .int .i64 44, (.func (.func 53) #[] #[]), .int .i64 46, (.func (.func 54) #[] #[]), .int .i64 48, (.func (.func 55) #[] #[]), .int .i64 50, (.func (.func 56) #[] #[])]) (.int .i64 6)).run Try.prog V = .ok (.agg #[.int .i64 44, (.func (.func 53) #[] #[])]) V := fun V => by kernel_rfl
  have i7 : ∀ V, (Instr.index 121 (.agg #[.int .i64 16, (.func (.func 47) #[] #[]), .int .i64 18, (.func (.func 48) #[] #[]), .int .i64 24, (.func (.func 49) #[] #[]), .int .i64 30, (.func (.func 50) #[] #[]), .int .i64 38, (.func (.func 51) #[] #[]), .int .i64 40, (.func (.func 52) #[] #[]), .int .i64 44, (.func (.func 53) #[] #[]), .int .i64 46, (.func (.func 54) #[] #[]), .int .i64 48, (.func (.func 55) #[] #[]), .int .i64 50, (.func (.func 56) #[] #[])]) (.int .i64 7)).run Try.prog V = .ok (.agg #[.int .i64 46, (.func (.func 54) #[] #[])]) V := fun V => by kernel_rfl
  have i8 : ∀ V, (Instr.index 121 (.agg #[.int .i64 16, (.func (.func 47) #[] #[]), .int .i64 18, (.func (.func 48) #[] #[]), .int .i64 24, (.func (.func 49) #[] #[]), .int .i64 30, (.func (.func 50) #[] #[]), .int .i64 38, (.func (.func 51) #[] #[]), .int .i64 40, (.func (.func 52) #[] #[]), .int .i64 44, (.func (.func 53) #[] #[]), .int .i64 46, (.func (.func 54) #[] #[]), .int .i64 48, (.func (.func 55) #[] #[]), .int .i64 50, (.func (.func 56) #[] #[])]) (.int .i64 8)).run Try.prog V = .ok (.agg #[.int .i64 48, (.func (.func 55) #[] #[])]) V := fun V => by kernel_rfl
  have i9 : ∀ V, (Instr.index 121 (.agg #[.int .i64 16, (.func (.func 47) #[] #[]), .int .i64 18, (.func (.func 48) #[] #[]), .int .i64 24, (.func (.func 49) #[] #[]), .int .i64 30, (.func (.func 50) #[] #[]), .int .i64 38, (.func (.func 51) #[] #[]), .int .i64 40, (.func (.func 52) #[] #[]), .int .i64 44, (.func (.func 53) #[] #[]), .int .i64 46, (.func (.func 54) #[] #[]), .int .i64 48, (.func (.func 55) #[] #[]), .int .i64 50, (.func (.func 56) #[] #[])]) (.int .i64 9)).run Try.prog V = .ok (.agg #[.int .i64 50, (.func (.func 56) #[] #[])]) V := fun V => by kernel_rfl
  go_enter Try.func36, Try.ntmps36
  go_wp2
  refine wp_loop_rounds 11 ?_
  rw [rounds_succ]
  go_wp2
  rw [rounds_succ]
  go_wp2
  rw [rounds_succ]
  go_wp2
  rw [rounds_succ]
  go_wp2
  rw [rounds_succ]
  go_wp2
  rw [rounds_succ]
  go_wp2
  rw [rounds_succ]
  go_wp2
  rw [rounds_succ]
  go_wp2
  rw [rounds_succ]
  go_wp2
  rw [rounds_succ]
  go_wp2
  go_ret
  refine ⟨rfl, ?_⟩
  first | exact Below.refl _ _ | (repeat' (first | exact Below.refl _ _ | refine Below.alloc ?_ ?_ _)) <;> (first | (simp; done) | (simp; omega))
theorem method10 (op : Int) (h0 : ¬ op ≤ 50) (W : World) :
    Calls Try.prog 36 #[.int .i64 op] W fun e w' => e = .returned (.func (.func 54) #[] #[]) ∧ Below W.heap.size W w' := by
  have n0 : ¬ op ≤ 16 := by omega
  have n1 : ¬ op ≤ 18 := by omega
  have n2 : ¬ op ≤ 24 := by omega
  have n3 : ¬ op ≤ 30 := by omega
  have n4 : ¬ op ≤ 38 := by omega
  have n5 : ¬ op ≤ 40 := by omega
  have n6 : ¬ op ≤ 44 := by omega
  have n7 : ¬ op ≤ 46 := by omega
  have n8 : ¬ op ≤ 48 := by omega
  have n9 : ¬ op ≤ 50 := by omega
  have i0 : ∀ V, (Instr.index 121 (.agg #[.int .i64 16, (.func (.func 47) #[] #[]), .int .i64 18, (.func (.func 48) #[] #[]), .int .i64 24, (.func (.func 49) #[] #[]), .int .i64 30, (.func (.func 50) #[] #[]), .int .i64 38, (.func (.func 51) #[] #[]), .int .i64 40, (.func (.func 52) #[] #[]), .int .i64 44, (.func (.func 53) #[] #[]), .int .i64 46, (.func (.func 54) #[] #[]), .int .i64 48, (.func (.func 55) #[] #[]), .int .i64 50, (.func (.func 56) #[] #[])]) (.int .i64 0)).run Try.prog V = .ok (.agg #[.int .i64 16, (.func (.func 47) #[] #[])]) V := fun V => by kernel_rfl
  have i1 : ∀ V, (Instr.index 121 (.agg #[.int .i64 16, (.func (.func 47) #[] #[]), .int .i64 18, (.func (.func 48) #[] #[]), .int .i64 24, (.func (.func 49) #[] #[]), .int .i64 30, (.func (.func 50) #[] #[]), .int .i64 38, (.func (.func 51) #[] #[]), .int .i64 40, (.func (.func 52) #[] #[]), .int .i64 44, (.func (.func 53) #[] #[]), .int .i64 46, (.func (.func 54) #[] #[]), .int .i64 48, (.func (.func 55) #[] #[]), .int .i64 50, (.func (.func 56) #[] #[])]) (.int .i64 1)).run Try.prog V = .ok (.agg #[.int .i64 18, (.func (.func 48) #[] #[])]) V := fun V => by kernel_rfl
  have i2 : ∀ V, (Instr.index 121 (.agg #[.int .i64 16, (.func (.func 47) #[] #[]), .int .i64 18, (.func (.func 48) #[] #[]), .int .i64 24, (.func (.func 49) #[] #[]), .int .i64 30, (.func (.func 50) #[] #[]), .int .i64 38, (.func (.func 51) #[] #[]), .int .i64 40, (.func (.func 52) #[] #[]), .int .i64 44, (.func (.func 53) #[] #[]), .int .i64 46, (.func (.func 54) #[] #[]), .int .i64 48, (.func (.func 55) #[] #[]), .int .i64 50, (.func (.func 56) #[] #[])]) (.int .i64 2)).run Try.prog V = .ok (.agg #[.int .i64 24, (.func (.func 49) #[] #[])]) V := fun V => by kernel_rfl
  have i3 : ∀ V, (Instr.index 121 (.agg #[.int .i64 16, (.func (.func 47) #[] #[]), .int .i64 18, (.func (.func 48) #[] #[]), .int .i64 24, (.func (.func 49) #[] #[]), .int .i64 30, (.func (.func 50) #[] #[]), .int .i64 38, (.func (.func 51) #[] #[]), .int .i64 40, (.func (.func 52) #[] #[]), .int .i64 44, (.func (.func 53) #[] #[]), .int .i64 46, (.func (.func 54) #[] #[]), .int .i64 48, (.func (.func 55) #[] #[]), .int .i64 50, (.func (.func 56) #[] #[])]) (.int .i64 3)).run Try.prog V = .ok (.agg #[.int .i64 30, (.func (.func 50) #[] #[])]) V := fun V => by kernel_rfl
  have i4 : ∀ V, (Instr.index 121 (.agg #[.int .i64 16, (.func (.func 47) #[] #[]), .int .i64 18, (.func (.func 48) #[] #[]), .int .i64 24, (.func (.func 49) #[] #[]), .int .i64 30, (.func (.func 50) #[] #[]), .int .i64 38, (.func (.func 51) #[] #[]), .int .i64 40, (.func (.func 52) #[] #[]), .int .i64 44, (.func (.func 53) #[] #[]), .int .i64 46, (.func (.func 54) #[] #[]), .int .i64 48, (.func (.func 55) #[] #[]), .int .i64 50, (.func (.func 56) #[] #[])]) (.int .i64 4)).run Try.prog V = .ok (.agg #[.int .i64 38, (.func (.func 51) #[] #[])]) V := fun V => by kernel_rfl
  have i5 : ∀ V, (Instr.index 121 (.agg #[.int .i64 16, (.func (.func 47) #[] #[]), .int .i64 18, (.func (.func 48) #[] #[]), .int .i64 24, (.func (.func 49) #[] #[]), .int .i64 30, (.func (.func 50) #[] #[]), .int .i64 38, (.func (.func 51) #[] #[]), .int .i64 40, (.func (.func 52) #[] #[]), .int .i64 44, (.func (.func 53) #[] #[]), .int .i64 46, (.func (.func 54) #[] #[]), .int .i64 48, (.func (.func 55) #[] #[]), .int .i64 50, (.func (.func 56) #[] #[])]) (.int .i64 5)).run Try.prog V = .ok (.agg #[.int .i64 40, (.func (.func 52) #[] #[])]) V := fun V => by kernel_rfl
  have i6 : ∀ V, (Instr.index 121 (.agg #[.int .i64 16, (.func (.func 47) #[] #[]), .int .i64 18, (.func (.func 48) #[] #[]), .int .i64 24, (.func (.func 49) #[] #[]), .int .i64 30, (.func (.func 50) #[] #[]), .int .i64 38, (.func (.func 51) #[] #[]), .int .i64 40, (.func (.func 52) #[] #[]), .int .i64 44, (.func (.func 53) #[] #[]), .int .i64 46, (.func (.func 54) #[] #[]), .int .i64 48, (.func (.func 55) #[] #[]), .int .i64 50, (.func (.func 56) #[] #[])]) (.int .i64 6)).run Try.prog V = .ok (.agg #[.int .i64 44, (.func (.func 53) #[] #[])]) V := fun V => by kernel_rfl
  have i7 : ∀ V, (Instr.index 121 (.agg #[.int .i64 16, (.func (.func 47) #[] #[]), .int .i64 18, (.func (.func 48) #[] #[]), .int .i64 24, (.func (.func 49) #[] #[]), .int .i64 30, (.func (.func 50) #[] #[]), .int .i64 38, (.func (.func 51) #[] #[]), .int .i64 40, (.func (.func 52) #[] #[]), .int .i64 44, (.func (.func 53) #[] #[]), .int .i64 46, (.func (.func 54) #[] #[]), .int .i64 48, (.func (.func 55) #[] #[]), .int .i64 50, (.func (.func 56) #[] #[])]) (.int .i64 7)).run Try.prog V = .ok (.agg #[.int .i64 46, (.func (.func 54) #[] #[])]) V := fun V => by kernel_rfl
  have i8 : ∀ V, (Instr.index 121 (.agg #[.int .i64 16, (.func (.func 47) #[] #[]), .int .i64 18, (.func (.func 48) #[] #[]), .int .i64 24, (.func (.func 49) #[] #[]), .int .i64 30, (.func (.func 50) #[] #[]), .int .i64 38, (.func (.func 51) #[] #[]), .int .i64 40, (.func (.func 52) #[] #[]), .int .i64 44, (.func (.func 53) #[] #[]), .int .i64 46, (.func (.func 54) #[] #[]), .int .i64 48, (.func (.func 55) #[] #[]), .int .i64 50, (.func (.func 56) #[] #[])]) (.int .i64 8)).run Try.prog V = .ok (.agg #[.int .i64 48, (.func (.func 55) #[] #[])]) V := fun V => by kernel_rfl
  have i9 : ∀ V, (Instr.index 121 (.agg #[.int .i64 16, (.func (.func 47) #[] #[]), .int .i64 18, (.func (.func 48) #[] #[]), .int .i64 24, (.func (.func 49) #[] #[]), .int .i64 30, (.func (.func 50) #[] #[]), .int .i64 38, (.func (.func 51) #[] #[]), .int .i64 40, (.func (.func 52) #[] #[]), .int .i64 44, (.func (.func 53) #[] #[]), .int .i64 46, (.func (.func 54) #[] #[]), .int .i64 48, (.func (.func 55) #[] #[]), .int .i64 50, (.func (.func 56) #[] #[])]) (.int .i64 9)).run Try.prog V = .ok (.agg #[.int .i64 50, (.func (.func 56) #[] #[])]) V := fun V => by kernel_rfl
  go_enter Try.func36, Try.ntmps36
  go_wp2
  refine wp_loop_rounds 11 ?_
  rw [rounds_succ]
  go_wp2
  rw [rounds_succ]
  go_wp2
  rw [rounds_succ]
  go_wp2
  rw [rounds_succ]
  go_wp2
  rw [rounds_succ]
  go_wp2
  rw [rounds_succ]
  go_wp2
  rw [rounds_succ]
  go_wp2
  rw [rounds_succ]
  go_wp2
  rw [rounds_succ]
  go_wp2
  rw [rounds_succ]
  go_wp2
  rw [rounds_succ]
  go_wp2
  go_ret
  refine ⟨rfl, ?_⟩
  first | exact Below.refl _ _ | (repeat' (first | exact Below.refl _ _ | refine Below.alloc ?_ ?_ _)) <;> (first | (simp; done) | (simp; omega))
theorem method_is (op : Int) (W : World) : Calls Try.prog 36 #[.int .i64 op] W fun e w' => e = .returned (.func (.func (methodF op)) #[] #[]) ∧ Below W.heap.size W w' := by
  unfold methodF
  by_cases h0 : op ≤ 16
  · rw [if_pos h0]; exact method0 op h0 W
  rw [if_neg h0]
  by_cases h1 : op ≤ 18
  · rw [if_pos h1]; exact method1 op h0 h1 W
  rw [if_neg h1]
  by_cases h2 : op ≤ 24
  · rw [if_pos h2]; exact method2 op h1 h2 W
  rw [if_neg h2]
  by_cases h3 : op ≤ 30
  · rw [if_pos h3]; exact method3 op h2 h3 W
  rw [if_neg h3]
  by_cases h4 : op ≤ 38
  · rw [if_pos h4]; exact method4 op h3 h4 W
  rw [if_neg h4]
  by_cases h5 : op ≤ 40
  · rw [if_pos h5]; exact method5 op h4 h5 W
  rw [if_neg h5]
  by_cases h6 : op ≤ 44
  · rw [if_pos h6]; exact method6 op h5 h6 W
  rw [if_neg h6]
  by_cases h7 : op ≤ 46
  · rw [if_pos h7]; exact method7 op h6 h7 W
  rw [if_neg h7]
  by_cases h8 : op ≤ 48
  · rw [if_pos h8]; exact method8 op h7 h8 W
  rw [if_neg h8]
  by_cases h9 : op ≤ 50
  · rw [if_pos h9]; exact method9 op h8 h9 W
  rw [if_neg h9]
  exact method10 op h9 W
end Go.Proofs.Ytpfhplhamnohjaa
