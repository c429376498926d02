/- Layer 20: Load (mkload.py). Layer 20: the law's is (mkis.py). Layer 20: register, Reg, get: which cell a register is. Layer 20: Reg, Set, Line, enter. -/
import Derived.Test.YtpfhplhamnohjaaG08
namespace Go.Proofs.Ytpfhplhamnohjaa
set_option maxHeartbeats 25600000
set_option maxRecDepth 100000
open Go.RowKit

def isL (s : Sta) : Bool := ((bankB (s 29 % 32)).2) && (bits .and .u32 (s 28) 3 == 0) && (bits .andNot .u32 (s 29) 4026531999 == 0) && (s 23 == 0) && (bits .andNot .u32 (s 23) 4026531999 == 0) && (bits .andNot .u32 (s 24) 4026531999 == 0) && (bits .andNot .u32 (s 25) 4026531999 == 0) && (bits .andNot .u32 (s 26) 4026531999 == 0) && (bits .andNot .u32 (s 27) 4026531999 == 0)
theorem load0 (s s0 : Sta) (on : Bool) (g : Nat) (t : TypeId) (h29 : 0 ≤ s 29 ∧ s 29 < 4294967296) (W : World) (h : Blok W g t (cpuCells s0 on)) (q0 : ((bankB (s 29 % 32)).2) = false) :
    Calls Try.prog 18 #[.pointer (some ⟨g, 0, none⟩), .agg #[.int .u32 (s 0), .int .u32 (s 1), .int .u32 (s 2), .int .u32 (s 3), .int .u32 (s 4), .int .u32 (s 5), .int .u32 (s 6), .int .u32 (s 7), .int .u32 (s 8), .int .u32 (s 9), .int .u32 (s 10), .int .u32 (s 11), .int .u32 (s 12), .int .u32 (s 13), .int .u32 (s 14), .int .u32 (s 15), .int .u32 (s 16), .int .u32 (s 17), .int .u32 (s 18), .int .u32 (s 19), .int .u32 (s 20), .int .u32 (s 21), .int .u32 (s 22), .int .u32 (s 23), .int .u32 (s 24), .int .u32 (s 25), .int .u32 (s 26), .int .u32 (s 27), .int .u32 (s 28), .int .u32 (s 29)]] W fun e w' => e = .returned (.int .i64 200) ∧ Below W.heap.size W w' := by
  have hA : Blok (W.alloc (.cells (staA s) 26)) W.heap.size 26 (staCells s) := Blok.new W _ (staCells s)
  have hB : Below W.heap.size W (W.alloc (.cells (staA s) 26)) := (Below.refl _ _).alloc (Nat.le_refl _) _
  have hC := h.alloc (.cells (staA s) 26)
  have hg := h.lt
  have m2 : bits .and .u32 (s 29) 31 = s 29 % 32 := and32 5 (by decide) _ h29.1 (by simpa using h29.2)
  have d1 : wrap64 (s 29 % 32) = s 29 % 32 := by unfold wrap64; omega
  have R := Lib.hid (fun W => Bank_is (s 29 % 32) W)
  clear h29
  rw [q0] at R
  have i0 : ∀ (a b c d e : Int) (V : World), (Instr.index 24 (.agg #[.int .u32 a, .int .u32 b, .int .u32 c, .int .u32 d, .int .u32 e]) (.int .i64 0)).run Try.prog V = .ok (.int .u32 a) V := fun a b c d e V => by kernel_rfl
  have i1 : ∀ (a b c d e : Int) (V : World), (Instr.index 24 (.agg #[.int .u32 a, .int .u32 b, .int .u32 c, .int .u32 d, .int .u32 e]) (.int .i64 1)).run Try.prog V = .ok (.int .u32 b) V := fun a b c d e V => by kernel_rfl
  have i2 : ∀ (a b c d e : Int) (V : World), (Instr.index 24 (.agg #[.int .u32 a, .int .u32 b, .int .u32 c, .int .u32 d, .int .u32 e]) (.int .i64 2)).run Try.prog V = .ok (.int .u32 c) V := fun a b c d e V => by kernel_rfl
  have i3 : ∀ (a b c d e : Int) (V : World), (Instr.index 24 (.agg #[.int .u32 a, .int .u32 b, .int .u32 c, .int .u32 d, .int .u32 e]) (.int .i64 3)).run Try.prog V = .ok (.int .u32 d) V := fun a b c d e V => by kernel_rfl
  have i4 : ∀ (a b c d e : Int) (V : World), (Instr.index 24 (.agg #[.int .u32 a, .int .u32 b, .int .u32 c, .int .u32 d, .int .u32 e]) (.int .i64 4)).run Try.prog V = .ok (.int .u32 e) V := fun a b c d e V => by kernel_rfl
  go_enter Try.func18, Try.ntmps18
  go_upto_region 1 with fail
  generalize W.alloc (.cells (staA s) 26) = W1 at hA hB hC ⊢
  generalize Value.agg (staA s) = vs
  obtain ⟨c0, c1, c2, c3, c4, c5, c6, c7, c8, c9, c10, c11, c12, c13, c14, c15, c16, c17, c18, c19, c20, c21, c22, c23, c24, c25, c26, c27, c28, c29⟩ := sta_at (hA)
  go_upto_region 4 with (go_at_call 31; (with_reducible refine (R.out _).mono ?_); rintro e w1 ⟨rfl, rfl⟩)
  refine wp_loop_rounds 6 ?_
  rw [rounds_succ]
  go_wp2
  rw [rounds_succ]
  go_wp2
  rw [rounds_succ]
  go_wp2
  rw [rounds_succ]
  go_wp2
  rw [rounds_succ]
  go_wp2
  rw [rounds_succ]
  go_wp2
  go_ret
  exact ⟨rfl, hB⟩
theorem load1 (s s0 : Sta) (on : Bool) (g : Nat) (t : TypeId) (h29 : 0 ≤ s 29 ∧ s 29 < 4294967296) (W : World) (h : Blok W g t (cpuCells s0 on)) (q0 : ((bankB (s 29 % 32)).2) = true) (q1 : (bits .and .u32 (s 28) 3 == 0) = false) :
    Calls Try.prog 18 #[.pointer (some ⟨g, 0, none⟩), .agg #[.int .u32 (s 0), .int .u32 (s 1), .int .u32 (s 2), .int .u32 (s 3), .int .u32 (s 4), .int .u32 (s 5), .int .u32 (s 6), .int .u32 (s 7), .int .u32 (s 8), .int .u32 (s 9), .int .u32 (s 10), .int .u32 (s 11), .int .u32 (s 12), .int .u32 (s 13), .int .u32 (s 14), .int .u32 (s 15), .int .u32 (s 16), .int .u32 (s 17), .int .u32 (s 18), .int .u32 (s 19), .int .u32 (s 20), .int .u32 (s 21), .int .u32 (s 22), .int .u32 (s 23), .int .u32 (s 24), .int .u32 (s 25), .int .u32 (s 26), .int .u32 (s 27), .int .u32 (s 28), .int .u32 (s 29)]] W fun e w' => e = .returned (.int .i64 200) ∧ Below W.heap.size W w' := by
  have hA : Blok (W.alloc (.cells (staA s) 26)) W.heap.size 26 (staCells s) := Blok.new W _ (staCells s)
  have hB : Below W.heap.size W (W.alloc (.cells (staA s) 26)) := (Below.refl _ _).alloc (Nat.le_refl _) _
  have hC := h.alloc (.cells (staA s) 26)
  have hg := h.lt
  have m2 : bits .and .u32 (s 29) 31 = s 29 % 32 := and32 5 (by decide) _ h29.1 (by simpa using h29.2)
  have d1 : wrap64 (s 29 % 32) = s 29 % 32 := by unfold wrap64; omega
  have R := Lib.hid (fun W => Bank_is (s 29 % 32) W)
  clear h29
  rw [q0] at R
  have i0 : ∀ (a b c d e : Int) (V : World), (Instr.index 24 (.agg #[.int .u32 a, .int .u32 b, .int .u32 c, .int .u32 d, .int .u32 e]) (.int .i64 0)).run Try.prog V = .ok (.int .u32 a) V := fun a b c d e V => by kernel_rfl
  have i1 : ∀ (a b c d e : Int) (V : World), (Instr.index 24 (.agg #[.int .u32 a, .int .u32 b, .int .u32 c, .int .u32 d, .int .u32 e]) (.int .i64 1)).run Try.prog V = .ok (.int .u32 b) V := fun a b c d e V => by kernel_rfl
  have i2 : ∀ (a b c d e : Int) (V : World), (Instr.index 24 (.agg #[.int .u32 a, .int .u32 b, .int .u32 c, .int .u32 d, .int .u32 e]) (.int .i64 2)).run Try.prog V = .ok (.int .u32 c) V := fun a b c d e V => by kernel_rfl
  have i3 : ∀ (a b c d e : Int) (V : World), (Instr.index 24 (.agg #[.int .u32 a, .int .u32 b, .int .u32 c, .int .u32 d, .int .u32 e]) (.int .i64 3)).run Try.prog V = .ok (.int .u32 d) V := fun a b c d e V => by kernel_rfl
  have i4 : ∀ (a b c d e : Int) (V : World), (Instr.index 24 (.agg #[.int .u32 a, .int .u32 b, .int .u32 c, .int .u32 d, .int .u32 e]) (.int .i64 4)).run Try.prog V = .ok (.int .u32 e) V := fun a b c d e V => by kernel_rfl
  go_enter Try.func18, Try.ntmps18
  go_upto_region 1 with fail
  generalize W.alloc (.cells (staA s) 26) = W1 at hA hB hC ⊢
  generalize Value.agg (staA s) = vs
  obtain ⟨c0, c1, c2, c3, c4, c5, c6, c7, c8, c9, c10, c11, c12, c13, c14, c15, c16, c17, c18, c19, c20, c21, c22, c23, c24, c25, c26, c27, c28, c29⟩ := sta_at (hA)
  go_upto_region 4 with (go_at_call 31; (with_reducible refine (R.out _).mono ?_); rintro e w1 ⟨rfl, rfl⟩)
  refine wp_loop_rounds 6 ?_
  rw [rounds_succ]
  go_wp2
  rw [rounds_succ]
  go_wp2
  rw [rounds_succ]
  go_wp2
  rw [rounds_succ]
  go_wp2
  rw [rounds_succ]
  go_wp2
  rw [rounds_succ]
  go_wp2
  go_ret
  exact ⟨rfl, hB⟩
theorem load2 (s s0 : Sta) (on : Bool) (g : Nat) (t : TypeId) (h29 : 0 ≤ s 29 ∧ s 29 < 4294967296) (W : World) (h : Blok W g t (cpuCells s0 on)) (q0 : ((bankB (s 29 % 32)).2) = true) (q1 : (bits .and .u32 (s 28) 3 == 0) = true) (q2 : (bits .andNot .u32 (s 29) 4026531999 == 0) = false) :
    Calls Try.prog 18 #[.pointer (some ⟨g, 0, none⟩), .agg #[.int .u32 (s 0), .int .u32 (s 1), .int .u32 (s 2), .int .u32 (s 3), .int .u32 (s 4), .int .u32 (s 5), .int .u32 (s 6), .int .u32 (s 7), .int .u32 (s 8), .int .u32 (s 9), .int .u32 (s 10), .int .u32 (s 11), .int .u32 (s 12), .int .u32 (s 13), .int .u32 (s 14), .int .u32 (s 15), .int .u32 (s 16), .int .u32 (s 17), .int .u32 (s 18), .int .u32 (s 19), .int .u32 (s 20), .int .u32 (s 21), .int .u32 (s 22), .int .u32 (s 23), .int .u32 (s 24), .int .u32 (s 25), .int .u32 (s 26), .int .u32 (s 27), .int .u32 (s 28), .int .u32 (s 29)]] W fun e w' => e = .returned (.int .i64 200) ∧ Below W.heap.size W w' := by
  have hA : Blok (W.alloc (.cells (staA s) 26)) W.heap.size 26 (staCells s) := Blok.new W _ (staCells s)
  have hB : Below W.heap.size W (W.alloc (.cells (staA s) 26)) := (Below.refl _ _).alloc (Nat.le_refl _) _
  have hC := h.alloc (.cells (staA s) 26)
  have hg := h.lt
  have m2 : bits .and .u32 (s 29) 31 = s 29 % 32 := and32 5 (by decide) _ h29.1 (by simpa using h29.2)
  have d1 : wrap64 (s 29 % 32) = s 29 % 32 := by unfold wrap64; omega
  have R := Lib.hid (fun W => Bank_is (s 29 % 32) W)
  clear h29
  rw [q0] at R
  have i0 : ∀ (a b c d e : Int) (V : World), (Instr.index 24 (.agg #[.int .u32 a, .int .u32 b, .int .u32 c, .int .u32 d, .int .u32 e]) (.int .i64 0)).run Try.prog V = .ok (.int .u32 a) V := fun a b c d e V => by kernel_rfl
  have i1 : ∀ (a b c d e : Int) (V : World), (Instr.index 24 (.agg #[.int .u32 a, .int .u32 b, .int .u32 c, .int .u32 d, .int .u32 e]) (.int .i64 1)).run Try.prog V = .ok (.int .u32 b) V := fun a b c d e V => by kernel_rfl
  have i2 : ∀ (a b c d e : Int) (V : World), (Instr.index 24 (.agg #[.int .u32 a, .int .u32 b, .int .u32 c, .int .u32 d, .int .u32 e]) (.int .i64 2)).run Try.prog V = .ok (.int .u32 c) V := fun a b c d e V => by kernel_rfl
  have i3 : ∀ (a b c d e : Int) (V : World), (Instr.index 24 (.agg #[.int .u32 a, .int .u32 b, .int .u32 c, .int .u32 d, .int .u32 e]) (.int .i64 3)).run Try.prog V = .ok (.int .u32 d) V := fun a b c d e V => by kernel_rfl
  have i4 : ∀ (a b c d e : Int) (V : World), (Instr.index 24 (.agg #[.int .u32 a, .int .u32 b, .int .u32 c, .int .u32 d, .int .u32 e]) (.int .i64 4)).run Try.prog V = .ok (.int .u32 e) V := fun a b c d e V => by kernel_rfl
  go_enter Try.func18, Try.ntmps18
  go_upto_region 1 with fail
  generalize W.alloc (.cells (staA s) 26) = W1 at hA hB hC ⊢
  generalize Value.agg (staA s) = vs
  obtain ⟨c0, c1, c2, c3, c4, c5, c6, c7, c8, c9, c10, c11, c12, c13, c14, c15, c16, c17, c18, c19, c20, c21, c22, c23, c24, c25, c26, c27, c28, c29⟩ := sta_at (hA)
  go_upto_region 4 with (go_at_call 31; (with_reducible refine (R.out _).mono ?_); rintro e w1 ⟨rfl, rfl⟩)
  refine wp_loop_rounds 6 ?_
  rw [rounds_succ]
  go_wp2
  rw [rounds_succ]
  go_wp2
  rw [rounds_succ]
  go_wp2
  rw [rounds_succ]
  go_wp2
  rw [rounds_succ]
  go_wp2
  rw [rounds_succ]
  go_wp2
  go_ret
  exact ⟨rfl, hB⟩
theorem load3 (s s0 : Sta) (on : Bool) (g : Nat) (t : TypeId) (h29 : 0 ≤ s 29 ∧ s 29 < 4294967296) (W : World) (h : Blok W g t (cpuCells s0 on)) (q0 : ((bankB (s 29 % 32)).2) = true) (q1 : (bits .and .u32 (s 28) 3 == 0) = true) (q2 : (bits .andNot .u32 (s 29) 4026531999 == 0) = true) (q3 : (s 23 == 0) = false) :
    Calls Try.prog 18 #[.pointer (some ⟨g, 0, none⟩), .agg #[.int .u32 (s 0), .int .u32 (s 1), .int .u32 (s 2), .int .u32 (s 3), .int .u32 (s 4), .int .u32 (s 5), .int .u32 (s 6), .int .u32 (s 7), .int .u32 (s 8), .int .u32 (s 9), .int .u32 (s 10), .int .u32 (s 11), .int .u32 (s 12), .int .u32 (s 13), .int .u32 (s 14), .int .u32 (s 15), .int .u32 (s 16), .int .u32 (s 17), .int .u32 (s 18), .int .u32 (s 19), .int .u32 (s 20), .int .u32 (s 21), .int .u32 (s 22), .int .u32 (s 23), .int .u32 (s 24), .int .u32 (s 25), .int .u32 (s 26), .int .u32 (s 27), .int .u32 (s 28), .int .u32 (s 29)]] W fun e w' => e = .returned (.int .i64 200) ∧ Below W.heap.size W w' := by
  have hA : Blok (W.alloc (.cells (staA s) 26)) W.heap.size 26 (staCells s) := Blok.new W _ (staCells s)
  have hB : Below W.heap.size W (W.alloc (.cells (staA s) 26)) := (Below.refl _ _).alloc (Nat.le_refl _) _
  have hC := h.alloc (.cells (staA s) 26)
  have hg := h.lt
  have m2 : bits .and .u32 (s 29) 31 = s 29 % 32 := and32 5 (by decide) _ h29.1 (by simpa using h29.2)
  have d1 : wrap64 (s 29 % 32) = s 29 % 32 := by unfold wrap64; omega
  have R := Lib.hid (fun W => Bank_is (s 29 % 32) W)
  clear h29
  rw [q0] at R
  have i0 : ∀ (a b c d e : Int) (V : World), (Instr.index 24 (.agg #[.int .u32 a, .int .u32 b, .int .u32 c, .int .u32 d, .int .u32 e]) (.int .i64 0)).run Try.prog V = .ok (.int .u32 a) V := fun a b c d e V => by kernel_rfl
  have i1 : ∀ (a b c d e : Int) (V : World), (Instr.index 24 (.agg #[.int .u32 a, .int .u32 b, .int .u32 c, .int .u32 d, .int .u32 e]) (.int .i64 1)).run Try.prog V = .ok (.int .u32 b) V := fun a b c d e V => by kernel_rfl
  have i2 : ∀ (a b c d e : Int) (V : World), (Instr.index 24 (.agg #[.int .u32 a, .int .u32 b, .int .u32 c, .int .u32 d, .int .u32 e]) (.int .i64 2)).run Try.prog V = .ok (.int .u32 c) V := fun a b c d e V => by kernel_rfl
  have i3 : ∀ (a b c d e : Int) (V : World), (Instr.index 24 (.agg #[.int .u32 a, .int .u32 b, .int .u32 c, .int .u32 d, .int .u32 e]) (.int .i64 3)).run Try.prog V = .ok (.int .u32 d) V := fun a b c d e V => by kernel_rfl
  have i4 : ∀ (a b c d e : Int) (V : World), (Instr.index 24 (.agg #[.int .u32 a, .int .u32 b, .int .u32 c, .int .u32 d, .int .u32 e]) (.int .i64 4)).run Try.prog V = .ok (.int .u32 e) V := fun a b c d e V => by kernel_rfl
  go_enter Try.func18, Try.ntmps18
  go_upto_region 1 with fail
  generalize W.alloc (.cells (staA s) 26) = W1 at hA hB hC ⊢
  generalize Value.agg (staA s) = vs
  obtain ⟨c0, c1, c2, c3, c4, c5, c6, c7, c8, c9, c10, c11, c12, c13, c14, c15, c16, c17, c18, c19, c20, c21, c22, c23, c24, c25, c26, c27, c28, c29⟩ := sta_at (hA)
  go_upto_region 4 with (go_at_call 31; (with_reducible refine (R.out _).mono ?_); rintro e w1 ⟨rfl, rfl⟩)
  refine wp_loop_rounds 6 ?_
  rw [rounds_succ]
  go_wp2
  rw [rounds_succ]
  go_wp2
  rw [rounds_succ]
  go_wp2
  rw [rounds_succ]
  go_wp2
  rw [rounds_succ]
  go_wp2
  rw [rounds_succ]
  go_wp2
  go_ret
  exact ⟨rfl, hB⟩
theorem load4 (s s0 : Sta) (on : Bool) (g : Nat) (t : TypeId) (h29 : 0 ≤ s 29 ∧ s 29 < 4294967296) (W : World) (h : Blok W g t (cpuCells s0 on)) (q0 : ((bankB (s 29 % 32)).2) = true) (q1 : (bits .and .u32 (s 28) 3 == 0) = true) (q2 : (bits .andNot .u32 (s 29) 4026531999 == 0) = true) (q3 : (s 23 == 0) = true) (q4 : (bits .andNot .u32 (s 23) 4026531999 == 0) = false) :
    Calls Try.prog 18 #[.pointer (some ⟨g, 0, none⟩), .agg #[.int .u32 (s 0), .int .u32 (s 1), .int .u32 (s 2), .int .u32 (s 3), .int .u32 (s 4), .int .u32 (s 5), .int .u32 (s 6), .int .u32 (s 7), .int .u32 (s 8), .int .u32 (s 9), .int .u32 (s 10), .int .u32 (s 11), .int .u32 (s 12), .int .u32 (s 13), .int .u32 (s 14), .int .u32 (s 15), .int .u32 (s 16), .int .u32 (s 17), .int .u32 (s 18), .int .u32 (s 19), .int .u32 (s 20), .int .u32 (s 21), .int .u32 (s 22), .int .u32 (s 23), .int .u32 (s 24), .int .u32 (s 25), .int .u32 (s 26), .int .u32 (s 27), .int .u32 (s 28), .int .u32 (s 29)]] W fun e w' => e = .returned (.int .i64 200) ∧ Below W.heap.size W w' := by
  have hA : Blok (W.alloc (.cells (staA s) 26)) W.heap.size 26 (staCells s) := Blok.new W _ (staCells s)
  have hB : Below W.heap.size W (W.alloc (.cells (staA s) 26)) := (Below.refl _ _).alloc (Nat.le_refl _) _
  have hC := h.alloc (.cells (staA s) 26)
  have hg := h.lt
  have m2 : bits .and .u32 (s 29) 31 = s 29 % 32 := and32 5 (by decide) _ h29.1 (by simpa using h29.2)
  have d1 : wrap64 (s 29 % 32) = s 29 % 32 := by unfold wrap64; omega
  have R := Lib.hid (fun W => Bank_is (s 29 % 32) W)
  clear h29
  rw [q0] at R
  have i0 : ∀ (a b c d e : Int) (V : World), (Instr.index 24 (.agg #[.int .u32 a, .int .u32 b, .int .u32 c, .int .u32 d, .int .u32 e]) (.int .i64 0)).run Try.prog V = .ok (.int .u32 a) V := fun a b c d e V => by kernel_rfl
  have i1 : ∀ (a b c d e : Int) (V : World), (Instr.index 24 (.agg #[.int .u32 a, .int .u32 b, .int .u32 c, .int .u32 d, .int .u32 e]) (.int .i64 1)).run Try.prog V = .ok (.int .u32 b) V := fun a b c d e V => by kernel_rfl
  have i2 : ∀ (a b c d e : Int) (V : World), (Instr.index 24 (.agg #[.int .u32 a, .int .u32 b, .int .u32 c, .int .u32 d, .int .u32 e]) (.int .i64 2)).run Try.prog V = .ok (.int .u32 c) V := fun a b c d e V => by kernel_rfl
  have i3 : ∀ (a b c d e : Int) (V : World), (Instr.index 24 (.agg #[.int .u32 a, .int .u32 b, .int .u32 c, .int .u32 d, .int .u32 e]) (.int .i64 3)).run Try.prog V = .ok (.int .u32 d) V := fun a b c d e V => by kernel_rfl
  have i4 : ∀ (a b c d e : Int) (V : World), (Instr.index 24 (.agg #[.int .u32 a, .int .u32 b, .int .u32 c, .int .u32 d, .int .u32 e]) (.int .i64 4)).run Try.prog V = .ok (.int .u32 e) V := fun a b c d e V => by kernel_rfl
  go_enter Try.func18, Try.ntmps18
  go_upto_region 1 with fail
  generalize W.alloc (.cells (staA s) 26) = W1 at hA hB hC ⊢
  generalize Value.agg (staA s) = vs
  obtain ⟨c0, c1, c2, c3, c4, c5, c6, c7, c8, c9, c10, c11, c12, c13, c14, c15, c16, c17, c18, c19, c20, c21, c22, c23, c24, c25, c26, c27, c28, c29⟩ := sta_at (hA)
  go_upto_region 4 with (go_at_call 31; (with_reducible refine (R.out _).mono ?_); rintro e w1 ⟨rfl, rfl⟩)
  refine wp_loop_rounds 6 ?_
  rw [rounds_succ]
  go_wp2
  rw [rounds_succ]
  go_wp2
  rw [rounds_succ]
  go_wp2
  rw [rounds_succ]
  go_wp2
  rw [rounds_succ]
  go_wp2
  rw [rounds_succ]
  go_wp2
  go_ret
  exact ⟨rfl, hB⟩
theorem load5 (s s0 : Sta) (on : Bool) (g : Nat) (t : TypeId) (h29 : 0 ≤ s 29 ∧ s 29 < 4294967296) (W : World) (h : Blok W g t (cpuCells s0 on)) (q0 : ((bankB (s 29 % 32)).2) = true) (q1 : (bits .and .u32 (s 28) 3 == 0) = true) (q2 : (bits .andNot .u32 (s 29) 4026531999 == 0) = true) (q3 : (s 23 == 0) = true) (q4 : (bits .andNot .u32 (s 23) 4026531999 == 0) = true) (q5 : (bits .andNot .u32 (s 24) 4026531999 == 0) = false) :
    Calls Try.prog 18 #[.pointer (some ⟨g, 0, none⟩), .agg #[.int .u32 (s 0), .int .u32 (s 1), .int .u32 (s 2), .int .u32 (s 3), .int .u32 (s 4), .int .u32 (s 5), .int .u32 (s 6), .int .u32 (s 7), .int .u32 (s 8), .int .u32 (s 9), .int .u32 (s 10), .int .u32 (s 11), .int .u32 (s 12), .int .u32 (s 13), .int .u32 (s 14), .int .u32 (s 15), .int .u32 (s 16), .int .u32 (s 17), .int .u32 (s 18), .int .u32 (s 19), .int .u32 (s 20), .int .u32 (s 21), .int .u32 (s 22), .int .u32 (s 23), .int .u32 (s 24), .int .u32 (s 25), .int .u32 (s 26), .int .u32 (s 27), .int .u32 (s 28), .int .u32 (s 29)]] W fun e w' => e = .returned (.int .i64 200) ∧ Below W.heap.size W w' := by
  have hA : Blok (W.alloc (.cells (staA s) 26)) W.heap.size 26 (staCells s) := Blok.new W _ (staCells s)
  have hB : Below W.heap.size W (W.alloc (.cells (staA s) 26)) := (Below.refl _ _).alloc (Nat.le_refl _) _
  have hC := h.alloc (.cells (staA s) 26)
  have hg := h.lt
  have m2 : bits .and .u32 (s 29) 31 = s 29 % 32 := and32 5 (by decide) _ h29.1 (by simpa using h29.2)
  have d1 : wrap64 (s 29 % 32) = s 29 % 32 := by unfold wrap64; omega
  have R := Lib.hid (fun W => Bank_is (s 29 % 32) W)
  clear h29
  rw [q0] at R
  have i0 : ∀ (a b c d e : Int) (V : World), (Instr.index 24 (.agg #[.int .u32 a, .int .u32 b, .int .u32 c, .int .u32 d, .int .u32 e]) (.int .i64 0)).run Try.prog V = .ok (.int .u32 a) V := fun a b c d e V => by kernel_rfl
  have i1 : ∀ (a b c d e : Int) (V : World), (Instr.index 24 (.agg #[.int .u32 a, .int .u32 b, .int .u32 c, .int .u32 d, .int .u32 e]) (.int .i64 1)).run Try.prog V = .ok (.int .u32 b) V := fun a b c d e V => by kernel_rfl
  have i2 : ∀ (a b c d e : Int) (V : World), (Instr.index 24 (.agg #[.int .u32 a, .int .u32 b, .int .u32 c, .int .u32 d, .int .u32 e]) (.int .i64 2)).run Try.prog V = .ok (.int .u32 c) V := fun a b c d e V => by kernel_rfl
  have i3 : ∀ (a b c d e : Int) (V : World), (Instr.index 24 (.agg #[.int .u32 a, .int .u32 b, .int .u32 c, .int .u32 d, .int .u32 e]) (.int .i64 3)).run Try.prog V = .ok (.int .u32 d) V := fun a b c d e V => by kernel_rfl
  have i4 : ∀ (a b c d e : Int) (V : World), (Instr.index 24 (.agg #[.int .u32 a, .int .u32 b, .int .u32 c, .int .u32 d, .int .u32 e]) (.int .i64 4)).run Try.prog V = .ok (.int .u32 e) V := fun a b c d e V => by kernel_rfl
  go_enter Try.func18, Try.ntmps18
  go_upto_region 1 with fail
  generalize W.alloc (.cells (staA s) 26) = W1 at hA hB hC ⊢
  generalize Value.agg (staA s) = vs
  obtain ⟨c0, c1, c2, c3, c4, c5, c6, c7, c8, c9, c10, c11, c12, c13, c14, c15, c16, c17, c18, c19, c20, c21, c22, c23, c24, c25, c26, c27, c28, c29⟩ := sta_at (hA)
  go_upto_region 4 with (go_at_call 31; (with_reducible refine (R.out _).mono ?_); rintro e w1 ⟨rfl, rfl⟩)
  refine wp_loop_rounds 6 ?_
  rw [rounds_succ]
  go_wp2
  rw [rounds_succ]
  go_wp2
  rw [rounds_succ]
  go_wp2
  rw [rounds_succ]
  go_wp2
  rw [rounds_succ]
  go_wp2
  rw [rounds_succ]
  go_wp2
  go_ret
  exact ⟨rfl, hB⟩
theorem load6 (s s0 : Sta) (on : Bool) (g : Nat) (t : TypeId) (h29 : 0 ≤ s 29 ∧ s 29 < 4294967296) (W : World) (h : Blok W g t (cpuCells s0 on)) (q0 : ((bankB (s 29 % 32)).2) = true) (q1 : (bits .and .u32 (s 28) 3 == 0) = true) (q2 : (bits .andNot .u32 (s 29) 4026531999 == 0) = true) (q3 : (s 23 == 0) = true) (q4 : (bits .andNot .u32 (s 23) 4026531999 == 0) = true) (q5 : (bits .andNot .u32 (s 24) 4026531999 == 0) = true) (q6 : (bits .andNot .u32 (s 25) 4026531999 == 0) = false) :
    Calls Try.prog 18 #[.pointer (some ⟨g, 0, none⟩), .agg #[.int .u32 (s 0), .int .u32 (s 1), .int .u32 (s 2), .int .u32 (s 3), .int .u32 (s 4), .int .u32 (s 5), .int .u32 (s 6), .int .u32 (s 7), .int .u32 (s 8), .int .u32 (s 9), .int .u32 (s 10), .int .u32 (s 11), .int .u32 (s 12), .int .u32 (s 13), .int .u32 (s 14), .int .u32 (s 15), .int .u32 (s 16), .int .u32 (s 17), .int .u32 (s 18), .int .u32 (s 19), .int .u32 (s 20), .int .u32 (s 21), .int .u32 (s 22), .int .u32 (s 23), .int .u32 (s 24), .int .u32 (s 25), .int .u32 (s 26), .int .u32 (s 27), .int .u32 (s 28), .int .u32 (s 29)]] W fun e w' => e = .returned (.int .i64 200) ∧ Below W.heap.size W w' := by
  have hA : Blok (W.alloc (.cells (staA s) 26)) W.heap.size 26 (staCells s) := Blok.new W _ (staCells s)
  have hB : Below W.heap.size W (W.alloc (.cells (staA s) 26)) := (Below.refl _ _).alloc (Nat.le_refl _) _
  have hC := h.alloc (.cells (staA s) 26)
  have hg := h.lt
  have m2 : bits .and .u32 (s 29) 31 = s 29 % 32 := and32 5 (by decide) _ h29.1 (by simpa using h29.2)
  have d1 : wrap64 (s 29 % 32) = s 29 % 32 := by unfold wrap64; omega
  have R := Lib.hid (fun W => Bank_is (s 29 % 32) W)
  clear h29
  rw [q0] at R
  have i0 : ∀ (a b c d e : Int) (V : World), (Instr.index 24 (.agg #[.int .u32 a, .int .u32 b, .int .u32 c, .int .u32 d, .int .u32 e]) (.int .i64 0)).run Try.prog V = .ok (.int .u32 a) V := fun a b c d e V => by kernel_rfl
  have i1 : ∀ (a b c d e : Int) (V : World), (Instr.index 24 (.agg #[.int .u32 a, .int .u32 b, .int .u32 c, .int .u32 d, .int .u32 e]) (.int .i64 1)).run Try.prog V = .ok (.int .u32 b) V := fun a b c d e V => by kernel_rfl
  have i2 : ∀ (a b c d e : Int) (V : World), (Instr.index 24 (.agg #[.int .u32 a, .int .u32 b, .int .u32 c, .int .u32 d, .int .u32 e]) (.int .i64 2)).run Try.prog V = .ok (.int .u32 c) V := fun a b c d e V => by kernel_rfl
  have i3 : ∀ (a b c d e : Int) (V : World), (Instr.index 24 (.agg #[.int .u32 a, .int .u32 b, .int .u32 c, .int .u32 d, .int .u32 e]) (.int .i64 3)).run Try.prog V = .ok (.int .u32 d) V := fun a b c d e V => by kernel_rfl
  have i4 : ∀ (a b c d e : Int) (V : World), (Instr.index 24 (.agg #[.int .u32 a, .int .u32 b, .int .u32 c, .int .u32 d, .int .u32 e]) (.int .i64 4)).run Try.prog V = .ok (.int .u32 e) V := fun a b c d e V => by kernel_rfl
  go_enter Try.func18, Try.ntmps18
  go_upto_region 1 with fail
  generalize W.alloc (.cells (staA s) 26) = W1 at hA hB hC ⊢
  generalize Value.agg (staA s) = vs
  obtain ⟨c0, c1, c2, c3, c4, c5, c6, c7, c8, c9, c10, c11, c12, c13, c14, c15, c16, c17, c18, c19, c20, c21, c22, c23, c24, c25, c26, c27, c28, c29⟩ := sta_at (hA)
  go_upto_region 4 with (go_at_call 31; (with_reducible refine (R.out _).mono ?_); rintro e w1 ⟨rfl, rfl⟩)
  refine wp_loop_rounds 6 ?_
  rw [rounds_succ]
  go_wp2
  rw [rounds_succ]
  go_wp2
  rw [rounds_succ]
  go_wp2
  rw [rounds_succ]
  go_wp2
  rw [rounds_succ]
  go_wp2
  rw [rounds_succ]
  go_wp2
  go_ret
  exact ⟨rfl, hB⟩
theorem load7 (s s0 : Sta) (on : Bool) (g : Nat) (t : TypeId) (h29 : 0 ≤ s 29 ∧ s 29 < 4294967296) (W : World) (h : Blok W g t (cpuCells s0 on)) (q0 : ((bankB (s 29 % 32)).2) = true) (q1 : (bits .and .u32 (s 28) 3 == 0) = true) (q2 : (bits .andNot .u32 (s 29) 4026531999 == 0) = true) (q3 : (s 23 == 0) = true) (q4 : (bits .andNot .u32 (s 23) 4026531999 == 0) = true) (q5 : (bits .andNot .u32 (s 24) 4026531999 == 0) = true) (q6 : (bits .andNot .u32 (s 25) 4026531999 == 0) = true) (q7 : (bits .andNot .u32 (s 26) 4026531999 == 0) = false) :
    Calls Try.prog 18 #[.pointer (some ⟨g, 0, none⟩), .agg #[.int .u32 (s 0), .int .u32 (s 1), .int .u32 (s 2), .int .u32 (s 3), .int .u32 (s 4), .int .u32 (s 5), .int .u32 (s 6), .int .u32 (s 7), .int .u32 (s 8), .int .u32 (s 9), .int .u32 (s 10), .int .u32 (s 11), .int .u32 (s 12), .int .u32 (s 13), .int .u32 (s 14), .int .u32 (s 15), .int .u32 (s 16), .int .u32 (s 17), .int .u32 (s 18), .int .u32 (s 19), .int .u32 (s 20), .int .u32 (s 21), .int .u32 (s 22), .int .u32 (s 23), .int .u32 (s 24), .int .u32 (s 25), .int .u32 (s 26), .int .u32 (s 27), .int .u32 (s 28), .int .u32 (s 29)]] W fun e w' => e = .returned (.int .i64 200) ∧ Below W.heap.size W w' := by
  have hA : Blok (W.alloc (.cells (staA s) 26)) W.heap.size 26 (staCells s) := Blok.new W _ (staCells s)
  have hB : Below W.heap.size W (W.alloc (.cells (staA s) 26)) := (Below.refl _ _).alloc (Nat.le_refl _) _
  have hC := h.alloc (.cells (staA s) 26)
  have hg := h.lt
  have m2 : bits .and .u32 (s 29) 31 = s 29 % 32 := and32 5 (by decide) _ h29.1 (by simpa using h29.2)
  have d1 : wrap64 (s 29 % 32) = s 29 % 32 := by unfold wrap64; omega
  have R := Lib.hid (fun W => Bank_is (s 29 % 32) W)
  clear h29
  rw [q0] at R
  have i0 : ∀ (a b c d e : Int) (V : World), (Instr.index 24 (.agg #[.int .u32 a, .int .u32 b, .int .u32 c, .int .u32 d, .int .u32 e]) (.int .i64 0)).run Try.prog V = .ok (.int .u32 a) V := fun a b c d e V => by kernel_rfl
  have i1 : ∀ (a b c d e : Int) (V : World), (Instr.index 24 (.agg #[.int .u32 a, .int .u32 b, .int .u32 c, .int .u32 d, .int .u32 e]) (.int .i64 1)).run Try.prog V = .ok (.int .u32 b) V := fun a b c d e V => by kernel_rfl
  have i2 : ∀ (a b c d e : Int) (V : World), (Instr.index 24 (.agg #[.int .u32 a, .int .u32 b, .int .u32 c, .int .u32 d, .int .u32 e]) (.int .i64 2)).run Try.prog V = .ok (.int .u32 c) V := fun a b c d e V => by kernel_rfl
  have i3 : ∀ (a b c d e : Int) (V : World), (Instr.index 24 (.agg #[.int .u32 a, .int .u32 b, .int .u32 c, .int .u32 d, .int .u32 e]) (.int .i64 3)).run Try.prog V = .ok (.int .u32 d) V := fun a b c d e V => by kernel_rfl
  have i4 : ∀ (a b c d e : Int) (V : World), (Instr.index 24 (.agg #[.int .u32 a, .int .u32 b, .int .u32 c, .int .u32 d, .int .u32 e]) (.int .i64 4)).run Try.prog V = .ok (.int .u32 e) V := fun a b c d e V => by kernel_rfl
  go_enter Try.func18, Try.ntmps18
  go_upto_region 1 with fail
  generalize W.alloc (.cells (staA s) 26) = W1 at hA hB hC ⊢
  generalize Value.agg (staA s) = vs
  obtain ⟨c0, c1, c2, c3, c4, c5, c6, c7, c8, c9, c10, c11, c12, c13, c14, c15, c16, c17, c18, c19, c20, c21, c22, c23, c24, c25, c26, c27, c28, c29⟩ := sta_at (hA)
  go_upto_region 4 with (go_at_call 31; (with_reducible refine (R.out _).mono ?_); rintro e w1 ⟨rfl, rfl⟩)
  refine wp_loop_rounds 6 ?_
  rw [rounds_succ]
  go_wp2
  rw [rounds_succ]
  go_wp2
  rw [rounds_succ]
  go_wp2
  rw [rounds_succ]
  go_wp2
  rw [rounds_succ]
  go_wp2
  rw [rounds_succ]
  go_wp2
  go_ret
  exact ⟨rfl, hB⟩
theorem load8 (s s0 : Sta) (on : Bool) (g : Nat) (t : TypeId) (h29 : 0 ≤ s 29 ∧ s 29 < 4294967296) (W : World) (h : Blok W g t (cpuCells s0 on)) (q0 : ((bankB (s 29 % 32)).2) = true) (q1 : (bits .and .u32 (s 28) 3 == 0) = true) (q2 : (bits .andNot .u32 (s 29) 4026531999 == 0) = true) (q3 : (s 23 == 0) = true) (q4 : (bits .andNot .u32 (s 23) 4026531999 == 0) = true) (q5 : (bits .andNot .u32 (s 24) 4026531999 == 0) = true) (q6 : (bits .andNot .u32 (s 25) 4026531999 == 0) = true) (q7 : (bits .andNot .u32 (s 26) 4026531999 == 0) = true) (q8 : (bits .andNot .u32 (s 27) 4026531999 == 0) = false) :
    Calls Try.prog 18 #[.pointer (some ⟨g, 0, none⟩), .agg #[.int .u32 (s 0), .int .u32 (s 1), .int .u32 (s 2), .int .u32 (s 3), .int .u32 (s 4), .int .u32 (s 5), .int .u32 (s 6), .int .u32 (s 7), .int .u32 (s 8), .int .u32 (s 9), .int .u32 (s 10), .int .u32 (s 11), .int .u32 (s 12), .int .u32 (s 13), .int .u32 (s 14), .int .u32 (s 15), .int .u32 (s 16), .int .u32 (s 17), .int .u32 (s 18), .int .u32 (s 19), .int .u32 (s 20), .int .u32 (s 21), .int .u32 (s 22), .int .u32 (s 23), .int .u32 (s 24), .int .u32 (s 25), .int .u32 (s 26), .int .u32 (s 27), .int .u32 (s 28), .int .u32 (s 29)]] W fun e w' => e = .returned (.int .i64 200) ∧ Below W.heap.size W w' := by
  have hA : Blok (W.alloc (.cells (staA s) 26)) W.heap.size 26 (staCells s) := Blok.new W _ (staCells s)
  have hB : Below W.heap.size W (W.alloc (.cells (staA s) 26)) := (Below.refl _ _).alloc (Nat.le_refl _) _
  have hC := h.alloc (.cells (staA s) 26)
  have hg := h.lt
  have m2 : bits .and .u32 (s 29) 31 = s 29 % 32 := and32 5 (by decide) _ h29.1 (by simpa using h29.2)
  have d1 : wrap64 (s 29 % 32) = s 29 % 32 := by unfold wrap64; omega
  have R := Lib.hid (fun W => Bank_is (s 29 % 32) W)
  clear h29
  rw [q0] at R
  have i0 : ∀ (a b c d e : Int) (V : World), (Instr.index 24 (.agg #[.int .u32 a, .int .u32 b, .int .u32 c, .int .u32 d, .int .u32 e]) (.int .i64 0)).run Try.prog V = .ok (.int .u32 a) V := fun a b c d e V => by kernel_rfl
  have i1 : ∀ (a b c d e : Int) (V : World), (Instr.index 24 (.agg #[.int .u32 a, .int .u32 b, .int .u32 c, .int .u32 d, .int .u32 e]) (.int .i64 1)).run Try.prog V = .ok (.int .u32 b) V := fun a b c d e V => by kernel_rfl
  have i2 : ∀ (a b c d e : Int) (V : World), (Instr.index 24 (.agg #[.int .u32 a, .int .u32 b, .int .u32 c, .int .u32 d, .int .u32 e]) (.int .i64 2)).run Try.prog V = .ok (.int .u32 c) V := fun a b c d e V => by kernel_rfl
  have i3 : ∀ (a b c d e : Int) (V : World), (Instr.index 24 (.agg #[.int .u32 a, .int .u32 b, .int .u32 c, .int .u32 d, .int .u32 e]) (.int .i64 3)).run Try.prog V = .ok (.int .u32 d) V := fun a b c d e V => by kernel_rfl
  have i4 : ∀ (a b c d e : Int) (V : World), (Instr.index 24 (.agg #[.int .u32 a, .int .u32 b, .int .u32 c, .int .u32 d, .int .u32 e]) (.int .i64 4)).run Try.prog V = .ok (.int .u32 e) V := fun a b c d e V => by kernel_rfl
  go_enter Try.func18, Try.ntmps18
  go_upto_region 1 with fail
  generalize W.alloc (.cells (staA s) 26) = W1 at hA hB hC ⊢
  generalize Value.agg (staA s) = vs
  obtain ⟨c0, c1, c2, c3, c4, c5, c6, c7, c8, c9, c10, c11, c12, c13, c14, c15, c16, c17, c18, c19, c20, c21, c22, c23, c24, c25, c26, c27, c28, c29⟩ := sta_at (hA)
  go_upto_region 4 with (go_at_call 31; (with_reducible refine (R.out _).mono ?_); rintro e w1 ⟨rfl, rfl⟩)
  refine wp_loop_rounds 6 ?_
  rw [rounds_succ]
  go_wp2
  rw [rounds_succ]
  go_wp2
  rw [rounds_succ]
  go_wp2
  rw [rounds_succ]
  go_wp2
  rw [rounds_succ]
  go_wp2
  rw [rounds_succ]
  go_wp2
  go_ret
  exact ⟨rfl, hB⟩
theorem load9 (s s0 : Sta) (on : Bool) (g : Nat) (t : TypeId) (h29 : 0 ≤ s 29 ∧ s 29 < 4294967296) (W : World) (h : Blok W g t (cpuCells s0 on)) (q0 : ((bankB (s 29 % 32)).2) = true) (q1 : (bits .and .u32 (s 28) 3 == 0) = true) (q2 : (bits .andNot .u32 (s 29) 4026531999 == 0) = true) (q3 : (s 23 == 0) = true) (q4 : (bits .andNot .u32 (s 23) 4026531999 == 0) = true) (q5 : (bits .andNot .u32 (s 24) 4026531999 == 0) = true) (q6 : (bits .andNot .u32 (s 25) 4026531999 == 0) = true) (q7 : (bits .andNot .u32 (s 26) 4026531999 == 0) = true) (q8 : (bits .andNot .u32 (s 27) 4026531999 == 0) = true) :
    Calls Try.prog 18 #[.pointer (some ⟨g, 0, none⟩), .agg #[.int .u32 (s 0), .int .u32 (s 1), .int .u32 (s 2), .int .u32 (s 3), .int .u32 (s 4), .int .u32 (s 5), .int .u32 (s 6), .int .u32 (s 7), .int .u32 (s 8), .int .u32 (s 9), .int .u32 (s 10), .int .u32 (s 11), .int .u32 (s 12), .int .u32 (s 13), .int .u32 (s 14), .int .u32 (s 15), .int .u32 (s 16), .int .u32 (s 17), .int .u32 (s 18), .int .u32 (s 19), .int .u32 (s 20), .int .u32 (s 21), .int .u32 (s 22), .int .u32 (s 23), .int .u32 (s 24), .int .u32 (s 25), .int .u32 (s 26), .int .u32 (s 27), .int .u32 (s 28), .int .u32 (s 29)]] W fun e w' => e = .returned (.int .i64 0) ∧ Blok w' g t (cpuCells s on) ∧ W.grownBy w' (some g) := by
  have hA : Blok (W.alloc (.cells (staA s) 26)) W.heap.size 26 (staCells s) := Blok.new W _ (staCells s)
  have hB : Below W.heap.size W (W.alloc (.cells (staA s) 26)) := (Below.refl _ _).alloc (Nat.le_refl _) _
  have hC := h.alloc (.cells (staA s) 26)
  have hg := h.lt
  have m2 : bits .and .u32 (s 29) 31 = s 29 % 32 := and32 5 (by decide) _ h29.1 (by simpa using h29.2)
  have d1 : wrap64 (s 29 % 32) = s 29 % 32 := by unfold wrap64; omega
  have R := Lib.hid (fun W => Bank_is (s 29 % 32) W)
  clear h29
  rw [q0] at R
  have i0 : ∀ (a b c d e : Int) (V : World), (Instr.index 24 (.agg #[.int .u32 a, .int .u32 b, .int .u32 c, .int .u32 d, .int .u32 e]) (.int .i64 0)).run Try.prog V = .ok (.int .u32 a) V := fun a b c d e V => by kernel_rfl
  have i1 : ∀ (a b c d e : Int) (V : World), (Instr.index 24 (.agg #[.int .u32 a, .int .u32 b, .int .u32 c, .int .u32 d, .int .u32 e]) (.int .i64 1)).run Try.prog V = .ok (.int .u32 b) V := fun a b c d e V => by kernel_rfl
  have i2 : ∀ (a b c d e : Int) (V : World), (Instr.index 24 (.agg #[.int .u32 a, .int .u32 b, .int .u32 c, .int .u32 d, .int .u32 e]) (.int .i64 2)).run Try.prog V = .ok (.int .u32 c) V := fun a b c d e V => by kernel_rfl
  have i3 : ∀ (a b c d e : Int) (V : World), (Instr.index 24 (.agg #[.int .u32 a, .int .u32 b, .int .u32 c, .int .u32 d, .int .u32 e]) (.int .i64 3)).run Try.prog V = .ok (.int .u32 d) V := fun a b c d e V => by kernel_rfl
  have i4 : ∀ (a b c d e : Int) (V : World), (Instr.index 24 (.agg #[.int .u32 a, .int .u32 b, .int .u32 c, .int .u32 d, .int .u32 e]) (.int .i64 4)).run Try.prog V = .ok (.int .u32 e) V := fun a b c d e V => by kernel_rfl
  go_enter Try.func18, Try.ntmps18
  go_upto_region 1 with fail
  generalize W.alloc (.cells (staA s) 26) = W1 at hA hB hC ⊢
  generalize Value.agg (staA s) = vs
  obtain ⟨c0, c1, c2, c3, c4, c5, c6, c7, c8, c9, c10, c11, c12, c13, c14, c15, c16, c17, c18, c19, c20, c21, c22, c23, c24, c25, c26, c27, c28, c29⟩ := sta_at (hA)
  go_upto_region 4 with (go_at_call 31; (with_reducible refine (R.out _).mono ?_); rintro e w1 ⟨rfl, rfl⟩)
  refine wp_loop_rounds 6 ?_
  rw [rounds_succ]
  go_wp2
  rw [rounds_succ]
  go_wp2
  rw [rounds_succ]
  go_wp2
  rw [rounds_succ]
  go_wp2
  rw [rounds_succ]
  go_wp2
  rw [rounds_succ]
  go_wp2_with (first | (refine wpList_load_sta rfl (.tmp 3) rfl W.heap.size s rfl hA.range ?_) | (refine wpList_store_blok rfl 26 (.tmp 53) (.tmp 51) rfl g 0 (staCells s).toArray rfl rfl hC (by simp [staCells_len, cpuCells]) (by rw [sta_size]; simp [staCells_len]) (staCells_one s) ?_; intro w3 B3 g3 _z))
  go_ret
  exact ⟨rfl, B3, grown_then hB g3⟩
theorem Load_yes (s s0 : Sta) (on : Bool) (g : Nat) (t : TypeId) (h29 : 0 ≤ s 29 ∧ s 29 < 4294967296) (W : World) (h : Blok W g t (cpuCells s0 on)) (hs : isL s = true) :
    Calls Try.prog 18 #[.pointer (some ⟨g, 0, none⟩), .agg (staCells s).toArray] W fun e w' => e = .returned (.int .i64 0) ∧ Blok w' g t (cpuCells s on) ∧ W.grownBy w' (some g) := by
  unfold isL at hs
  rw [Bool.and_eq_true, Bool.and_eq_true, Bool.and_eq_true, Bool.and_eq_true, Bool.and_eq_true, Bool.and_eq_true, Bool.and_eq_true, Bool.and_eq_true] at hs
  obtain ⟨⟨⟨⟨⟨⟨⟨⟨q0, q1⟩, q2⟩, q3⟩, q4⟩, q5⟩, q6⟩, q7⟩, q8⟩ := hs
  exact load9 s s0 on g t h29 W h q0 q1 q2 q3 q4 q5 q6 q7 q8
theorem Load_no (s s0 : Sta) (on : Bool) (g : Nat) (t : TypeId) (h29 : 0 ≤ s 29 ∧ s 29 < 4294967296) (W : World) (h : Blok W g t (cpuCells s0 on)) (hs : isL s = false) :
    Calls Try.prog 18 #[.pointer (some ⟨g, 0, none⟩), .agg (staCells s).toArray] W fun e w' => e = .returned (.int .i64 200) ∧ Below W.heap.size W w' := by
  rcases Bool.eq_false_or_eq_true ((bankB (s 29 % 32)).2) with q0 | q0
  rotate_left
  · exact load0 s s0 on g t h29 W h q0
  rcases Bool.eq_false_or_eq_true (bits .and .u32 (s 28) 3 == 0) with q1 | q1
  rotate_left
  · exact load1 s s0 on g t h29 W h q0 q1
  rcases Bool.eq_false_or_eq_true (bits .andNot .u32 (s 29) 4026531999 == 0) with q2 | q2
  rotate_left
  · exact load2 s s0 on g t h29 W h q0 q1 q2
  rcases Bool.eq_false_or_eq_true (s 23 == 0) with q3 | q3
  rotate_left
  · exact load3 s s0 on g t h29 W h q0 q1 q2 q3
  rcases Bool.eq_false_or_eq_true (bits .andNot .u32 (s 23) 4026531999 == 0) with q4 | q4
  rotate_left
  · exact load4 s s0 on g t h29 W h q0 q1 q2 q3 q4
  rcases Bool.eq_false_or_eq_true (bits .andNot .u32 (s 24) 4026531999 == 0) with q5 | q5
  rotate_left
  · exact load5 s s0 on g t h29 W h q0 q1 q2 q3 q4 q5
  rcases Bool.eq_false_or_eq_true (bits .andNot .u32 (s 25) 4026531999 == 0) with q6 | q6
  rotate_left
  · exact load6 s s0 on g t h29 W h q0 q1 q2 q3 q4 q5 q6
  rcases Bool.eq_false_or_eq_true (bits .andNot .u32 (s 26) 4026531999 == 0) with q7 | q7
  rotate_left
  · exact load7 s s0 on g t h29 W h q0 q1 q2 q3 q4 q5 q6 q7
  rcases Bool.eq_false_or_eq_true (bits .andNot .u32 (s 27) 4026531999 == 0) with q8 | q8
  rotate_left
  · exact load8 s s0 on g t h29 W h q0 q1 q2 q3 q4 q5 q6 q7 q8
  unfold isL at hs
  rw [q0, q1, q2, q3, q4, q5, q6, q7, q8] at hs
  exact absurd hs (by decide)
end Go.Proofs.Ytpfhplhamnohjaa
namespace Go.Proofs.Ytpfhplhamnohjaa
set_option maxHeartbeats 25600000
set_option maxRecDepth 100000
open Go.RowKit

theorem is0 (s : Sta) (h29 : 0 ≤ s 29 ∧ s 29 < 4294967296) (W : World) (q0 : ((bankB (s 29 % 32)).2) = false) :
    Calls Try.prog 26 #[.agg #[.int .u32 (s 0), .int .u32 (s 1), .int .u32 (s 2), .int .u32 (s 3), .int .u32 (s 4), .int .u32 (s 5), .int .u32 (s 6), .int .u32 (s 7), .int .u32 (s 8), .int .u32 (s 9), .int .u32 (s 10), .int .u32 (s 11), .int .u32 (s 12), .int .u32 (s 13), .int .u32 (s 14), .int .u32 (s 15), .int .u32 (s 16), .int .u32 (s 17), .int .u32 (s 18), .int .u32 (s 19), .int .u32 (s 20), .int .u32 (s 21), .int .u32 (s 22), .int .u32 (s 23), .int .u32 (s 24), .int .u32 (s 25), .int .u32 (s 26), .int .u32 (s 27), .int .u32 (s 28), .int .u32 (s 29)]] W fun e w' => e = .returned (.bool false) ∧ Below W.heap.size W w' := by
  have hA : Blok (W.alloc (.cells (staA s) 26)) W.heap.size 26 (staCells s) := Blok.new W _ (staCells s)
  have hB : Below W.heap.size W (W.alloc (.cells (staA s) 26)) := (Below.refl _ _).alloc (Nat.le_refl _) _
  have m2 : bits .and .u32 (s 29) 31 = s 29 % 32 := and32 5 (by decide) _ h29.1 (by simpa using h29.2)
  have d1 : wrap64 (s 29 % 32) = s 29 % 32 := by unfold wrap64; omega
  have R := Lib.hid (fun W => Bank_is (s 29 % 32) W)
  clear h29
  rw [q0] at R
  go_enter Try.func26, Try.ntmps26
  go_upto_region 1 with fail
  generalize W.alloc (.cells (staA s) 26) = W1 at hA hB ⊢
  generalize Value.agg (staA s) = vs
  obtain ⟨c0, c1, c2, c3, c4, c5, c6, c7, c8, c9, c10, c11, c12, c13, c14, c15, c16, c17, c18, c19, c20, c21, c22, c23, c24, c25, c26, c27, c28, c29⟩ := sta_at (hA)
  go_wp2_with (go_at_call 31; (with_reducible refine (R.out _).mono ?_); rintro e w1 ⟨rfl, rfl⟩)
  go_ret
  exact ⟨rfl, hB⟩
theorem is1 (s : Sta) (h29 : 0 ≤ s 29 ∧ s 29 < 4294967296) (W : World) (q0 : ((bankB (s 29 % 32)).2) = true) (q1 : ((s 28).tmod 4 != 0) = true) :
    Calls Try.prog 26 #[.agg #[.int .u32 (s 0), .int .u32 (s 1), .int .u32 (s 2), .int .u32 (s 3), .int .u32 (s 4), .int .u32 (s 5), .int .u32 (s 6), .int .u32 (s 7), .int .u32 (s 8), .int .u32 (s 9), .int .u32 (s 10), .int .u32 (s 11), .int .u32 (s 12), .int .u32 (s 13), .int .u32 (s 14), .int .u32 (s 15), .int .u32 (s 16), .int .u32 (s 17), .int .u32 (s 18), .int .u32 (s 19), .int .u32 (s 20), .int .u32 (s 21), .int .u32 (s 22), .int .u32 (s 23), .int .u32 (s 24), .int .u32 (s 25), .int .u32 (s 26), .int .u32 (s 27), .int .u32 (s 28), .int .u32 (s 29)]] W fun e w' => e = .returned (.bool false) ∧ Below W.heap.size W w' := by
  have hA : Blok (W.alloc (.cells (staA s) 26)) W.heap.size 26 (staCells s) := Blok.new W _ (staCells s)
  have hB : Below W.heap.size W (W.alloc (.cells (staA s) 26)) := (Below.refl _ _).alloc (Nat.le_refl _) _
  have m2 : bits .and .u32 (s 29) 31 = s 29 % 32 := and32 5 (by decide) _ h29.1 (by simpa using h29.2)
  have d1 : wrap64 (s 29 % 32) = s 29 % 32 := by unfold wrap64; omega
  have R := Lib.hid (fun W => Bank_is (s 29 % 32) W)
  clear h29
  rw [q0] at R
  go_enter Try.func26, Try.ntmps26
  go_upto_region 1 with fail
  generalize W.alloc (.cells (staA s) 26) = W1 at hA hB ⊢
  generalize Value.agg (staA s) = vs
  obtain ⟨c0, c1, c2, c3, c4, c5, c6, c7, c8, c9, c10, c11, c12, c13, c14, c15, c16, c17, c18, c19, c20, c21, c22, c23, c24, c25, c26, c27, c28, c29⟩ := sta_at (hA)
  go_wp2_with (go_at_call 31; (with_reducible refine (R.out _).mono ?_); rintro e w1 ⟨rfl, rfl⟩)
  go_ret
  exact ⟨rfl, hB⟩
theorem is2 (s : Sta) (h29 : 0 ≤ s 29 ∧ s 29 < 4294967296) (W : World) (q0 : ((bankB (s 29 % 32)).2) = true) (q1 : ((s 28).tmod 4 != 0) = false) (q2 : (bits .andNot .u32 (s 29) 4026531999 != 0) = true) :
    Calls Try.prog 26 #[.agg #[.int .u32 (s 0), .int .u32 (s 1), .int .u32 (s 2), .int .u32 (s 3), .int .u32 (s 4), .int .u32 (s 5), .int .u32 (s 6), .int .u32 (s 7), .int .u32 (s 8), .int .u32 (s 9), .int .u32 (s 10), .int .u32 (s 11), .int .u32 (s 12), .int .u32 (s 13), .int .u32 (s 14), .int .u32 (s 15), .int .u32 (s 16), .int .u32 (s 17), .int .u32 (s 18), .int .u32 (s 19), .int .u32 (s 20), .int .u32 (s 21), .int .u32 (s 22), .int .u32 (s 23), .int .u32 (s 24), .int .u32 (s 25), .int .u32 (s 26), .int .u32 (s 27), .int .u32 (s 28), .int .u32 (s 29)]] W fun e w' => e = .returned (.bool false) ∧ Below W.heap.size W w' := by
  have hA : Blok (W.alloc (.cells (staA s) 26)) W.heap.size 26 (staCells s) := Blok.new W _ (staCells s)
  have hB : Below W.heap.size W (W.alloc (.cells (staA s) 26)) := (Below.refl _ _).alloc (Nat.le_refl _) _
  have m2 : bits .and .u32 (s 29) 31 = s 29 % 32 := and32 5 (by decide) _ h29.1 (by simpa using h29.2)
  have d1 : wrap64 (s 29 % 32) = s 29 % 32 := by unfold wrap64; omega
  have R := Lib.hid (fun W => Bank_is (s 29 % 32) W)
  clear h29
  rw [q0] at R
  go_enter Try.func26, Try.ntmps26
  go_upto_region 1 with fail
  generalize W.alloc (.cells (staA s) 26) = W1 at hA hB ⊢
  generalize Value.agg (staA s) = vs
  obtain ⟨c0, c1, c2, c3, c4, c5, c6, c7, c8, c9, c10, c11, c12, c13, c14, c15, c16, c17, c18, c19, c20, c21, c22, c23, c24, c25, c26, c27, c28, c29⟩ := sta_at (hA)
  go_wp2_with (go_at_call 31; (with_reducible refine (R.out _).mono ?_); rintro e w1 ⟨rfl, rfl⟩)
  go_ret
  exact ⟨rfl, hB⟩
theorem is3 (s : Sta) (h29 : 0 ≤ s 29 ∧ s 29 < 4294967296) (W : World) (q0 : ((bankB (s 29 % 32)).2) = true) (q1 : ((s 28).tmod 4 != 0) = false) (q2 : (bits .andNot .u32 (s 29) 4026531999 != 0) = false) (q3 : (s 23 != 0) = true) :
    Calls Try.prog 26 #[.agg #[.int .u32 (s 0), .int .u32 (s 1), .int .u32 (s 2), .int .u32 (s 3), .int .u32 (s 4), .int .u32 (s 5), .int .u32 (s 6), .int .u32 (s 7), .int .u32 (s 8), .int .u32 (s 9), .int .u32 (s 10), .int .u32 (s 11), .int .u32 (s 12), .int .u32 (s 13), .int .u32 (s 14), .int .u32 (s 15), .int .u32 (s 16), .int .u32 (s 17), .int .u32 (s 18), .int .u32 (s 19), .int .u32 (s 20), .int .u32 (s 21), .int .u32 (s 22), .int .u32 (s 23), .int .u32 (s 24), .int .u32 (s 25), .int .u32 (s 26), .int .u32 (s 27), .int .u32 (s 28), .int .u32 (s 29)]] W fun e w' => e = .returned (.bool false) ∧ Below W.heap.size W w' := by
  have hA : Blok (W.alloc (.cells (staA s) 26)) W.heap.size 26 (staCells s) := Blok.new W _ (staCells s)
  have hB : Below W.heap.size W (W.alloc (.cells (staA s) 26)) := (Below.refl _ _).alloc (Nat.le_refl _) _
  have m2 : bits .and .u32 (s 29) 31 = s 29 % 32 := and32 5 (by decide) _ h29.1 (by simpa using h29.2)
  have d1 : wrap64 (s 29 % 32) = s 29 % 32 := by unfold wrap64; omega
  have R := Lib.hid (fun W => Bank_is (s 29 % 32) W)
  clear h29
  rw [q0] at R
  go_enter Try.func26, Try.ntmps26
  go_upto_region 1 with fail
  generalize W.alloc (.cells (staA s) 26) = W1 at hA hB ⊢
  generalize Value.agg (staA s) = vs
  obtain ⟨c0, c1, c2, c3, c4, c5, c6, c7, c8, c9, c10, c11, c12, c13, c14, c15, c16, c17, c18, c19, c20, c21, c22, c23, c24, c25, c26, c27, c28, c29⟩ := sta_at (hA)
  go_wp2_with (go_at_call 31; (with_reducible refine (R.out _).mono ?_); rintro e w1 ⟨rfl, rfl⟩)
  go_ret
  exact ⟨rfl, hB⟩
theorem is4 (s : Sta) (h29 : 0 ≤ s 29 ∧ s 29 < 4294967296) (W : World) (q0 : ((bankB (s 29 % 32)).2) = true) (q1 : ((s 28).tmod 4 != 0) = false) (q2 : (bits .andNot .u32 (s 29) 4026531999 != 0) = false) (q3 : (s 23 != 0) = false) (q4 : (bits .andNot .u32 (s 24) 4026531999 != 0) = true) :
    Calls Try.prog 26 #[.agg #[.int .u32 (s 0), .int .u32 (s 1), .int .u32 (s 2), .int .u32 (s 3), .int .u32 (s 4), .int .u32 (s 5), .int .u32 (s 6), .int .u32 (s 7), .int .u32 (s 8), .int .u32 (s 9), .int .u32 (s 10), .int .u32 (s 11), .int .u32 (s 12), .int .u32 (s 13), .int .u32 (s 14), .int .u32 (s 15), .int .u32 (s 16), .int .u32 (s 17), .int .u32 (s 18), .int .u32 (s 19), .int .u32 (s 20), .int .u32 (s 21), .int .u32 (s 22), .int .u32 (s 23), .int .u32 (s 24), .int .u32 (s 25), .int .u32 (s 26), .int .u32 (s 27), .int .u32 (s 28), .int .u32 (s 29)]] W fun e w' => e = .returned (.bool false) ∧ Below W.heap.size W w' := by
  have hA : Blok (W.alloc (.cells (staA s) 26)) W.heap.size 26 (staCells s) := Blok.new W _ (staCells s)
  have hB : Below W.heap.size W (W.alloc (.cells (staA s) 26)) := (Below.refl _ _).alloc (Nat.le_refl _) _
  have m2 : bits .and .u32 (s 29) 31 = s 29 % 32 := and32 5 (by decide) _ h29.1 (by simpa using h29.2)
  have d1 : wrap64 (s 29 % 32) = s 29 % 32 := by unfold wrap64; omega
  have R := Lib.hid (fun W => Bank_is (s 29 % 32) W)
  clear h29
  rw [q0] at R
  go_enter Try.func26, Try.ntmps26
  go_upto_region 1 with fail
  generalize W.alloc (.cells (staA s) 26) = W1 at hA hB ⊢
  generalize Value.agg (staA s) = vs
  obtain ⟨c0, c1, c2, c3, c4, c5, c6, c7, c8, c9, c10, c11, c12, c13, c14, c15, c16, c17, c18, c19, c20, c21, c22, c23, c24, c25, c26, c27, c28, c29⟩ := sta_at (hA)
  go_wp2_with (go_at_call 31; (with_reducible refine (R.out _).mono ?_); rintro e w1 ⟨rfl, rfl⟩)
  refine wp_loop_rounds 5 ?_
  rw [rounds_succ]
  go_wp2
  go_ret
  exact ⟨rfl, hB⟩
theorem is5 (s : Sta) (h29 : 0 ≤ s 29 ∧ s 29 < 4294967296) (W : World) (q0 : ((bankB (s 29 % 32)).2) = true) (q1 : ((s 28).tmod 4 != 0) = false) (q2 : (bits .andNot .u32 (s 29) 4026531999 != 0) = false) (q3 : (s 23 != 0) = false) (q4 : (bits .andNot .u32 (s 24) 4026531999 != 0) = false) (q5 : (bits .andNot .u32 (s 25) 4026531999 != 0) = true) :
    Calls Try.prog 26 #[.agg #[.int .u32 (s 0), .int .u32 (s 1), .int .u32 (s 2), .int .u32 (s 3), .int .u32 (s 4), .int .u32 (s 5), .int .u32 (s 6), .int .u32 (s 7), .int .u32 (s 8), .int .u32 (s 9), .int .u32 (s 10), .int .u32 (s 11), .int .u32 (s 12), .int .u32 (s 13), .int .u32 (s 14), .int .u32 (s 15), .int .u32 (s 16), .int .u32 (s 17), .int .u32 (s 18), .int .u32 (s 19), .int .u32 (s 20), .int .u32 (s 21), .int .u32 (s 22), .int .u32 (s 23), .int .u32 (s 24), .int .u32 (s 25), .int .u32 (s 26), .int .u32 (s 27), .int .u32 (s 28), .int .u32 (s 29)]] W fun e w' => e = .returned (.bool false) ∧ Below W.heap.size W w' := by
  have hA : Blok (W.alloc (.cells (staA s) 26)) W.heap.size 26 (staCells s) := Blok.new W _ (staCells s)
  have hB : Below W.heap.size W (W.alloc (.cells (staA s) 26)) := (Below.refl _ _).alloc (Nat.le_refl _) _
  have m2 : bits .and .u32 (s 29) 31 = s 29 % 32 := and32 5 (by decide) _ h29.1 (by simpa using h29.2)
  have d1 : wrap64 (s 29 % 32) = s 29 % 32 := by unfold wrap64; omega
  have R := Lib.hid (fun W => Bank_is (s 29 % 32) W)
  clear h29
  rw [q0] at R
  go_enter Try.func26, Try.ntmps26
  go_upto_region 1 with fail
  generalize W.alloc (.cells (staA s) 26) = W1 at hA hB ⊢
  generalize Value.agg (staA s) = vs
  obtain ⟨c0, c1, c2, c3, c4, c5, c6, c7, c8, c9, c10, c11, c12, c13, c14, c15, c16, c17, c18, c19, c20, c21, c22, c23, c24, c25, c26, c27, c28, c29⟩ := sta_at (hA)
  go_wp2_with (go_at_call 31; (with_reducible refine (R.out _).mono ?_); rintro e w1 ⟨rfl, rfl⟩)
  refine wp_loop_rounds 5 ?_
  rw [rounds_succ]
  go_wp2
  rw [rounds_succ]
  go_wp2
  go_ret
  exact ⟨rfl, hB⟩
theorem is6 (s : Sta) (h29 : 0 ≤ s 29 ∧ s 29 < 4294967296) (W : World) (q0 : ((bankB (s 29 % 32)).2) = true) (q1 : ((s 28).tmod 4 != 0) = false) (q2 : (bits .andNot .u32 (s 29) 4026531999 != 0) = false) (q3 : (s 23 != 0) = false) (q4 : (bits .andNot .u32 (s 24) 4026531999 != 0) = false) (q5 : (bits .andNot .u32 (s 25) 4026531999 != 0) = false) (q6 : (bits .andNot .u32 (s 26) 4026531999 != 0) = true) :
    Calls Try.prog 26 #[.agg #[.int .u32 (s 0), .int .u32 (s 1), .int .u32 (s 2), .int .u32 (s 3), .int .u32 (s 4), .int .u32 (s 5), .int .u32 (s 6), .int .u32 (s 7), .int .u32 (s 8), .int .u32 (s 9), .int .u32 (s 10), .int .u32 (s 11), .int .u32 (s 12), .int .u32 (s 13), .int .u32 (s 14), .int .u32 (s 15), .int .u32 (s 16), .int .u32 (s 17), .int .u32 (s 18), .int .u32 (s 19), .int .u32 (s 20), .int .u32 (s 21), .int .u32 (s 22), .int .u32 (s 23), .int .u32 (s 24), .int .u32 (s 25), .int .u32 (s 26), .int .u32 (s 27), .int .u32 (s 28), .int .u32 (s 29)]] W fun e w' => e = .returned (.bool false) ∧ Below W.heap.size W w' := by
  have hA : Blok (W.alloc (.cells (staA s) 26)) W.heap.size 26 (staCells s) := Blok.new W _ (staCells s)
  have hB : Below W.heap.size W (W.alloc (.cells (staA s) 26)) := (Below.refl _ _).alloc (Nat.le_refl _) _
  have m2 : bits .and .u32 (s 29) 31 = s 29 % 32 := and32 5 (by decide) _ h29.1 (by simpa using h29.2)
  have d1 : wrap64 (s 29 % 32) = s 29 % 32 := by unfold wrap64; omega
  have R := Lib.hid (fun W => Bank_is (s 29 % 32) W)
  clear h29
  rw [q0] at R
  go_enter Try.func26, Try.ntmps26
  go_upto_region 1 with fail
  generalize W.alloc (.cells (staA s) 26) = W1 at hA hB ⊢
  generalize Value.agg (staA s) = vs
  obtain ⟨c0, c1, c2, c3, c4, c5, c6, c7, c8, c9, c10, c11, c12, c13, c14, c15, c16, c17, c18, c19, c20, c21, c22, c23, c24, c25, c26, c27, c28, c29⟩ := sta_at (hA)
  go_wp2_with (go_at_call 31; (with_reducible refine (R.out _).mono ?_); rintro e w1 ⟨rfl, rfl⟩)
  refine wp_loop_rounds 5 ?_
  rw [rounds_succ]
  go_wp2
  rw [rounds_succ]
  go_wp2
  rw [rounds_succ]
  go_wp2
  go_ret
  exact ⟨rfl, hB⟩
theorem is7 (s : Sta) (h29 : 0 ≤ s 29 ∧ s 29 < 4294967296) (W : World) (q0 : ((bankB (s 29 % 32)).2) = true) (q1 : ((s 28).tmod 4 != 0) = false) (q2 : (bits .andNot .u32 (s 29) 4026531999 != 0) = false) (q3 : (s 23 != 0) = false) (q4 : (bits .andNot .u32 (s 24) 4026531999 != 0) = false) (q5 : (bits .andNot .u32 (s 25) 4026531999 != 0) = false) (q6 : (bits .andNot .u32 (s 26) 4026531999 != 0) = false) (q7 : (bits .andNot .u32 (s 27) 4026531999 != 0) = true) :
    Calls Try.prog 26 #[.agg #[.int .u32 (s 0), .int .u32 (s 1), .int .u32 (s 2), .int .u32 (s 3), .int .u32 (s 4), .int .u32 (s 5), .int .u32 (s 6), .int .u32 (s 7), .int .u32 (s 8), .int .u32 (s 9), .int .u32 (s 10), .int .u32 (s 11), .int .u32 (s 12), .int .u32 (s 13), .int .u32 (s 14), .int .u32 (s 15), .int .u32 (s 16), .int .u32 (s 17), .int .u32 (s 18), .int .u32 (s 19), .int .u32 (s 20), .int .u32 (s 21), .int .u32 (s 22), .int .u32 (s 23), .int .u32 (s 24), .int .u32 (s 25), .int .u32 (s 26), .int .u32 (s 27), .int .u32 (s 28), .int .u32 (s 29)]] W fun e w' => e = .returned (.bool false) ∧ Below W.heap.size W w' := by
  have hA : Blok (W.alloc (.cells (staA s) 26)) W.heap.size 26 (staCells s) := Blok.new W _ (staCells s)
  have hB : Below W.heap.size W (W.alloc (.cells (staA s) 26)) := (Below.refl _ _).alloc (Nat.le_refl _) _
  have m2 : bits .and .u32 (s 29) 31 = s 29 % 32 := and32 5 (by decide) _ h29.1 (by simpa using h29.2)
  have d1 : wrap64 (s 29 % 32) = s 29 % 32 := by unfold wrap64; omega
  have R := Lib.hid (fun W => Bank_is (s 29 % 32) W)
  clear h29
  rw [q0] at R
  go_enter Try.func26, Try.ntmps26
  go_upto_region 1 with fail
  generalize W.alloc (.cells (staA s) 26) = W1 at hA hB ⊢
  generalize Value.agg (staA s) = vs
  obtain ⟨c0, c1, c2, c3, c4, c5, c6, c7, c8, c9, c10, c11, c12, c13, c14, c15, c16, c17, c18, c19, c20, c21, c22, c23, c24, c25, c26, c27, c28, c29⟩ := sta_at (hA)
  go_wp2_with (go_at_call 31; (with_reducible refine (R.out _).mono ?_); rintro e w1 ⟨rfl, rfl⟩)
  refine wp_loop_rounds 5 ?_
  rw [rounds_succ]
  go_wp2
  rw [rounds_succ]
  go_wp2
  rw [rounds_succ]
  go_wp2
  rw [rounds_succ]
  go_wp2
  go_ret
  exact ⟨rfl, hB⟩
theorem is8 (s : Sta) (h29 : 0 ≤ s 29 ∧ s 29 < 4294967296) (W : World) (q0 : ((bankB (s 29 % 32)).2) = true) (q1 : ((s 28).tmod 4 != 0) = false) (q2 : (bits .andNot .u32 (s 29) 4026531999 != 0) = false) (q3 : (s 23 != 0) = false) (q4 : (bits .andNot .u32 (s 24) 4026531999 != 0) = false) (q5 : (bits .andNot .u32 (s 25) 4026531999 != 0) = false) (q6 : (bits .andNot .u32 (s 26) 4026531999 != 0) = false) (q7 : (bits .andNot .u32 (s 27) 4026531999 != 0) = false) :
    Calls Try.prog 26 #[.agg #[.int .u32 (s 0), .int .u32 (s 1), .int .u32 (s 2), .int .u32 (s 3), .int .u32 (s 4), .int .u32 (s 5), .int .u32 (s 6), .int .u32 (s 7), .int .u32 (s 8), .int .u32 (s 9), .int .u32 (s 10), .int .u32 (s 11), .int .u32 (s 12), .int .u32 (s 13), .int .u32 (s 14), .int .u32 (s 15), .int .u32 (s 16), .int .u32 (s 17), .int .u32 (s 18), .int .u32 (s 19), .int .u32 (s 20), .int .u32 (s 21), .int .u32 (s 22), .int .u32 (s 23), .int .u32 (s 24), .int .u32 (s 25), .int .u32 (s 26), .int .u32 (s 27), .int .u32 (s 28), .int .u32 (s 29)]] W fun e w' => e = .returned (.bool true) ∧ Below W.heap.size W w' := by
  have hA : Blok (W.alloc (.cells (staA s) 26)) W.heap.size 26 (staCells s) := Blok.new W _ (staCells s)
  have hB : Below W.heap.size W (W.alloc (.cells (staA s) 26)) := (Below.refl _ _).alloc (Nat.le_refl _) _
  have m2 : bits .and .u32 (s 29) 31 = s 29 % 32 := and32 5 (by decide) _ h29.1 (by simpa using h29.2)
  have d1 : wrap64 (s 29 % 32) = s 29 % 32 := by unfold wrap64; omega
  have R := Lib.hid (fun W => Bank_is (s 29 % 32) W)
  clear h29
  rw [q0] at R
  go_enter Try.func26, Try.ntmps26
  go_upto_region 1 with fail
  generalize W.alloc (.cells (staA s) 26) = W1 at hA hB ⊢
  generalize Value.agg (staA s) = vs
  obtain ⟨c0, c1, c2, c3, c4, c5, c6, c7, c8, c9, c10, c11, c12, c13, c14, c15, c16, c17, c18, c19, c20, c21, c22, c23, c24, c25, c26, c27, c28, c29⟩ := sta_at (hA)
  go_wp2_with (go_at_call 31; (with_reducible refine (R.out _).mono ?_); rintro e w1 ⟨rfl, rfl⟩)
  refine wp_loop_rounds 5 ?_
  rw [rounds_succ]
  go_wp2
  rw [rounds_succ]
  go_wp2
  rw [rounds_succ]
  go_wp2
  rw [rounds_succ]
  go_wp2
  rw [rounds_succ]
  go_wp2
  go_ret
  exact ⟨rfl, hB⟩
theorem is_is (s : Sta) (h28 : 0 ≤ s 28 ∧ s 28 < 4294967296) (h29 : 0 ≤ s 29 ∧ s 29 < 4294967296) (W : World) :
    Calls Try.prog 26 #[.agg (staCells s).toArray] W fun e w' => e = .returned (.bool (isL s)) ∧ Below W.heap.size W w' := by
  have a1 : bits .and .u32 (s 28) 3 = (s 28).tmod 4 := by
    rw [Int.tmod_eq_emod_of_nonneg h28.1]
    exact and32 2 (by decide) _ h28.1 (by simpa using h28.2)
  have a2 : bits .andNot .u32 0 4026531999 = 0 := by decide
  rcases Bool.eq_false_or_eq_true ((bankB (s 29 % 32)).2) with q0 | q0
  rotate_left
  · have e : isL s = false := by
      simp [isL, *]
    rw [e]; exact is0 s h29 W q0
  rcases Bool.eq_false_or_eq_true ((s 28).tmod 4 != 0) with q1 | q1
  · have e : isL s = false := by
      have p1 := q1
      simp at p1
      simp [isL, *]
    rw [e]; exact is1 s h29 W q0 q1
  rcases Bool.eq_false_or_eq_true (bits .andNot .u32 (s 29) 4026531999 != 0) with q2 | q2
  · have e : isL s = false := by
      have p1 := q1
      simp at p1
      have p2 := q2
      simp at p2
      simp [isL, *]
    rw [e]; exact is2 s h29 W q0 q1 q2
  rcases Bool.eq_false_or_eq_true (s 23 != 0) with q3 | q3
  · have e : isL s = false := by
      have p1 := q1
      simp at p1
      have p2 := q2
      simp at p2
      have p3 := q3
      simp at p3
      simp [isL, *]
    rw [e]; exact is3 s h29 W q0 q1 q2 q3
  rcases Bool.eq_false_or_eq_true (bits .andNot .u32 (s 24) 4026531999 != 0) with q4 | q4
  · have e : isL s = false := by
      have p1 := q1
      simp at p1
      have p2 := q2
      simp at p2
      have p3 := q3
      simp at p3
      have p4 := q4
      simp at p4
      simp [isL, *]
    rw [e]; exact is4 s h29 W q0 q1 q2 q3 q4
  rcases Bool.eq_false_or_eq_true (bits .andNot .u32 (s 25) 4026531999 != 0) with q5 | q5
  · have e : isL s = false := by
      have p1 := q1
      simp at p1
      have p2 := q2
      simp at p2
      have p3 := q3
      simp at p3
      have p4 := q4
      simp at p4
      have p5 := q5
      simp at p5
      simp [isL, *]
    rw [e]; exact is5 s h29 W q0 q1 q2 q3 q4 q5
  rcases Bool.eq_false_or_eq_true (bits .andNot .u32 (s 26) 4026531999 != 0) with q6 | q6
  · have e : isL s = false := by
      have p1 := q1
      simp at p1
      have p2 := q2
      simp at p2
      have p3 := q3
      simp at p3
      have p4 := q4
      simp at p4
      have p5 := q5
      simp at p5
      have p6 := q6
      simp at p6
      simp [isL, *]
    rw [e]; exact is6 s h29 W q0 q1 q2 q3 q4 q5 q6
  rcases Bool.eq_false_or_eq_true (bits .andNot .u32 (s 27) 4026531999 != 0) with q7 | q7
  · have e : isL s = false := by
      have p1 := q1
      simp at p1
      have p2 := q2
      simp at p2
      have p3 := q3
      simp at p3
      have p4 := q4
      simp at p4
      have p5 := q5
      simp at p5
      have p6 := q6
      simp at p6
      have p7 := q7
      simp at p7
      simp [isL, *]
    rw [e]; exact is7 s h29 W q0 q1 q2 q3 q4 q5 q6 q7
  have e : isL s = true := by
    have p1 := q1
    simp at p1
    have p2 := q2
    simp at p2
    have p3 := q3
    simp at p3
    have p4 := q4
    simp at p4
    have p5 := q5
    simp at p5
    have p6 := q6
    simp at p6
    have p7 := q7
    simp at p7
    simp [isL, *]
  rw [e]; exact is8 s h29 W q0 q1 q2 q3 q4 q5 q6 q7
end Go.Proofs.Ytpfhplhamnohjaa
namespace Go.Proofs.Ytpfhplhamnohjaa
set_option maxHeartbeats 25600000
set_option maxRecDepth 100000
open Go.RowKit

/-- the cell of a register n of a state whose status word is c -/
def regO (c n : Int) : Nat := if n < 13 then n.toNat else if n = 13 then 13 + (bankW c).toNat else if n = 14 then 18 + (bankW c).toNat else 28
theorem bankW_lt (c : Int) : 0 ≤ bankW c ∧ bankW c < 5 := by
  unfold bankW bankB
  repeat' split
  all_goals (constructor <;> simp)
theorem regO_lt (c n : Int) (h0 : 0 ≤ n) : regO c n < 30 := by
  have := bankW_lt c
  unfold regO
  repeat' split
  all_goals omega
theorem ret_ptr {b i j : Nat} (h : i = j) : Ending.returned (.pointer (some ⟨b, i, none⟩)) = .returned (.pointer (some ⟨b, j, none⟩)) := by rw [h]
theorem register_is (g o : Nat) (c n : Int) (h0 : 0 ≤ c) (h1 : c < 4294967296) (hn0 : 0 ≤ n) (hn : n < 16) (W : World) (hc : W.cell? ⟨g, o + 29, none⟩ = some (.int .u32 c)) :
    Calls Try.prog 34 #[.pointer (some ⟨g, o, none⟩), .int .i64 n] W fun e w' => e = .returned (.pointer (some ⟨g, o + regO c n, none⟩)) ∧ ∃ k, w' = W.drewN k := by
  have BW := bankW_lt c
  have R := Lib.hid (fun W => bank_is c h0 h1 W)
  clear h0 h1
  by_cases h13 : n < 13
  · have HE := Lib.hid (show o + regO c n = o + n.toNat by simp [regO, h13])
    go_enter Try.func34, Try.ntmps34
    go_wp2
    go_ret
    exact ⟨ret_ptr HE.out.symm, 0, rfl⟩
  obtain ⟨b, hb⟩ : ∃ b, b = bankW c := ⟨_, rfl⟩
  have h15 : n = 13 ∨ n = 14 ∨ n = 15 := by omega
  clear h13 hn0 hn
  have HB := Lib.hid hb
  rw [← hb] at R BW
  clear hb
  rcases h15 with rfl | rfl | rfl
  · have HE := Lib.hid (show o + regO c 13 = o + 13 + b.toNat by rw [HB.out]; simp [regO]; omega)
    obtain ⟨b0, b1⟩ := BW
    go_enter Try.func34, Try.ntmps34
    go_wp2
    go_quiet ((go_at_call 37; exact Calls.quiet_of_same ((R.out _).mono fun _ _ h => ⟨h.1, h.2.symm⟩)))
    go_wp2
    go_ret
    exact ⟨ret_ptr (by first | exact HE.out.symm | (rw [HE.out]; omega)), _, rfl⟩
  · have HE := Lib.hid (show o + regO c 14 = o + 18 + b.toNat by rw [HB.out]; simp [regO]; omega)
    obtain ⟨b0, b1⟩ := BW
    go_enter Try.func34, Try.ntmps34
    go_wp2
    go_quiet ((go_at_call 37; exact Calls.quiet_of_same ((R.out _).mono fun _ _ h => ⟨h.1, h.2.symm⟩)))
    go_wp2
    go_ret
    exact ⟨ret_ptr (by first | exact HE.out.symm | (rw [HE.out]; omega)), _, rfl⟩
  · have HE := Lib.hid (show o + regO c 15 = o + 28 by simp [regO])
    go_enter Try.func34, Try.ntmps34
    go_wp2
    go_ret
    exact ⟨ret_ptr HE.out.symm, 0, rfl⟩
theorem register0_is (g : Nat) (c n : Int) (h0 : 0 ≤ c) (h1 : c < 4294967296) (hn0 : 0 ≤ n) (hn : n < 16) (W : World) (hc : W.cell? ⟨g, 29, none⟩ = some (.int .u32 c)) :
    Calls Try.prog 34 #[.pointer (some ⟨g, 0, none⟩), .int .i64 n] W fun e w' => e = .returned (.pointer (some ⟨g, regO c n, none⟩)) ∧ ∃ k, w' = W.drewN k :=
  (register_is g 0 c n h0 h1 hn0 hn W (by simpa using hc)).mono fun _ _ h => ⟨by simpa using h.1, h.2⟩
end Go.Proofs.Ytpfhplhamnohjaa
namespace Go.Proofs.Ytpfhplhamnohjaa
set_option maxHeartbeats 25600000
set_option maxRecDepth 100000
open Go.RowKit

theorem staCells_map (s : Sta) : staCells s = (List.range 30).map fun i => .int .u32 (s i) := rfl
theorem staCells_get (s : Sta) (i : Nat) (h : i < 30) : (staCells s)[i]? = some (.int .u32 (s i)) := by
  rw [staCells_map, List.getElem?_map, List.getElem?_range h]
  rfl
theorem staCells_set (s : Sta) (i : Nat) (v : Int) : (staCells s).set i (.int .u32 v) = staCells (set s i v) := by
  refine List.ext_getElem? fun j => ?_
  rw [List.getElem?_set, staCells_len]
  by_cases hij : i = j
  · subst hij
    rw [if_pos rfl]
    by_cases h : i < 30
    · rw [if_pos h, staCells_get _ _ h]; simp [set]
    · rw [if_neg h, List.getElem?_eq_none (by rw [staCells_len]; omega)]
  · rw [if_neg hij]
    by_cases h : j < 30
    · rw [staCells_get _ _ h, staCells_get _ _ h]; simp [set, Ne.symm hij]
    · rw [List.getElem?_eq_none (by rw [staCells_len]; omega), List.getElem?_eq_none (by rw [staCells_len]; omega)]
theorem cpuCells_set (s : Sta) (on : Bool) (i : Nat) (h : i < 30) (v : Int) : (cpuCells s on).set i (.int .u32 v) = cpuCells (set s i v) on := by
  unfold cpuCells
  rw [List.set_append_left _ _ (by rw [staCells_len]; exact h), staCells_set]
theorem cpu_cell {w : World} {g : Nat} {t : TypeId} {s : Sta} {on : Bool} (h : Blok w g t (cpuCells s on)) (i : Nat) (hi : i < 30) : w.cell? ⟨g, i, none⟩ = some (.int .u32 (s i)) := by
  rw [h.cell i]
  unfold cpuCells
  rw [List.getElem?_append_left (by rw [staCells_len]; exact hi), staCells_get _ _ hi]
theorem cpu_line {w : World} {g : Nat} {t : TypeId} {s : Sta} {on : Bool} (h : Blok w g t (cpuCells s on)) : w.cell? ⟨g, 30, none⟩ = some (.bool on) := h.cell 30
theorem Blok.setcpu {w : World} {g : Nat} {t : TypeId} {s : Sta} {on : Bool} (h : Blok w g t (cpuCells s on)) (i : Nat) (hi : i < 30) (v : Int) : Blok (w.setCell ⟨g, i, none⟩ (.int .u32 v)) g t (cpuCells (set s i v) on) := by
  rw [← cpuCells_set s on i hi v]; exact h.set_ i _
def OkS (s : Sta) : Prop := ∀ i, i < 30 → 0 ≤ s i ∧ s i < 4294967296
theorem grown_one (w : World) (g i : Nat) (v : Value) : w.grownBy (w.setCell ⟨g, i, none⟩ v) (some g) := (grown_setCells (w := w) (g := g) [v] i).1
theorem grown_drewN (w : World) (n : Nat) (row : Option Nat) : w.grownBy (w.drewN n) row := ⟨rfl, rfl, rfl, Nat.le_refl _, fun _ _ _ => rfl⟩
/-- a register of the mode -/
def regV (s : Sta) (n : Int) : Int := if 0 ≤ n ∧ n < 16 then s (regO (s 29) n) else 0
def and3 (v : Int) : Int := bits .andNot .u32 v 3
def setV (s : Sta) (n v : Int) : Sta := if 0 ≤ n ∧ n < 16 then set s (regO (s 29) n) (if n = 15 then and3 v else v) else s
theorem Reg_is (s : Sta) (on : Bool) (g : Nat) (t : TypeId) (n : Int) (hs : OkS s) (W : World) (h : Blok W g t (cpuCells s on)) :
    Calls Try.prog 27 #[.pointer (some ⟨g, 0, none⟩), .int .i64 n] W fun e w' => e = .returned (.int .u32 (regV s n)) ∧ ∃ k, w' = W.drewN k := by
  by_cases h0 : n < 0
  · have HE := Lib.hid (show regV s n = 0 by simp [regV]; omega)
    go_enter Try.func27, Try.ntmps27
    go_wp2
    go_ret
    exact ⟨by rw [HE.out]; rfl, 0, rfl⟩
  by_cases h15 : n > 15
  · have HE := Lib.hid (show regV s n = 0 by simp [regV]; omega)
    go_enter Try.func27, Try.ntmps27
    go_wp2
    go_ret
    exact ⟨by rw [HE.out]; rfl, 0, rfl⟩
  have HE := Lib.hid (show regV s n = s (regO (s 29) n) by simp only [regV]; rw [if_pos (by omega)])
  have hlt := regO_lt (s 29) n (by omega)
  have hc : ∀ k, (W.drewN k).cell? ⟨g, regO (s 29) n, none⟩ = some (.int .u32 (s (regO (s 29) n))) := fun k => cpu_cell (h.drewN k) _ hlt
  have R := Lib.hid (register0_is g (s 29) n (hs 29 (by omega)).1 (hs 29 (by omega)).2 (by omega) (by omega) W (cpu_cell h 29 (by omega)))
  clear hlt
  generalize regO (s 29) n = i at hc R HE
  go_enter Try.func27, Try.ntmps27
  go_wp2_with (go_at_call 34; (with_reducible refine (R.out).mono ?_); rintro e w1 ⟨rfl, k, rfl⟩)
  go_ret
  exact ⟨by rw [HE.out]; rfl, k, rfl⟩
theorem Set_is (s : Sta) (on : Bool) (g : Nat) (t : TypeId) (n v : Int) (hs : OkS s) (W : World) (h : Blok W g t (cpuCells s on)) :
    Calls Try.prog 25 #[.pointer (some ⟨g, 0, none⟩), .int .i64 n, .int .u32 v] W fun e w' => e = .returned (.tuple #[]) ∧ Blok w' g t (cpuCells (setV s n v) on) ∧ W.grownBy w' (some g) := by
  by_cases h0 : n < 0
  · have HE := Lib.hid (show setV s n v = s by unfold setV; rw [if_neg (by omega)])
    rw [HE.out]
    go_enter Try.func25, Try.ntmps25
    go_wp2
    first | go_ret | go_end0 | refine bodyPost_ret (results_none rfl _ _ _) rfl ?_
    exact ⟨rfl, h, World.grownBy.refl _ _⟩
  by_cases h15 : n > 15
  · have HE := Lib.hid (show setV s n v = s by unfold setV; rw [if_neg (by omega)])
    rw [HE.out]
    go_enter Try.func25, Try.ntmps25
    go_wp2
    first | go_ret | go_end0 | refine bodyPost_ret (results_none rfl _ _ _) rfl ?_
    exact ⟨rfl, h, World.grownBy.refl _ _⟩
  have hlt := regO_lt (s 29) n (by omega)
  have hc : ∀ k, (W.drewN k).cell? ⟨g, regO (s 29) n, none⟩ = some (.int .u32 (s (regO (s 29) n))) := fun k => cpu_cell (h.drewN k) _ hlt
  have hf : ∀ k, (W.drewN k).frozen? ⟨g, regO (s 29) n, none⟩ = false := fun k => (h.drewN k).frozen _
  have R := Lib.hid (register0_is g (s 29) n (hs 29 (by omega)).1 (hs 29 (by omega)).2 (by omega) (by omega) W (cpu_cell h 29 (by omega)))
  have HS := Lib.hid (fun k v => (h.drewN k).setcpu (regO (s 29) n) hlt v)
  by_cases e15 : n = 15
  · have z : (n == 15) = true := by simp [e15]
    have HE := Lib.hid (show setV s n v = set s (regO (s 29) n) (bits .andNot .u32 v 3) by unfold setV; rw [if_pos (by omega), if_pos e15]; rfl)
    rw [HE.out]
    clear HE e15 hlt
    generalize regO (s 29) n = i at hc hf R HS ⊢
    go_enter Try.func25, Try.ntmps25
    go_wp2_with (go_at_call 34; (with_reducible refine (R.out).mono ?_); rintro e w1 ⟨rfl, k, rfl⟩)
    go_end0
    exact ⟨rfl, HS.out k _, (grown_then (w := W) (wr := W.drewN k) (bdrewN (Below.refl _ _) k) (grown_one _ _ _ _))⟩
  · have z : (n == 15) = false := by simp [e15]
    have HE := Lib.hid (show setV s n v = set s (regO (s 29) n) v by unfold setV; rw [if_pos (by omega), if_neg e15])
    rw [HE.out]
    clear HE e15 hlt
    generalize regO (s 29) n = i at hc hf R HS ⊢
    go_enter Try.func25, Try.ntmps25
    go_wp2_with (go_at_call 34; (with_reducible refine (R.out).mono ?_); rintro e w1 ⟨rfl, k, rfl⟩)
    go_end0
    exact ⟨rfl, HS.out k _, (grown_then (w := W) (wr := W.drewN k) (bdrewN (Below.refl _ _) k) (grown_one _ _ _ _))⟩
theorem Line_is (s : Sta) (on b : Bool) (g : Nat) (t : TypeId) (W : World) (h : Blok W g t (cpuCells s on)) :
    Calls Try.prog 23 #[.pointer (some ⟨g, 0, none⟩), .bool b] W fun e w' => e = .returned (.tuple #[]) ∧ Blok w' g t (cpuCells s b) ∧ W.grownBy w' (some g) := by
  have hc := cpu_line h
  have hf := h.frozen 30
  have HS := Lib.hid (show Blok (W.setCell ⟨g, 30, none⟩ (.bool b)) g t (cpuCells s b) from h.set_ 30 (.bool b))
  go_enter Try.func23, Try.ntmps23
  go_wp2
  go_end0
  exact ⟨rfl, HS.out, grown_one _ _ _ _⟩
end Go.Proofs.Ytpfhplhamnohjaa
