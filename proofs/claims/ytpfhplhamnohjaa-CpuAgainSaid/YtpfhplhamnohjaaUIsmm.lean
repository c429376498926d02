/- Layer 19: may, way by way (mkmay.py). -/
import Derived.Test.YtpfhplhamnohjaaG02
namespace Go.Proofs.Ytpfhplhamnohjaa
set_option maxHeartbeats 25600000
set_option maxRecDepth 100000
open Go.RowKit

theorem may_a1 (i : Ins) (W : World) (q0 : (i.cond == 15) = true) :
    Calls Try.prog 33 #[(.agg (insA i))] W fun e w' => e = .returned (.bool false) ∧ Below W.heap.size W w' := by
  have hA : Blok (W.alloc (.cells (insA i) 61)) W.heap.size 61 (insCells i) := Blok.new W _ (insCells i)
  have hB : Below W.heap.size W (W.alloc (.cells (insA i) 61)) := (Below.refl _ _).alloc (Nat.le_refl _) _
  go_enter Try.func33, Try.ntmps33
  go_upto_region 1 with fail
  generalize W.alloc (.cells (insA i) 61) = W1 at hA hB ⊢
  generalize Value.agg (insA i) = vi
  have hlt := hA.lt
  obtain ⟨c0, c1, c2, c3, c4, c5, c6, c7, c8, c9, c10, c11, c12, c13, c14, c15, c16, c17, c18, c19⟩ := ins_at (hA)
  clear hA
  go_wp2
  go_ret
  exact ⟨rfl, hB⟩
theorem may_a2 (i : Ins) (W : World) (q0 : (i.cond == 15) = false) (q1 : (i.op == 0) = true) :
    Calls Try.prog 33 #[(.agg (insA i))] W fun e w' => e = .returned (.bool false) ∧ Below W.heap.size W w' := by
  have hA : Blok (W.alloc (.cells (insA i) 61)) W.heap.size 61 (insCells i) := Blok.new W _ (insCells i)
  have hB : Below W.heap.size W (W.alloc (.cells (insA i) 61)) := (Below.refl _ _).alloc (Nat.le_refl _) _
  go_enter Try.func33, Try.ntmps33
  go_upto_region 1 with fail
  generalize W.alloc (.cells (insA i) 61) = W1 at hA hB ⊢
  generalize Value.agg (insA i) = vi
  have hlt := hA.lt
  obtain ⟨c0, c1, c2, c3, c4, c5, c6, c7, c8, c9, c10, c11, c12, c13, c14, c15, c16, c17, c18, c19⟩ := ins_at (hA)
  clear hA
  go_wp2
  go_ret
  exact ⟨rfl, hB⟩
theorem may_b1 (i : Ins) (W : World) (q0 : (i.cond == 15) = false) (q1 : (i.op == 0) = false) (q2 : (decide (i.op ≤ 16)) = true) (q3 : (i.form != 3) = true) :
    Calls Try.prog 33 #[(.agg (insA i))] W fun e w' => e = .returned (.bool true) ∧ Below W.heap.size W w' := by
  have hA : Blok (W.alloc (.cells (insA i) 61)) W.heap.size 61 (insCells i) := Blok.new W _ (insCells i)
  have hB : Below W.heap.size W (W.alloc (.cells (insA i) 61)) := (Below.refl _ _).alloc (Nat.le_refl _) _
  go_enter Try.func33, Try.ntmps33
  go_upto_region 1 with fail
  generalize W.alloc (.cells (insA i) 61) = W1 at hA hB ⊢
  generalize Value.agg (insA i) = vi
  have hlt := hA.lt
  obtain ⟨c0, c1, c2, c3, c4, c5, c6, c7, c8, c9, c10, c11, c12, c13, c14, c15, c16, c17, c18, c19⟩ := ins_at (hA)
  clear hA
  go_wp2
  go_ret
  exact ⟨rfl, hB⟩
theorem may_b2 (i : Ins) (W : World) (q0 : (i.cond == 15) = false) (q1 : (i.op == 0) = false) (q2 : (decide (i.op ≤ 16)) = true) (q3 : (i.form != 3) = false) :
    Calls Try.prog 33 #[(.agg (insA i))] W fun e w' => e = .returned (.bool (!decide (i.rd = 15) && !decide (i.rn = 15) && !decide (i.rm = 15) && !decide (i.rs = 15))) ∧ Below W.heap.size W w' := by
  have hA : Blok (W.alloc (.cells (insA i) 61)) W.heap.size 61 (insCells i) := Blok.new W _ (insCells i)
  have hB : Below W.heap.size W (W.alloc (.cells (insA i) 61)) := (Below.refl _ _).alloc (Nat.le_refl _) _
  go_enter Try.func33, Try.ntmps33
  go_upto_region 1 with fail
  generalize W.alloc (.cells (insA i) 61) = W1 at hA hB ⊢
  generalize Value.agg (insA i) = vi
  have hlt := hA.lt
  obtain ⟨c0, c1, c2, c3, c4, c5, c6, c7, c8, c9, c10, c11, c12, c13, c14, c15, c16, c17, c18, c19⟩ := ins_at (hA)
  clear hA
  have hN := fun t : TypeId => Blok.new W1 t [.int .i64 i.rd, .int .i64 i.rn, .int .i64 i.rm, .int .i64 i.rs]
  go_wp2_with (first | (go_at_call 46; with_reducible refine (wide_is _ _).mono ?_; rintro e w' ⟨rfl, rfl⟩) | (go_at_call 45; ((with_reducible refine (any15_is W1.heap.size i.rd i.rn i.rm i.rs _ ?_ ?_ ?_ ?_).mono ?_); (any_goals (first | exact (hN _).cell 0 | exact (hN _).cell 1 | exact (hN _).cell 2 | exact (hN _).cell 3)); rintro e w' ⟨he, rfl⟩; subst he)))
  go_ret
  exact ⟨rfl, by simpa using hB.alloc (Nat.le_of_lt hlt) _⟩
theorem may_c1 (i : Ins) (W : World) (q0 : (i.cond == 15) = false) (q1 : (i.op == 0) = false) (q2 : (decide (i.op ≤ 16)) = false) (q3 : (decide (i.op ≤ 30)) = true) (q99 : ((decide (i.rd = 15) || decide (i.rm = 15) || decide (i.rs = 15) || decide (i.ra = 15))) = true) :
    Calls Try.prog 33 #[(.agg (insA i))] W fun e w' => e = .returned (.bool false) ∧ Below W.heap.size W w' := by
  have hA : Blok (W.alloc (.cells (insA i) 61)) W.heap.size 61 (insCells i) := Blok.new W _ (insCells i)
  have hB : Below W.heap.size W (W.alloc (.cells (insA i) 61)) := (Below.refl _ _).alloc (Nat.le_refl _) _
  go_enter Try.func33, Try.ntmps33
  go_upto_region 1 with fail
  generalize W.alloc (.cells (insA i) 61) = W1 at hA hB ⊢
  generalize Value.agg (insA i) = vi
  have hlt := hA.lt
  obtain ⟨c0, c1, c2, c3, c4, c5, c6, c7, c8, c9, c10, c11, c12, c13, c14, c15, c16, c17, c18, c19⟩ := ins_at (hA)
  clear hA
  have hN := fun t : TypeId => Blok.new W1 t [.int .i64 i.rd, .int .i64 i.rm, .int .i64 i.rs, .int .i64 i.ra]
  go_wp2_with (first | (go_at_call 46; with_reducible refine (wide_is _ _).mono ?_; rintro e w' ⟨rfl, rfl⟩) | (go_at_call 45; ((with_reducible refine (any15_is W1.heap.size i.rd i.rm i.rs i.ra _ ?_ ?_ ?_ ?_).mono ?_); (any_goals (first | exact (hN _).cell 0 | exact (hN _).cell 1 | exact (hN _).cell 2 | exact (hN _).cell 3)); rintro e w' ⟨he, rfl⟩; rw [q99] at he; subst he)))
  go_ret
  exact ⟨rfl, by simpa using hB.alloc (Nat.le_of_lt hlt) _⟩
theorem may_c2 (i : Ins) (W : World) (q0 : (i.cond == 15) = false) (q1 : (i.op == 0) = false) (q2 : (decide (i.op ≤ 16)) = false) (q3 : (decide (i.op ≤ 30)) = true) (q99 : ((decide (i.rd = 15) || decide (i.rm = 15) || decide (i.rs = 15) || decide (i.ra = 15))) = false) (q5 : (wideB i.op) = false) :
    Calls Try.prog 33 #[(.agg (insA i))] W fun e w' => e = .returned (.bool true) ∧ Below W.heap.size W w' := by
  have hA : Blok (W.alloc (.cells (insA i) 61)) W.heap.size 61 (insCells i) := Blok.new W _ (insCells i)
  have hB : Below W.heap.size W (W.alloc (.cells (insA i) 61)) := (Below.refl _ _).alloc (Nat.le_refl _) _
  go_enter Try.func33, Try.ntmps33
  go_upto_region 1 with fail
  generalize W.alloc (.cells (insA i) 61) = W1 at hA hB ⊢
  generalize Value.agg (insA i) = vi
  have hlt := hA.lt
  obtain ⟨c0, c1, c2, c3, c4, c5, c6, c7, c8, c9, c10, c11, c12, c13, c14, c15, c16, c17, c18, c19⟩ := ins_at (hA)
  clear hA
  have hN := fun t : TypeId => Blok.new W1 t [.int .i64 i.rd, .int .i64 i.rm, .int .i64 i.rs, .int .i64 i.ra]
  go_wp2_with (first | (go_at_call 46; with_reducible refine (wide_is _ _).mono ?_; rintro e w' ⟨rfl, rfl⟩) | (go_at_call 45; ((with_reducible refine (any15_is W1.heap.size i.rd i.rm i.rs i.ra _ ?_ ?_ ?_ ?_).mono ?_); (any_goals (first | exact (hN _).cell 0 | exact (hN _).cell 1 | exact (hN _).cell 2 | exact (hN _).cell 3)); rintro e w' ⟨he, rfl⟩; rw [q99] at he; subst he)))
  go_ret
  exact ⟨rfl, by simpa using hB.alloc (Nat.le_of_lt hlt) _⟩
theorem may_c3 (i : Ins) (W : World) (q0 : (i.cond == 15) = false) (q1 : (i.op == 0) = false) (q2 : (decide (i.op ≤ 16)) = false) (q3 : (decide (i.op ≤ 30)) = true) (q99 : ((decide (i.rd = 15) || decide (i.rm = 15) || decide (i.rs = 15) || decide (i.ra = 15))) = false) (q5 : (wideB i.op) = true) :
    Calls Try.prog 33 #[(.agg (insA i))] W fun e w' => e = .returned (.bool (i.rd != i.ra)) ∧ Below W.heap.size W w' := by
  have hA : Blok (W.alloc (.cells (insA i) 61)) W.heap.size 61 (insCells i) := Blok.new W _ (insCells i)
  have hB : Below W.heap.size W (W.alloc (.cells (insA i) 61)) := (Below.refl _ _).alloc (Nat.le_refl _) _
  go_enter Try.func33, Try.ntmps33
  go_upto_region 1 with fail
  generalize W.alloc (.cells (insA i) 61) = W1 at hA hB ⊢
  generalize Value.agg (insA i) = vi
  have hlt := hA.lt
  obtain ⟨c0, c1, c2, c3, c4, c5, c6, c7, c8, c9, c10, c11, c12, c13, c14, c15, c16, c17, c18, c19⟩ := ins_at (hA)
  clear hA
  have hN := fun t : TypeId => Blok.new W1 t [.int .i64 i.rd, .int .i64 i.rm, .int .i64 i.rs, .int .i64 i.ra]
  go_wp2_with (first | (go_at_call 46; with_reducible refine (wide_is _ _).mono ?_; rintro e w' ⟨rfl, rfl⟩) | (go_at_call 45; ((with_reducible refine (any15_is W1.heap.size i.rd i.rm i.rs i.ra _ ?_ ?_ ?_ ?_).mono ?_); (any_goals (first | exact (hN _).cell 0 | exact (hN _).cell 1 | exact (hN _).cell 2 | exact (hN _).cell 3)); rintro e w' ⟨he, rfl⟩; rw [q99] at he; subst he)))
  go_ret
  exact ⟨rfl, by simpa using hB.alloc (Nat.le_of_lt hlt) _⟩
theorem may_d1 (i : Ins) (W : World) (q0 : (i.cond == 15) = false) (q1 : (i.op == 0) = false) (q2 : (decide (i.op ≤ 16)) = false) (q3 : (decide (i.op ≤ 30)) = false) (q4 : (decide (i.op ≤ 38)) = true) (q5 : (i.write) = true) (q6 : (i.pre) = false) :
    Calls Try.prog 33 #[(.agg (insA i))] W fun e w' => e = .returned (.bool false) ∧ Below W.heap.size W w' := by
  have Q5 := Lib.hid q5
  clear q5
  have Q6 := Lib.hid q6
  clear q6
  have hA : Blok (W.alloc (.cells (insA i) 61)) W.heap.size 61 (insCells i) := Blok.new W _ (insCells i)
  have hB : Below W.heap.size W (W.alloc (.cells (insA i) 61)) := (Below.refl _ _).alloc (Nat.le_refl _) _
  go_enter Try.func33, Try.ntmps33
  go_upto_region 1 with fail
  generalize W.alloc (.cells (insA i) 61) = W1 at hA hB ⊢
  generalize Value.agg (insA i) = vi
  have hlt := hA.lt
  obtain ⟨c0, c1, c2, c3, c4, c5, c6, c7, c8, c9, c10, c11, c12, c13, c14, c15, c16, c17, c18, c19⟩ := ins_at (hA)
  clear hA
  rw [Q5.out] at c14
  rw [Q6.out] at c12
  go_wp2
  go_ret
  exact ⟨rfl, hB⟩
theorem may_d2a (i : Ins) (W : World) (q0 : (i.cond == 15) = false) (q1 : (i.op == 0) = false) (q2 : (decide (i.op ≤ 16)) = false) (q3 : (decide (i.op ≤ 30)) = false) (q4 : (decide (i.op ≤ 38)) = true) (q5 : (i.write) = true) (q6 : (i.pre) = true) (q7 : (i.rn == 15) = true) :
    Calls Try.prog 33 #[(.agg (insA i))] W fun e w' => e = .returned (.bool false) ∧ Below W.heap.size W w' := by
  have Q5 := Lib.hid q5
  clear q5
  have Q6 := Lib.hid q6
  clear q6
  have hA : Blok (W.alloc (.cells (insA i) 61)) W.heap.size 61 (insCells i) := Blok.new W _ (insCells i)
  have hB : Below W.heap.size W (W.alloc (.cells (insA i) 61)) := (Below.refl _ _).alloc (Nat.le_refl _) _
  go_enter Try.func33, Try.ntmps33
  go_upto_region 1 with fail
  generalize W.alloc (.cells (insA i) 61) = W1 at hA hB ⊢
  generalize Value.agg (insA i) = vi
  have hlt := hA.lt
  obtain ⟨c0, c1, c2, c3, c4, c5, c6, c7, c8, c9, c10, c11, c12, c13, c14, c15, c16, c17, c18, c19⟩ := ins_at (hA)
  clear hA
  rw [Q5.out] at c14
  rw [Q6.out] at c12
  go_wp2
  go_ret
  exact ⟨rfl, hB⟩
theorem may_d2b (i : Ins) (W : World) (q0 : (i.cond == 15) = false) (q1 : (i.op == 0) = false) (q2 : (decide (i.op ≤ 16)) = false) (q3 : (decide (i.op ≤ 30)) = false) (q4 : (decide (i.op ≤ 38)) = true) (q5 : (i.write) = true) (q6 : (i.pre) = true) (q7 : (i.rn == 15) = false) (q8 : (i.rn == i.rd) = true) :
    Calls Try.prog 33 #[(.agg (insA i))] W fun e w' => e = .returned (.bool false) ∧ Below W.heap.size W w' := by
  have Q5 := Lib.hid q5
  clear q5
  have Q6 := Lib.hid q6
  clear q6
  have hA : Blok (W.alloc (.cells (insA i) 61)) W.heap.size 61 (insCells i) := Blok.new W _ (insCells i)
  have hB : Below W.heap.size W (W.alloc (.cells (insA i) 61)) := (Below.refl _ _).alloc (Nat.le_refl _) _
  go_enter Try.func33, Try.ntmps33
  go_upto_region 1 with fail
  generalize W.alloc (.cells (insA i) 61) = W1 at hA hB ⊢
  generalize Value.agg (insA i) = vi
  have hlt := hA.lt
  obtain ⟨c0, c1, c2, c3, c4, c5, c6, c7, c8, c9, c10, c11, c12, c13, c14, c15, c16, c17, c18, c19⟩ := ins_at (hA)
  clear hA
  rw [Q5.out] at c14
  rw [Q6.out] at c12
  go_wp2
  go_ret
  exact ⟨rfl, hB⟩
theorem may_d2x1 (i : Ins) (W : World) (q0 : (i.cond == 15) = false) (q1 : (i.op == 0) = false) (q2 : (decide (i.op ≤ 16)) = false) (q3 : (decide (i.op ≤ 30)) = false) (q4 : (decide (i.op ≤ 38)) = true) (q5 : (i.write) = true) (q6 : (i.pre) = true) (q7 : (i.rn == 15) = false) (q8 : (i.rn == i.rd) = false) (q9 : (i.form == 2) = true) (q10 : (i.rm == 15) = false) (q11 : (i.rd != 15) = true) :
    Calls Try.prog 33 #[(.agg (insA i))] W fun e w' => e = .returned (.bool true) ∧ Below W.heap.size W w' := by
  have Q5 := Lib.hid q5
  clear q5
  have Q6 := Lib.hid q6
  clear q6
  have hA : Blok (W.alloc (.cells (insA i) 61)) W.heap.size 61 (insCells i) := Blok.new W _ (insCells i)
  have hB : Below W.heap.size W (W.alloc (.cells (insA i) 61)) := (Below.refl _ _).alloc (Nat.le_refl _) _
  go_enter Try.func33, Try.ntmps33
  go_upto_region 1 with fail
  generalize W.alloc (.cells (insA i) 61) = W1 at hA hB ⊢
  generalize Value.agg (insA i) = vi
  have hlt := hA.lt
  obtain ⟨c0, c1, c2, c3, c4, c5, c6, c7, c8, c9, c10, c11, c12, c13, c14, c15, c16, c17, c18, c19⟩ := ins_at (hA)
  clear hA
  rw [Q5.out] at c14
  rw [Q6.out] at c12
  go_wp2
  go_ret
  exact ⟨rfl, hB⟩
theorem may_d2x2 (i : Ins) (W : World) (q0 : (i.cond == 15) = false) (q1 : (i.op == 0) = false) (q2 : (decide (i.op ≤ 16)) = false) (q3 : (decide (i.op ≤ 30)) = false) (q4 : (decide (i.op ≤ 38)) = true) (q5 : (i.write) = true) (q6 : (i.pre) = true) (q7 : (i.rn == 15) = false) (q8 : (i.rn == i.rd) = false) (q9 : (i.form == 2) = true) (q10 : (i.rm == 15) = false) (q11 : (i.rd != 15) = false) :
    Calls Try.prog 33 #[(.agg (insA i))] W fun e w' => e = .returned (.bool (i.op == 31)) ∧ Below W.heap.size W w' := by
  have Q5 := Lib.hid q5
  clear q5
  have Q6 := Lib.hid q6
  clear q6
  have hA : Blok (W.alloc (.cells (insA i) 61)) W.heap.size 61 (insCells i) := Blok.new W _ (insCells i)
  have hB : Below W.heap.size W (W.alloc (.cells (insA i) 61)) := (Below.refl _ _).alloc (Nat.le_refl _) _
  go_enter Try.func33, Try.ntmps33
  go_upto_region 1 with fail
  generalize W.alloc (.cells (insA i) 61) = W1 at hA hB ⊢
  generalize Value.agg (insA i) = vi
  have hlt := hA.lt
  obtain ⟨c0, c1, c2, c3, c4, c5, c6, c7, c8, c9, c10, c11, c12, c13, c14, c15, c16, c17, c18, c19⟩ := ins_at (hA)
  clear hA
  rw [Q5.out] at c14
  rw [Q6.out] at c12
  go_wp2
  go_ret
  exact ⟨rfl, hB⟩
theorem may_d2y1 (i : Ins) (W : World) (q0 : (i.cond == 15) = false) (q1 : (i.op == 0) = false) (q2 : (decide (i.op ≤ 16)) = false) (q3 : (decide (i.op ≤ 30)) = false) (q4 : (decide (i.op ≤ 38)) = true) (q5 : (i.write) = true) (q6 : (i.pre) = true) (q7 : (i.rn == 15) = false) (q8 : (i.rn == i.rd) = false) (q9 : (i.form == 2) = false) (q10 : (i.rd != 15) = true) :
    Calls Try.prog 33 #[(.agg (insA i))] W fun e w' => e = .returned (.bool true) ∧ Below W.heap.size W w' := by
  have Q5 := Lib.hid q5
  clear q5
  have Q6 := Lib.hid q6
  clear q6
  have hA : Blok (W.alloc (.cells (insA i) 61)) W.heap.size 61 (insCells i) := Blok.new W _ (insCells i)
  have hB : Below W.heap.size W (W.alloc (.cells (insA i) 61)) := (Below.refl _ _).alloc (Nat.le_refl _) _
  go_enter Try.func33, Try.ntmps33
  go_upto_region 1 with fail
  generalize W.alloc (.cells (insA i) 61) = W1 at hA hB ⊢
  generalize Value.agg (insA i) = vi
  have hlt := hA.lt
  obtain ⟨c0, c1, c2, c3, c4, c5, c6, c7, c8, c9, c10, c11, c12, c13, c14, c15, c16, c17, c18, c19⟩ := ins_at (hA)
  clear hA
  rw [Q5.out] at c14
  rw [Q6.out] at c12
  go_wp2
  go_ret
  exact ⟨rfl, hB⟩
theorem may_d2y2 (i : Ins) (W : World) (q0 : (i.cond == 15) = false) (q1 : (i.op == 0) = false) (q2 : (decide (i.op ≤ 16)) = false) (q3 : (decide (i.op ≤ 30)) = false) (q4 : (decide (i.op ≤ 38)) = true) (q5 : (i.write) = true) (q6 : (i.pre) = true) (q7 : (i.rn == 15) = false) (q8 : (i.rn == i.rd) = false) (q9 : (i.form == 2) = false) (q10 : (i.rd != 15) = false) :
    Calls Try.prog 33 #[(.agg (insA i))] W fun e w' => e = .returned (.bool (i.op == 31)) ∧ Below W.heap.size W w' := by
  have Q5 := Lib.hid q5
  clear q5
  have Q6 := Lib.hid q6
  clear q6
  have hA : Blok (W.alloc (.cells (insA i) 61)) W.heap.size 61 (insCells i) := Blok.new W _ (insCells i)
  have hB : Below W.heap.size W (W.alloc (.cells (insA i) 61)) := (Below.refl _ _).alloc (Nat.le_refl _) _
  go_enter Try.func33, Try.ntmps33
  go_upto_region 1 with fail
  generalize W.alloc (.cells (insA i) 61) = W1 at hA hB ⊢
  generalize Value.agg (insA i) = vi
  have hlt := hA.lt
  obtain ⟨c0, c1, c2, c3, c4, c5, c6, c7, c8, c9, c10, c11, c12, c13, c14, c15, c16, c17, c18, c19⟩ := ins_at (hA)
  clear hA
  rw [Q5.out] at c14
  rw [Q6.out] at c12
  go_wp2
  go_ret
  exact ⟨rfl, hB⟩
theorem may_d2z (i : Ins) (W : World) (q0 : (i.cond == 15) = false) (q1 : (i.op == 0) = false) (q2 : (decide (i.op ≤ 16)) = false) (q3 : (decide (i.op ≤ 30)) = false) (q4 : (decide (i.op ≤ 38)) = true) (q5 : (i.write) = true) (q6 : (i.pre) = true) (q7 : (i.rn == 15) = false) (q8 : (i.rn == i.rd) = false) (q9 : (i.form == 2) = true) (q10 : (i.rm == 15) = true) :
    Calls Try.prog 33 #[(.agg (insA i))] W fun e w' => e = .returned (.bool false) ∧ Below W.heap.size W w' := by
  have Q5 := Lib.hid q5
  clear q5
  have Q6 := Lib.hid q6
  clear q6
  have hA : Blok (W.alloc (.cells (insA i) 61)) W.heap.size 61 (insCells i) := Blok.new W _ (insCells i)
  have hB : Below W.heap.size W (W.alloc (.cells (insA i) 61)) := (Below.refl _ _).alloc (Nat.le_refl _) _
  go_enter Try.func33, Try.ntmps33
  go_upto_region 1 with fail
  generalize W.alloc (.cells (insA i) 61) = W1 at hA hB ⊢
  generalize Value.agg (insA i) = vi
  have hlt := hA.lt
  obtain ⟨c0, c1, c2, c3, c4, c5, c6, c7, c8, c9, c10, c11, c12, c13, c14, c15, c16, c17, c18, c19⟩ := ins_at (hA)
  clear hA
  rw [Q5.out] at c14
  rw [Q6.out] at c12
  go_wp2
  go_ret
  exact ⟨rfl, hB⟩
theorem may_d3a (i : Ins) (W : World) (q0 : (i.cond == 15) = false) (q1 : (i.op == 0) = false) (q2 : (decide (i.op ≤ 16)) = false) (q3 : (decide (i.op ≤ 30)) = false) (q4 : (decide (i.op ≤ 38)) = true) (q5 : (i.write) = false) (q6 : (i.pre) = false) (q7 : (i.rn == 15) = true) :
    Calls Try.prog 33 #[(.agg (insA i))] W fun e w' => e = .returned (.bool false) ∧ Below W.heap.size W w' := by
  have Q5 := Lib.hid q5
  clear q5
  have Q6 := Lib.hid q6
  clear q6
  have hA : Blok (W.alloc (.cells (insA i) 61)) W.heap.size 61 (insCells i) := Blok.new W _ (insCells i)
  have hB : Below W.heap.size W (W.alloc (.cells (insA i) 61)) := (Below.refl _ _).alloc (Nat.le_refl _) _
  go_enter Try.func33, Try.ntmps33
  go_upto_region 1 with fail
  generalize W.alloc (.cells (insA i) 61) = W1 at hA hB ⊢
  generalize Value.agg (insA i) = vi
  have hlt := hA.lt
  obtain ⟨c0, c1, c2, c3, c4, c5, c6, c7, c8, c9, c10, c11, c12, c13, c14, c15, c16, c17, c18, c19⟩ := ins_at (hA)
  clear hA
  rw [Q5.out] at c14
  rw [Q6.out] at c12
  go_wp2
  go_ret
  exact ⟨rfl, hB⟩
theorem may_d3b (i : Ins) (W : World) (q0 : (i.cond == 15) = false) (q1 : (i.op == 0) = false) (q2 : (decide (i.op ≤ 16)) = false) (q3 : (decide (i.op ≤ 30)) = false) (q4 : (decide (i.op ≤ 38)) = true) (q5 : (i.write) = false) (q6 : (i.pre) = false) (q7 : (i.rn == 15) = false) (q8 : (i.rn == i.rd) = true) :
    Calls Try.prog 33 #[(.agg (insA i))] W fun e w' => e = .returned (.bool false) ∧ Below W.heap.size W w' := by
  have Q5 := Lib.hid q5
  clear q5
  have Q6 := Lib.hid q6
  clear q6
  have hA : Blok (W.alloc (.cells (insA i) 61)) W.heap.size 61 (insCells i) := Blok.new W _ (insCells i)
  have hB : Below W.heap.size W (W.alloc (.cells (insA i) 61)) := (Below.refl _ _).alloc (Nat.le_refl _) _
  go_enter Try.func33, Try.ntmps33
  go_upto_region 1 with fail
  generalize W.alloc (.cells (insA i) 61) = W1 at hA hB ⊢
  generalize Value.agg (insA i) = vi
  have hlt := hA.lt
  obtain ⟨c0, c1, c2, c3, c4, c5, c6, c7, c8, c9, c10, c11, c12, c13, c14, c15, c16, c17, c18, c19⟩ := ins_at (hA)
  clear hA
  rw [Q5.out] at c14
  rw [Q6.out] at c12
  go_wp2
  go_ret
  exact ⟨rfl, hB⟩
theorem may_d3x1 (i : Ins) (W : World) (q0 : (i.cond == 15) = false) (q1 : (i.op == 0) = false) (q2 : (decide (i.op ≤ 16)) = false) (q3 : (decide (i.op ≤ 30)) = false) (q4 : (decide (i.op ≤ 38)) = true) (q5 : (i.write) = false) (q6 : (i.pre) = false) (q7 : (i.rn == 15) = false) (q8 : (i.rn == i.rd) = false) (q9 : (i.form == 2) = true) (q10 : (i.rm == 15) = false) (q11 : (i.rd != 15) = true) :
    Calls Try.prog 33 #[(.agg (insA i))] W fun e w' => e = .returned (.bool true) ∧ Below W.heap.size W w' := by
  have Q5 := Lib.hid q5
  clear q5
  have Q6 := Lib.hid q6
  clear q6
  have hA : Blok (W.alloc (.cells (insA i) 61)) W.heap.size 61 (insCells i) := Blok.new W _ (insCells i)
  have hB : Below W.heap.size W (W.alloc (.cells (insA i) 61)) := (Below.refl _ _).alloc (Nat.le_refl _) _
  go_enter Try.func33, Try.ntmps33
  go_upto_region 1 with fail
  generalize W.alloc (.cells (insA i) 61) = W1 at hA hB ⊢
  generalize Value.agg (insA i) = vi
  have hlt := hA.lt
  obtain ⟨c0, c1, c2, c3, c4, c5, c6, c7, c8, c9, c10, c11, c12, c13, c14, c15, c16, c17, c18, c19⟩ := ins_at (hA)
  clear hA
  rw [Q5.out] at c14
  rw [Q6.out] at c12
  go_wp2
  go_ret
  exact ⟨rfl, hB⟩
theorem may_d3x2 (i : Ins) (W : World) (q0 : (i.cond == 15) = false) (q1 : (i.op == 0) = false) (q2 : (decide (i.op ≤ 16)) = false) (q3 : (decide (i.op ≤ 30)) = false) (q4 : (decide (i.op ≤ 38)) = true) (q5 : (i.write) = false) (q6 : (i.pre) = false) (q7 : (i.rn == 15) = false) (q8 : (i.rn == i.rd) = false) (q9 : (i.form == 2) = true) (q10 : (i.rm == 15) = false) (q11 : (i.rd != 15) = false) :
    Calls Try.prog 33 #[(.agg (insA i))] W fun e w' => e = .returned (.bool (i.op == 31)) ∧ Below W.heap.size W w' := by
  have Q5 := Lib.hid q5
  clear q5
  have Q6 := Lib.hid q6
  clear q6
  have hA : Blok (W.alloc (.cells (insA i) 61)) W.heap.size 61 (insCells i) := Blok.new W _ (insCells i)
  have hB : Below W.heap.size W (W.alloc (.cells (insA i) 61)) := (Below.refl _ _).alloc (Nat.le_refl _) _
  go_enter Try.func33, Try.ntmps33
  go_upto_region 1 with fail
  generalize W.alloc (.cells (insA i) 61) = W1 at hA hB ⊢
  generalize Value.agg (insA i) = vi
  have hlt := hA.lt
  obtain ⟨c0, c1, c2, c3, c4, c5, c6, c7, c8, c9, c10, c11, c12, c13, c14, c15, c16, c17, c18, c19⟩ := ins_at (hA)
  clear hA
  rw [Q5.out] at c14
  rw [Q6.out] at c12
  go_wp2
  go_ret
  exact ⟨rfl, hB⟩
theorem may_d3y1 (i : Ins) (W : World) (q0 : (i.cond == 15) = false) (q1 : (i.op == 0) = false) (q2 : (decide (i.op ≤ 16)) = false) (q3 : (decide (i.op ≤ 30)) = false) (q4 : (decide (i.op ≤ 38)) = true) (q5 : (i.write) = false) (q6 : (i.pre) = false) (q7 : (i.rn == 15) = false) (q8 : (i.rn == i.rd) = false) (q9 : (i.form == 2) = false) (q10 : (i.rd != 15) = true) :
    Calls Try.prog 33 #[(.agg (insA i))] W fun e w' => e = .returned (.bool true) ∧ Below W.heap.size W w' := by
  have Q5 := Lib.hid q5
  clear q5
  have Q6 := Lib.hid q6
  clear q6
  have hA : Blok (W.alloc (.cells (insA i) 61)) W.heap.size 61 (insCells i) := Blok.new W _ (insCells i)
  have hB : Below W.heap.size W (W.alloc (.cells (insA i) 61)) := (Below.refl _ _).alloc (Nat.le_refl _) _
  go_enter Try.func33, Try.ntmps33
  go_upto_region 1 with fail
  generalize W.alloc (.cells (insA i) 61) = W1 at hA hB ⊢
  generalize Value.agg (insA i) = vi
  have hlt := hA.lt
  obtain ⟨c0, c1, c2, c3, c4, c5, c6, c7, c8, c9, c10, c11, c12, c13, c14, c15, c16, c17, c18, c19⟩ := ins_at (hA)
  clear hA
  rw [Q5.out] at c14
  rw [Q6.out] at c12
  go_wp2
  go_ret
  exact ⟨rfl, hB⟩
theorem may_d3y2 (i : Ins) (W : World) (q0 : (i.cond == 15) = false) (q1 : (i.op == 0) = false) (q2 : (decide (i.op ≤ 16)) = false) (q3 : (decide (i.op ≤ 30)) = false) (q4 : (decide (i.op ≤ 38)) = true) (q5 : (i.write) = false) (q6 : (i.pre) = false) (q7 : (i.rn == 15) = false) (q8 : (i.rn == i.rd) = false) (q9 : (i.form == 2) = false) (q10 : (i.rd != 15) = false) :
    Calls Try.prog 33 #[(.agg (insA i))] W fun e w' => e = .returned (.bool (i.op == 31)) ∧ Below W.heap.size W w' := by
  have Q5 := Lib.hid q5
  clear q5
  have Q6 := Lib.hid q6
  clear q6
  have hA : Blok (W.alloc (.cells (insA i) 61)) W.heap.size 61 (insCells i) := Blok.new W _ (insCells i)
  have hB : Below W.heap.size W (W.alloc (.cells (insA i) 61)) := (Below.refl _ _).alloc (Nat.le_refl _) _
  go_enter Try.func33, Try.ntmps33
  go_upto_region 1 with fail
  generalize W.alloc (.cells (insA i) 61) = W1 at hA hB ⊢
  generalize Value.agg (insA i) = vi
  have hlt := hA.lt
  obtain ⟨c0, c1, c2, c3, c4, c5, c6, c7, c8, c9, c10, c11, c12, c13, c14, c15, c16, c17, c18, c19⟩ := ins_at (hA)
  clear hA
  rw [Q5.out] at c14
  rw [Q6.out] at c12
  go_wp2
  go_ret
  exact ⟨rfl, hB⟩
theorem may_d3z (i : Ins) (W : World) (q0 : (i.cond == 15) = false) (q1 : (i.op == 0) = false) (q2 : (decide (i.op ≤ 16)) = false) (q3 : (decide (i.op ≤ 30)) = false) (q4 : (decide (i.op ≤ 38)) = true) (q5 : (i.write) = false) (q6 : (i.pre) = false) (q7 : (i.rn == 15) = false) (q8 : (i.rn == i.rd) = false) (q9 : (i.form == 2) = true) (q10 : (i.rm == 15) = true) :
    Calls Try.prog 33 #[(.agg (insA i))] W fun e w' => e = .returned (.bool false) ∧ Below W.heap.size W w' := by
  have Q5 := Lib.hid q5
  clear q5
  have Q6 := Lib.hid q6
  clear q6
  have hA : Blok (W.alloc (.cells (insA i) 61)) W.heap.size 61 (insCells i) := Blok.new W _ (insCells i)
  have hB : Below W.heap.size W (W.alloc (.cells (insA i) 61)) := (Below.refl _ _).alloc (Nat.le_refl _) _
  go_enter Try.func33, Try.ntmps33
  go_upto_region 1 with fail
  generalize W.alloc (.cells (insA i) 61) = W1 at hA hB ⊢
  generalize Value.agg (insA i) = vi
  have hlt := hA.lt
  obtain ⟨c0, c1, c2, c3, c4, c5, c6, c7, c8, c9, c10, c11, c12, c13, c14, c15, c16, c17, c18, c19⟩ := ins_at (hA)
  clear hA
  rw [Q5.out] at c14
  rw [Q6.out] at c12
  go_wp2
  go_ret
  exact ⟨rfl, hB⟩
theorem may_d4x1 (i : Ins) (W : World) (q0 : (i.cond == 15) = false) (q1 : (i.op == 0) = false) (q2 : (decide (i.op ≤ 16)) = false) (q3 : (decide (i.op ≤ 30)) = false) (q4 : (decide (i.op ≤ 38)) = true) (q5 : (i.write) = false) (q6 : (i.pre) = true) (q7 : (i.form == 2) = true) (q8 : (i.rm == 15) = false) (q9 : (i.rd != 15) = true) :
    Calls Try.prog 33 #[(.agg (insA i))] W fun e w' => e = .returned (.bool true) ∧ Below W.heap.size W w' := by
  have Q5 := Lib.hid q5
  clear q5
  have Q6 := Lib.hid q6
  clear q6
  have hA : Blok (W.alloc (.cells (insA i) 61)) W.heap.size 61 (insCells i) := Blok.new W _ (insCells i)
  have hB : Below W.heap.size W (W.alloc (.cells (insA i) 61)) := (Below.refl _ _).alloc (Nat.le_refl _) _
  go_enter Try.func33, Try.ntmps33
  go_upto_region 1 with fail
  generalize W.alloc (.cells (insA i) 61) = W1 at hA hB ⊢
  generalize Value.agg (insA i) = vi
  have hlt := hA.lt
  obtain ⟨c0, c1, c2, c3, c4, c5, c6, c7, c8, c9, c10, c11, c12, c13, c14, c15, c16, c17, c18, c19⟩ := ins_at (hA)
  clear hA
  rw [Q5.out] at c14
  rw [Q6.out] at c12
  go_wp2
  go_ret
  exact ⟨rfl, hB⟩
theorem may_d4x2 (i : Ins) (W : World) (q0 : (i.cond == 15) = false) (q1 : (i.op == 0) = false) (q2 : (decide (i.op ≤ 16)) = false) (q3 : (decide (i.op ≤ 30)) = false) (q4 : (decide (i.op ≤ 38)) = true) (q5 : (i.write) = false) (q6 : (i.pre) = true) (q7 : (i.form == 2) = true) (q8 : (i.rm == 15) = false) (q9 : (i.rd != 15) = false) :
    Calls Try.prog 33 #[(.agg (insA i))] W fun e w' => e = .returned (.bool (i.op == 31)) ∧ Below W.heap.size W w' := by
  have Q5 := Lib.hid q5
  clear q5
  have Q6 := Lib.hid q6
  clear q6
  have hA : Blok (W.alloc (.cells (insA i) 61)) W.heap.size 61 (insCells i) := Blok.new W _ (insCells i)
  have hB : Below W.heap.size W (W.alloc (.cells (insA i) 61)) := (Below.refl _ _).alloc (Nat.le_refl _) _
  go_enter Try.func33, Try.ntmps33
  go_upto_region 1 with fail
  generalize W.alloc (.cells (insA i) 61) = W1 at hA hB ⊢
  generalize Value.agg (insA i) = vi
  have hlt := hA.lt
  obtain ⟨c0, c1, c2, c3, c4, c5, c6, c7, c8, c9, c10, c11, c12, c13, c14, c15, c16, c17, c18, c19⟩ := ins_at (hA)
  clear hA
  rw [Q5.out] at c14
  rw [Q6.out] at c12
  go_wp2
  go_ret
  exact ⟨rfl, hB⟩
theorem may_d4y1 (i : Ins) (W : World) (q0 : (i.cond == 15) = false) (q1 : (i.op == 0) = false) (q2 : (decide (i.op ≤ 16)) = false) (q3 : (decide (i.op ≤ 30)) = false) (q4 : (decide (i.op ≤ 38)) = true) (q5 : (i.write) = false) (q6 : (i.pre) = true) (q7 : (i.form == 2) = false) (q8 : (i.rd != 15) = true) :
    Calls Try.prog 33 #[(.agg (insA i))] W fun e w' => e = .returned (.bool true) ∧ Below W.heap.size W w' := by
  have Q5 := Lib.hid q5
  clear q5
  have Q6 := Lib.hid q6
  clear q6
  have hA : Blok (W.alloc (.cells (insA i) 61)) W.heap.size 61 (insCells i) := Blok.new W _ (insCells i)
  have hB : Below W.heap.size W (W.alloc (.cells (insA i) 61)) := (Below.refl _ _).alloc (Nat.le_refl _) _
  go_enter Try.func33, Try.ntmps33
  go_upto_region 1 with fail
  generalize W.alloc (.cells (insA i) 61) = W1 at hA hB ⊢
  generalize Value.agg (insA i) = vi
  have hlt := hA.lt
  obtain ⟨c0, c1, c2, c3, c4, c5, c6, c7, c8, c9, c10, c11, c12, c13, c14, c15, c16, c17, c18, c19⟩ := ins_at (hA)
  clear hA
  rw [Q5.out] at c14
  rw [Q6.out] at c12
  go_wp2
  go_ret
  exact ⟨rfl, hB⟩
theorem may_d4y2 (i : Ins) (W : World) (q0 : (i.cond == 15) = false) (q1 : (i.op == 0) = false) (q2 : (decide (i.op ≤ 16)) = false) (q3 : (decide (i.op ≤ 30)) = false) (q4 : (decide (i.op ≤ 38)) = true) (q5 : (i.write) = false) (q6 : (i.pre) = true) (q7 : (i.form == 2) = false) (q8 : (i.rd != 15) = false) :
    Calls Try.prog 33 #[(.agg (insA i))] W fun e w' => e = .returned (.bool (i.op == 31)) ∧ Below W.heap.size W w' := by
  have Q5 := Lib.hid q5
  clear q5
  have Q6 := Lib.hid q6
  clear q6
  have hA : Blok (W.alloc (.cells (insA i) 61)) W.heap.size 61 (insCells i) := Blok.new W _ (insCells i)
  have hB : Below W.heap.size W (W.alloc (.cells (insA i) 61)) := (Below.refl _ _).alloc (Nat.le_refl _) _
  go_enter Try.func33, Try.ntmps33
  go_upto_region 1 with fail
  generalize W.alloc (.cells (insA i) 61) = W1 at hA hB ⊢
  generalize Value.agg (insA i) = vi
  have hlt := hA.lt
  obtain ⟨c0, c1, c2, c3, c4, c5, c6, c7, c8, c9, c10, c11, c12, c13, c14, c15, c16, c17, c18, c19⟩ := ins_at (hA)
  clear hA
  rw [Q5.out] at c14
  rw [Q6.out] at c12
  go_wp2
  go_ret
  exact ⟨rfl, hB⟩
theorem may_d4z (i : Ins) (W : World) (q0 : (i.cond == 15) = false) (q1 : (i.op == 0) = false) (q2 : (decide (i.op ≤ 16)) = false) (q3 : (decide (i.op ≤ 30)) = false) (q4 : (decide (i.op ≤ 38)) = true) (q5 : (i.write) = false) (q6 : (i.pre) = true) (q7 : (i.form == 2) = true) (q8 : (i.rm == 15) = true) :
    Calls Try.prog 33 #[(.agg (insA i))] W fun e w' => e = .returned (.bool false) ∧ Below W.heap.size W w' := by
  have Q5 := Lib.hid q5
  clear q5
  have Q6 := Lib.hid q6
  clear q6
  have hA : Blok (W.alloc (.cells (insA i) 61)) W.heap.size 61 (insCells i) := Blok.new W _ (insCells i)
  have hB : Below W.heap.size W (W.alloc (.cells (insA i) 61)) := (Below.refl _ _).alloc (Nat.le_refl _) _
  go_enter Try.func33, Try.ntmps33
  go_upto_region 1 with fail
  generalize W.alloc (.cells (insA i) 61) = W1 at hA hB ⊢
  generalize Value.agg (insA i) = vi
  have hlt := hA.lt
  obtain ⟨c0, c1, c2, c3, c4, c5, c6, c7, c8, c9, c10, c11, c12, c13, c14, c15, c16, c17, c18, c19⟩ := ins_at (hA)
  clear hA
  rw [Q5.out] at c14
  rw [Q6.out] at c12
  go_wp2
  go_ret
  exact ⟨rfl, hB⟩
theorem may_e1 (i : Ins) (W : World) (r0 : 0 ≤ i.rn) (r1 : i.rn < 16) (q0 : (i.cond == 15) = false) (q1 : (i.op == 0) = false) (q2 : (decide (i.op ≤ 16)) = false) (q3 : (decide (i.op ≤ 30)) = false) (q4 : (decide (i.op ≤ 38)) = false) (q5 : (decide (i.op ≤ 40)) = true) (q6 : (i.list != 0) = false) :
    Calls Try.prog 33 #[(.agg (insA i))] W fun e w' => e = .returned (.bool false) ∧ Below W.heap.size W w' := by
  have hA : Blok (W.alloc (.cells (insA i) 61)) W.heap.size 61 (insCells i) := Blok.new W _ (insCells i)
  have hB : Below W.heap.size W (W.alloc (.cells (insA i) 61)) := (Below.refl _ _).alloc (Nat.le_refl _) _
  go_enter Try.func33, Try.ntmps33
  go_upto_region 1 with fail
  generalize W.alloc (.cells (insA i) 61) = W1 at hA hB ⊢
  generalize Value.agg (insA i) = vi
  have hlt := hA.lt
  obtain ⟨c0, c1, c2, c3, c4, c5, c6, c7, c8, c9, c10, c11, c12, c13, c14, c15, c16, c17, c18, c19⟩ := ins_at (hA)
  clear hA
  have hs : (i.rn % 18446744073709551616).toNat = i.rn.toNat := by rw [Int.emod_eq_of_lt r0 (by omega)]
  go_wp2
  go_ret
  exact ⟨rfl, hB⟩
theorem may_e2 (i : Ins) (W : World) (r0 : 0 ≤ i.rn) (r1 : i.rn < 16) (q0 : (i.cond == 15) = false) (q1 : (i.op == 0) = false) (q2 : (decide (i.op ≤ 16)) = false) (q3 : (decide (i.op ≤ 30)) = false) (q4 : (decide (i.op ≤ 38)) = false) (q5 : (decide (i.op ≤ 40)) = true) (q6 : (i.list != 0) = true) (q7 : (i.rn != 15) = false) :
    Calls Try.prog 33 #[(.agg (insA i))] W fun e w' => e = .returned (.bool false) ∧ Below W.heap.size W w' := by
  have hA : Blok (W.alloc (.cells (insA i) 61)) W.heap.size 61 (insCells i) := Blok.new W _ (insCells i)
  have hB : Below W.heap.size W (W.alloc (.cells (insA i) 61)) := (Below.refl _ _).alloc (Nat.le_refl _) _
  go_enter Try.func33, Try.ntmps33
  go_upto_region 1 with fail
  generalize W.alloc (.cells (insA i) 61) = W1 at hA hB ⊢
  generalize Value.agg (insA i) = vi
  have hlt := hA.lt
  obtain ⟨c0, c1, c2, c3, c4, c5, c6, c7, c8, c9, c10, c11, c12, c13, c14, c15, c16, c17, c18, c19⟩ := ins_at (hA)
  clear hA
  have hs : (i.rn % 18446744073709551616).toNat = i.rn.toNat := by rw [Int.emod_eq_of_lt r0 (by omega)]
  go_wp2
  go_ret
  exact ⟨rfl, hB⟩
theorem may_e3 (i : Ins) (W : World) (r0 : 0 ≤ i.rn) (r1 : i.rn < 16) (q0 : (i.cond == 15) = false) (q1 : (i.op == 0) = false) (q2 : (decide (i.op ≤ 16)) = false) (q3 : (decide (i.op ≤ 30)) = false) (q4 : (decide (i.op ≤ 38)) = false) (q5 : (decide (i.op ≤ 40)) = true) (q6 : (i.list != 0) = true) (q7 : (i.rn != 15) = true) (q8 : (i.write) = true) (q9 : (bits .and .u16 (i.list / 2 ^ i.rn.toNat) 1 == 1) = true) :
    Calls Try.prog 33 #[(.agg (insA i))] W fun e w' => e = .returned (.bool false) ∧ Below W.heap.size W w' := by
  have Q8 := Lib.hid q8
  clear q8
  have hA : Blok (W.alloc (.cells (insA i) 61)) W.heap.size 61 (insCells i) := Blok.new W _ (insCells i)
  have hB : Below W.heap.size W (W.alloc (.cells (insA i) 61)) := (Below.refl _ _).alloc (Nat.le_refl _) _
  go_enter Try.func33, Try.ntmps33
  go_upto_region 1 with fail
  generalize W.alloc (.cells (insA i) 61) = W1 at hA hB ⊢
  generalize Value.agg (insA i) = vi
  have hlt := hA.lt
  obtain ⟨c0, c1, c2, c3, c4, c5, c6, c7, c8, c9, c10, c11, c12, c13, c14, c15, c16, c17, c18, c19⟩ := ins_at (hA)
  clear hA
  rw [Q8.out] at c14
  have hs : (i.rn % 18446744073709551616).toNat = i.rn.toNat := by rw [Int.emod_eq_of_lt r0 (by omega)]
  go_wp2
  go_ret
  exact ⟨rfl, hB⟩
theorem may_e4a (i : Ins) (W : World) (r0 : 0 ≤ i.rn) (r1 : i.rn < 16) (q0 : (i.cond == 15) = false) (q1 : (i.op == 0) = false) (q2 : (decide (i.op ≤ 16)) = false) (q3 : (decide (i.op ≤ 30)) = false) (q4 : (decide (i.op ≤ 38)) = false) (q5 : (decide (i.op ≤ 40)) = true) (q6 : (i.list != 0) = true) (q7 : (i.rn != 15) = true) (q8 : (i.write) = false) (q9 : (i.op == 40) = false) :
    Calls Try.prog 33 #[(.agg (insA i))] W fun e w' => e = .returned (.bool true) ∧ Below W.heap.size W w' := by
  have Q8 := Lib.hid q8
  clear q8
  have hA : Blok (W.alloc (.cells (insA i) 61)) W.heap.size 61 (insCells i) := Blok.new W _ (insCells i)
  have hB : Below W.heap.size W (W.alloc (.cells (insA i) 61)) := (Below.refl _ _).alloc (Nat.le_refl _) _
  go_enter Try.func33, Try.ntmps33
  go_upto_region 1 with fail
  generalize W.alloc (.cells (insA i) 61) = W1 at hA hB ⊢
  generalize Value.agg (insA i) = vi
  have hlt := hA.lt
  obtain ⟨c0, c1, c2, c3, c4, c5, c6, c7, c8, c9, c10, c11, c12, c13, c14, c15, c16, c17, c18, c19⟩ := ins_at (hA)
  clear hA
  rw [Q8.out] at c14
  have hs : (i.rn % 18446744073709551616).toNat = i.rn.toNat := by rw [Int.emod_eq_of_lt r0 (by omega)]
  go_wp2
  go_ret
  exact ⟨rfl, hB⟩
theorem may_e4b (i : Ins) (W : World) (r0 : 0 ≤ i.rn) (r1 : i.rn < 16) (q0 : (i.cond == 15) = false) (q1 : (i.op == 0) = false) (q2 : (decide (i.op ≤ 16)) = false) (q3 : (decide (i.op ≤ 30)) = false) (q4 : (decide (i.op ≤ 38)) = false) (q5 : (decide (i.op ≤ 40)) = true) (q6 : (i.list != 0) = true) (q7 : (i.rn != 15) = true) (q8 : (i.write) = false) (q9 : (i.op == 40) = true) :
    Calls Try.prog 33 #[(.agg (insA i))] W fun e w' => e = .returned (.bool (!(i.list / 32768 == 1))) ∧ Below W.heap.size W w' := by
  have Q8 := Lib.hid q8
  clear q8
  have hA : Blok (W.alloc (.cells (insA i) 61)) W.heap.size 61 (insCells i) := Blok.new W _ (insCells i)
  have hB : Below W.heap.size W (W.alloc (.cells (insA i) 61)) := (Below.refl _ _).alloc (Nat.le_refl _) _
  go_enter Try.func33, Try.ntmps33
  go_upto_region 1 with fail
  generalize W.alloc (.cells (insA i) 61) = W1 at hA hB ⊢
  generalize Value.agg (insA i) = vi
  have hlt := hA.lt
  obtain ⟨c0, c1, c2, c3, c4, c5, c6, c7, c8, c9, c10, c11, c12, c13, c14, c15, c16, c17, c18, c19⟩ := ins_at (hA)
  clear hA
  rw [Q8.out] at c14
  have hs : (i.rn % 18446744073709551616).toNat = i.rn.toNat := by rw [Int.emod_eq_of_lt r0 (by omega)]
  go_wp2
  go_ret
  exact ⟨rfl, hB⟩
theorem may_e5a (i : Ins) (W : World) (r0 : 0 ≤ i.rn) (r1 : i.rn < 16) (q0 : (i.cond == 15) = false) (q1 : (i.op == 0) = false) (q2 : (decide (i.op ≤ 16)) = false) (q3 : (decide (i.op ≤ 30)) = false) (q4 : (decide (i.op ≤ 38)) = false) (q5 : (decide (i.op ≤ 40)) = true) (q6 : (i.list != 0) = true) (q7 : (i.rn != 15) = true) (q8 : (i.write) = true) (q9 : (bits .and .u16 (i.list / 2 ^ i.rn.toNat) 1 == 1) = false) (q10 : (i.op == 40) = false) :
    Calls Try.prog 33 #[(.agg (insA i))] W fun e w' => e = .returned (.bool true) ∧ Below W.heap.size W w' := by
  have Q8 := Lib.hid q8
  clear q8
  have hA : Blok (W.alloc (.cells (insA i) 61)) W.heap.size 61 (insCells i) := Blok.new W _ (insCells i)
  have hB : Below W.heap.size W (W.alloc (.cells (insA i) 61)) := (Below.refl _ _).alloc (Nat.le_refl _) _
  go_enter Try.func33, Try.ntmps33
  go_upto_region 1 with fail
  generalize W.alloc (.cells (insA i) 61) = W1 at hA hB ⊢
  generalize Value.agg (insA i) = vi
  have hlt := hA.lt
  obtain ⟨c0, c1, c2, c3, c4, c5, c6, c7, c8, c9, c10, c11, c12, c13, c14, c15, c16, c17, c18, c19⟩ := ins_at (hA)
  clear hA
  rw [Q8.out] at c14
  have hs : (i.rn % 18446744073709551616).toNat = i.rn.toNat := by rw [Int.emod_eq_of_lt r0 (by omega)]
  go_wp2
  go_ret
  exact ⟨rfl, hB⟩
theorem may_e5b (i : Ins) (W : World) (r0 : 0 ≤ i.rn) (r1 : i.rn < 16) (q0 : (i.cond == 15) = false) (q1 : (i.op == 0) = false) (q2 : (decide (i.op ≤ 16)) = false) (q3 : (decide (i.op ≤ 30)) = false) (q4 : (decide (i.op ≤ 38)) = false) (q5 : (decide (i.op ≤ 40)) = true) (q6 : (i.list != 0) = true) (q7 : (i.rn != 15) = true) (q8 : (i.write) = true) (q9 : (bits .and .u16 (i.list / 2 ^ i.rn.toNat) 1 == 1) = false) (q10 : (i.op == 40) = true) :
    Calls Try.prog 33 #[(.agg (insA i))] W fun e w' => e = .returned (.bool (!(i.list / 32768 == 1))) ∧ Below W.heap.size W w' := by
  have Q8 := Lib.hid q8
  clear q8
  have hA : Blok (W.alloc (.cells (insA i) 61)) W.heap.size 61 (insCells i) := Blok.new W _ (insCells i)
  have hB : Below W.heap.size W (W.alloc (.cells (insA i) 61)) := (Below.refl _ _).alloc (Nat.le_refl _) _
  go_enter Try.func33, Try.ntmps33
  go_upto_region 1 with fail
  generalize W.alloc (.cells (insA i) 61) = W1 at hA hB ⊢
  generalize Value.agg (insA i) = vi
  have hlt := hA.lt
  obtain ⟨c0, c1, c2, c3, c4, c5, c6, c7, c8, c9, c10, c11, c12, c13, c14, c15, c16, c17, c18, c19⟩ := ins_at (hA)
  clear hA
  rw [Q8.out] at c14
  have hs : (i.rn % 18446744073709551616).toNat = i.rn.toNat := by rw [Int.emod_eq_of_lt r0 (by omega)]
  go_wp2
  go_ret
  exact ⟨rfl, hB⟩
theorem may_k1 (i : Ins) (W : World) (q0 : (i.cond == 15) = false) (q1 : (i.op == 0) = false) (q2 : (decide (i.op ≤ 16)) = false) (q3 : (decide (i.op ≤ 30)) = false) (q4 : (decide (i.op ≤ 38)) = false) (q5 : (decide (i.op ≤ 40)) = false) (q6 : (i.op == 43) = true) :
    Calls Try.prog 33 #[(.agg (insA i))] W fun e w' => e = .returned (.bool (i.rm != 15)) ∧ Below W.heap.size W w' := by
  have hA : Blok (W.alloc (.cells (insA i) 61)) W.heap.size 61 (insCells i) := Blok.new W _ (insCells i)
  have hB : Below W.heap.size W (W.alloc (.cells (insA i) 61)) := (Below.refl _ _).alloc (Nat.le_refl _) _
  go_enter Try.func33, Try.ntmps33
  go_upto_region 1 with fail
  generalize W.alloc (.cells (insA i) 61) = W1 at hA hB ⊢
  generalize Value.agg (insA i) = vi
  have hlt := hA.lt
  obtain ⟨c0, c1, c2, c3, c4, c5, c6, c7, c8, c9, c10, c11, c12, c13, c14, c15, c16, c17, c18, c19⟩ := ins_at (hA)
  clear hA
  go_wp2
  go_ret
  exact ⟨rfl, hB⟩
theorem may_k2 (i : Ins) (W : World) (q0 : (i.cond == 15) = false) (q1 : (i.op == 0) = false) (q2 : (decide (i.op ≤ 16)) = false) (q3 : (decide (i.op ≤ 30)) = false) (q4 : (decide (i.op ≤ 38)) = false) (q5 : (decide (i.op ≤ 40)) = false) (q6 : (i.op == 43) = false) (q7 : (i.op == 44) = true) :
    Calls Try.prog 33 #[(.agg (insA i))] W fun e w' => e = .returned (.bool (i.rm != 15)) ∧ Below W.heap.size W w' := by
  have hA : Blok (W.alloc (.cells (insA i) 61)) W.heap.size 61 (insCells i) := Blok.new W _ (insCells i)
  have hB : Below W.heap.size W (W.alloc (.cells (insA i) 61)) := (Below.refl _ _).alloc (Nat.le_refl _) _
  go_enter Try.func33, Try.ntmps33
  go_upto_region 1 with fail
  generalize W.alloc (.cells (insA i) 61) = W1 at hA hB ⊢
  generalize Value.agg (insA i) = vi
  have hlt := hA.lt
  obtain ⟨c0, c1, c2, c3, c4, c5, c6, c7, c8, c9, c10, c11, c12, c13, c14, c15, c16, c17, c18, c19⟩ := ins_at (hA)
  clear hA
  go_wp2
  go_ret
  exact ⟨rfl, hB⟩
theorem may_k3 (i : Ins) (W : World) (q0 : (i.cond == 15) = false) (q1 : (i.op == 0) = false) (q2 : (decide (i.op ≤ 16)) = false) (q3 : (decide (i.op ≤ 30)) = false) (q4 : (decide (i.op ≤ 38)) = false) (q5 : (decide (i.op ≤ 40)) = false) (q6 : (i.op == 43) = false) (q7 : (i.op == 44) = false) (q8 : (i.op == 47) = true) :
    Calls Try.prog 33 #[(.agg (insA i))] W fun e w' => e = .returned (.bool (i.rd != 15)) ∧ Below W.heap.size W w' := by
  have hA : Blok (W.alloc (.cells (insA i) 61)) W.heap.size 61 (insCells i) := Blok.new W _ (insCells i)
  have hB : Below W.heap.size W (W.alloc (.cells (insA i) 61)) := (Below.refl _ _).alloc (Nat.le_refl _) _
  go_enter Try.func33, Try.ntmps33
  go_upto_region 1 with fail
  generalize W.alloc (.cells (insA i) 61) = W1 at hA hB ⊢
  generalize Value.agg (insA i) = vi
  have hlt := hA.lt
  obtain ⟨c0, c1, c2, c3, c4, c5, c6, c7, c8, c9, c10, c11, c12, c13, c14, c15, c16, c17, c18, c19⟩ := ins_at (hA)
  clear hA
  go_wp2
  go_ret
  exact ⟨rfl, hB⟩
theorem may_k4 (i : Ins) (W : World) (q0 : (i.cond == 15) = false) (q1 : (i.op == 0) = false) (q2 : (decide (i.op ≤ 16)) = false) (q3 : (decide (i.op ≤ 30)) = false) (q4 : (decide (i.op ≤ 38)) = false) (q5 : (decide (i.op ≤ 40)) = false) (q6 : (i.op == 43) = false) (q7 : (i.op == 44) = false) (q8 : (i.op == 47) = false) (q9 : (i.op == 49) = true) :
    Calls Try.prog 33 #[(.agg (insA i))] W fun e w' => e = .returned (.bool (i.rd != 15)) ∧ Below W.heap.size W w' := by
  have hA : Blok (W.alloc (.cells (insA i) 61)) W.heap.size 61 (insCells i) := Blok.new W _ (insCells i)
  have hB : Below W.heap.size W (W.alloc (.cells (insA i) 61)) := (Below.refl _ _).alloc (Nat.le_refl _) _
  go_enter Try.func33, Try.ntmps33
  go_upto_region 1 with fail
  generalize W.alloc (.cells (insA i) 61) = W1 at hA hB ⊢
  generalize Value.agg (insA i) = vi
  have hlt := hA.lt
  obtain ⟨c0, c1, c2, c3, c4, c5, c6, c7, c8, c9, c10, c11, c12, c13, c14, c15, c16, c17, c18, c19⟩ := ins_at (hA)
  clear hA
  go_wp2
  go_ret
  exact ⟨rfl, hB⟩
theorem may_k5 (i : Ins) (W : World) (q0 : (i.cond == 15) = false) (q1 : (i.op == 0) = false) (q2 : (decide (i.op ≤ 16)) = false) (q3 : (decide (i.op ≤ 30)) = false) (q4 : (decide (i.op ≤ 38)) = false) (q5 : (decide (i.op ≤ 40)) = false) (q6 : (i.op == 43) = false) (q7 : (i.op == 44) = false) (q8 : (i.op == 47) = false) (q9 : (i.op == 49) = false) (q10 : (i.op == 50) = true) :
    Calls Try.prog 33 #[(.agg (insA i))] W fun e w' => e = .returned (.bool (i.rd != 15)) ∧ Below W.heap.size W w' := by
  have hA : Blok (W.alloc (.cells (insA i) 61)) W.heap.size 61 (insCells i) := Blok.new W _ (insCells i)
  have hB : Below W.heap.size W (W.alloc (.cells (insA i) 61)) := (Below.refl _ _).alloc (Nat.le_refl _) _
  go_enter Try.func33, Try.ntmps33
  go_upto_region 1 with fail
  generalize W.alloc (.cells (insA i) 61) = W1 at hA hB ⊢
  generalize Value.agg (insA i) = vi
  have hlt := hA.lt
  obtain ⟨c0, c1, c2, c3, c4, c5, c6, c7, c8, c9, c10, c11, c12, c13, c14, c15, c16, c17, c18, c19⟩ := ins_at (hA)
  clear hA
  go_wp2
  go_ret
  exact ⟨rfl, hB⟩
theorem may_k6 (i : Ins) (W : World) (q0 : (i.cond == 15) = false) (q1 : (i.op == 0) = false) (q2 : (decide (i.op ≤ 16)) = false) (q3 : (decide (i.op ≤ 30)) = false) (q4 : (decide (i.op ≤ 38)) = false) (q5 : (decide (i.op ≤ 40)) = false) (q6 : (i.op == 43) = false) (q7 : (i.op == 44) = false) (q8 : (i.op == 47) = false) (q9 : (i.op == 49) = false) (q10 : (i.op == 50) = false) (q11 : (i.op == 48) = true) (q12 : (i.amount != 0) = false) :
    Calls Try.prog 33 #[(.agg (insA i))] W fun e w' => e = .returned (.bool false) ∧ Below W.heap.size W w' := by
  have hA : Blok (W.alloc (.cells (insA i) 61)) W.heap.size 61 (insCells i) := Blok.new W _ (insCells i)
  have hB : Below W.heap.size W (W.alloc (.cells (insA i) 61)) := (Below.refl _ _).alloc (Nat.le_refl _) _
  go_enter Try.func33, Try.ntmps33
  go_upto_region 1 with fail
  generalize W.alloc (.cells (insA i) 61) = W1 at hA hB ⊢
  generalize Value.agg (insA i) = vi
  have hlt := hA.lt
  obtain ⟨c0, c1, c2, c3, c4, c5, c6, c7, c8, c9, c10, c11, c12, c13, c14, c15, c16, c17, c18, c19⟩ := ins_at (hA)
  clear hA
  go_wp2
  go_ret
  exact ⟨rfl, hB⟩
theorem may_k7 (i : Ins) (W : World) (q0 : (i.cond == 15) = false) (q1 : (i.op == 0) = false) (q2 : (decide (i.op ≤ 16)) = false) (q3 : (decide (i.op ≤ 30)) = false) (q4 : (decide (i.op ≤ 38)) = false) (q5 : (decide (i.op ≤ 40)) = false) (q6 : (i.op == 43) = false) (q7 : (i.op == 44) = false) (q8 : (i.op == 47) = false) (q9 : (i.op == 49) = false) (q10 : (i.op == 50) = false) (q11 : (i.op == 48) = true) (q12 : (i.amount != 0) = true) :
    Calls Try.prog 33 #[(.agg (insA i))] W fun e w' => e = .returned (.bool (i.rm != 15)) ∧ Below W.heap.size W w' := by
  have hA : Blok (W.alloc (.cells (insA i) 61)) W.heap.size 61 (insCells i) := Blok.new W _ (insCells i)
  have hB : Below W.heap.size W (W.alloc (.cells (insA i) 61)) := (Below.refl _ _).alloc (Nat.le_refl _) _
  go_enter Try.func33, Try.ntmps33
  go_upto_region 1 with fail
  generalize W.alloc (.cells (insA i) 61) = W1 at hA hB ⊢
  generalize Value.agg (insA i) = vi
  have hlt := hA.lt
  obtain ⟨c0, c1, c2, c3, c4, c5, c6, c7, c8, c9, c10, c11, c12, c13, c14, c15, c16, c17, c18, c19⟩ := ins_at (hA)
  clear hA
  go_wp2
  go_ret
  exact ⟨rfl, hB⟩
theorem may_k8 (i : Ins) (W : World) (q0 : (i.cond == 15) = false) (q1 : (i.op == 0) = false) (q2 : (decide (i.op ≤ 16)) = false) (q3 : (decide (i.op ≤ 30)) = false) (q4 : (decide (i.op ≤ 38)) = false) (q5 : (decide (i.op ≤ 40)) = false) (q6 : (i.op == 43) = false) (q7 : (i.op == 44) = false) (q8 : (i.op == 47) = false) (q9 : (i.op == 49) = false) (q10 : (i.op == 50) = false) (q11 : (i.op == 48) = false) (q12 : (i.op == 46) = true) :
    Calls Try.prog 33 #[(.agg (insA i))] W fun e w' => e = .returned (.bool (i.cond == 14)) ∧ Below W.heap.size W w' := by
  have hA : Blok (W.alloc (.cells (insA i) 61)) W.heap.size 61 (insCells i) := Blok.new W _ (insCells i)
  have hB : Below W.heap.size W (W.alloc (.cells (insA i) 61)) := (Below.refl _ _).alloc (Nat.le_refl _) _
  go_enter Try.func33, Try.ntmps33
  go_upto_region 1 with fail
  generalize W.alloc (.cells (insA i) 61) = W1 at hA hB ⊢
  generalize Value.agg (insA i) = vi
  have hlt := hA.lt
  obtain ⟨c0, c1, c2, c3, c4, c5, c6, c7, c8, c9, c10, c11, c12, c13, c14, c15, c16, c17, c18, c19⟩ := ins_at (hA)
  clear hA
  go_wp2
  go_ret
  exact ⟨rfl, hB⟩
theorem may_k9 (i : Ins) (W : World) (q0 : (i.cond == 15) = false) (q1 : (i.op == 0) = false) (q2 : (decide (i.op ≤ 16)) = false) (q3 : (decide (i.op ≤ 30)) = false) (q4 : (decide (i.op ≤ 38)) = false) (q5 : (decide (i.op ≤ 40)) = false) (q6 : (i.op == 43) = false) (q7 : (i.op == 44) = false) (q8 : (i.op == 47) = false) (q9 : (i.op == 49) = false) (q10 : (i.op == 50) = false) (q11 : (i.op == 48) = false) (q12 : (i.op == 46) = false) :
    Calls Try.prog 33 #[(.agg (insA i))] W fun e w' => e = .returned (.bool true) ∧ Below W.heap.size W w' := by
  have hA : Blok (W.alloc (.cells (insA i) 61)) W.heap.size 61 (insCells i) := Blok.new W _ (insCells i)
  have hB : Below W.heap.size W (W.alloc (.cells (insA i) 61)) := (Below.refl _ _).alloc (Nat.le_refl _) _
  go_enter Try.func33, Try.ntmps33
  go_upto_region 1 with fail
  generalize W.alloc (.cells (insA i) 61) = W1 at hA hB ⊢
  generalize Value.agg (insA i) = vi
  have hlt := hA.lt
  obtain ⟨c0, c1, c2, c3, c4, c5, c6, c7, c8, c9, c10, c11, c12, c13, c14, c15, c16, c17, c18, c19⟩ := ins_at (hA)
  clear hA
  go_wp2
  go_ret
  exact ⟨rfl, hB⟩
end Go.Proofs.Ytpfhplhamnohjaa
