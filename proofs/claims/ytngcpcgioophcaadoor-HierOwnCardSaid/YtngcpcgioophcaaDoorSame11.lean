/- New of the three TLBs: the program's (hier) and the document's (atlasref11). Two lists of places held against one another (atlaslaw11.slots), and the program's Find in one contract. -/
import Derived.Test.YtngcpcgioophcaaDoorRefN
namespace Go.Proofs.YtngcpcgioophcaaDoor
open Go.RowKit

def sel3 {α : Type} (a b c : α) (k : Nat) : α := if k = 1 then a else if k = 2 then b else c
theorem three_mk {w : World} {tt : TypeId} {t1 t2 t3 g1 g2 g3 : Nat} {x1 x2 x3 : List Slot} (h1 : IsTlb w tt 50 t1 g1 x1) (h2 : IsTlb w tt 50 t2 g2 x2) (h3 : IsTlb w tt 50 t3 g3 x3)
    (a1 : g1 < t1) (a2 : t1 < g2) (a3 : g2 < t2) (a4 : t2 < g3) (a5 : g3 < t3) (hz : 0 < g1) : Three w tt (sel3 t1 t2 t3) (sel3 g1 g2 g3) (sel3 x1 x2 x3) := by
  have cs : ∀ k, 1 ≤ k → k ≤ 3 → k = 1 ∨ k = 2 ∨ k = 3 := by omega
  refine ⟨fun k a b => ?_, fun j k a b c d e => ?_, fun j k a b c d => ?_, fun k a b => ?_⟩
  · obtain rfl | rfl | rfl := cs k a b
    · exact h1
    · exact h2
    · exact h3
  · obtain rfl | rfl | rfl := cs j a b <;> obtain rfl | rfl | rfl := cs k c d <;> simp [sel3] at e ⊢ <;> omega
  · obtain rfl | rfl | rfl := cs j a b <;> obtain rfl | rfl | rfl := cs k c d <;> simp [sel3] <;> omega
  · obtain rfl | rfl | rfl := cs k a b <;> simp [sel3] <;> omega
/-- all of it lies from B on -/
def From (B hb : Nat) (tb gb : Nat → Nat) : Prop := B ≤ hb ∧ ∀ k, 1 ≤ k → k ≤ 3 → B ≤ tb k ∧ B ≤ gb k
def rows3 (n1 n2 n3 : Nat) : Nat → List Slot := sel3 (newRow n1) (newRow n2) (newRow n3)
theorem grown_setCell (w : World) (g o : Nat) (v : Value) : w.grownBy (w.setCell ⟨g, o, none⟩ v) (some g) := by
  have := (grown_setCells [v] (w := w) (g := g) o).1
  simpa [World.setCells] using this
set_option maxHeartbeats 3200000 in
set_option maxRecDepth 100000 in
theorem hier_New_yes (n1 n2 n3 : Nat) (a1 : 1 ≤ n1) (b1 : n1 ≤ 64) (a2 : 1 ≤ n2) (b2 : n2 ≤ 64) (a3 : 1 ≤ n3) (b3 : n3 ≤ 64) (w : World) (hs : Shf w) :
    Calls Tryd.prog 38 #[.int .i64 n1, .int .i64 n2, .int .i64 n3] w fun e w' => ∃ hb tb gb, e = .returned (.tuple #[.pointer (some ⟨hb, 0, none⟩), .int .i64 0]) ∧ IsHier w' hb tb gb (rows3 n1 n2 n3) ∧ From w.heap.size hb tb gb ∧ Below w.heap.size w w' := by
  have hp := hs.pos
  have N1 := Lib.hid (fun W => tlb_New_yes n1 a1 b1 W)
  have N2 := Lib.hid (fun W => tlb_New_yes n2 a2 b2 W)
  have N3 := Lib.hid (fun W => tlb_New_yes n3 a3 b3 W)
  have hL0 : Blok (w.alloc (.cells #[.pointer none, .pointer none, .pointer none] 109)) w.heap.size 109 [.pointer none, .pointer none, .pointer none] := Blok.new w _ _
  have x0 : ∀ W : World, (Instr.index 75 (.agg #[.int .i64 n1, .int .i64 n2, .int .i64 n3]) (.int .i64 0)).run Tryd.prog W = .ok (.int .i64 n1) W := fun _ => by kernel_rfl
  have x1 : ∀ W : World, (Instr.index 75 (.agg #[.int .i64 n1, .int .i64 n2, .int .i64 n3]) (.int .i64 1)).run Tryd.prog W = .ok (.int .i64 n2) W := fun _ => by kernel_rfl
  have x2 : ∀ W : World, (Instr.index 75 (.agg #[.int .i64 n1, .int .i64 n2, .int .i64 n3]) (.int .i64 2)).run Tryd.prog W = .ok (.int .i64 n3) W := fun _ => by kernel_rfl
  go_enter Tryd.func38, Tryd.ntmps38
  go_wp2
  refine wp_loop_rounds 4 ?_
  rw [rounds_succ]
  go_wp2_with (go_at_call 31; refine (N1.out _).mono ?_; rintro e w1 ⟨rfl, hT1, hb1⟩; have hL1 := hL0.below hb1 hL0.lt; have c1 := hL1.cell 0; have f1 := hL1.frozen 0; have l1 := hL1.lt)
  have T1 : IsTlb w1 105 50 (w.heap.size + 1 + 1) (w.heap.size + 1) (newRow n1) := by simpa using hT1
  have L1 := hL1.set_ 0 (.pointer (some ⟨w.heap.size + 1 + 1, 0, none⟩))
  have T1' := T1.far' (grown_setCell w1 w.heap.size 0 (.pointer (some ⟨w.heap.size + 1 + 1, 0, none⟩))) (by omega) (by omega)
  have B1 : Below w.heap.size w (w1.setCell ⟨w.heap.size, 0, none⟩ (.pointer (some ⟨w.heap.size + 1 + 1, 0, none⟩))) := (bbox (by simpa using hb1)).setCell (Nat.le_refl _) _
  simp only [List.set_cons_zero] at L1
  have q1 := T1'.hd.lt
  clear hb1 hT1 T1 hL1 c1 f1 l1
  generalize w1.setCell ⟨w.heap.size, 0, none⟩ (.pointer (some ⟨w.heap.size + 1 + 1, 0, none⟩)) = v1 at L1 T1' B1 q1 ⊢
  rw [rounds_succ]
  go_wp2_with (go_at_call 31; refine (N2.out _).mono ?_; rintro e w2 ⟨rfl, hT2, hb2⟩; have hL2 := L1.below hb2 L1.lt; have c2 := hL2.cell 1; have f2 := hL2.frozen 1; have l2 := hL2.lt)
  have L2 := hL2.set_ 1 (.pointer (some ⟨v1.heap.size + 1, 0, none⟩))
  have T2' := hT2.far' (grown_setCell w2 w.heap.size 1 (.pointer (some ⟨v1.heap.size + 1, 0, none⟩))) (by omega) (by omega)
  have T12 := (T1'.below hb2).far' (grown_setCell w2 w.heap.size 1 (.pointer (some ⟨v1.heap.size + 1, 0, none⟩))) (by omega) (by omega)
  have B2 : Below w.heap.size w (w2.setCell ⟨w.heap.size, 1, none⟩ (.pointer (some ⟨v1.heap.size + 1, 0, none⟩))) := (bthen B1 hb2).setCell (Nat.le_refl _) _
  simp only [List.set_cons_zero, List.set_cons_succ] at L2
  have q2 := T2'.hd.lt
  clear hb2 hT2 hL2 c2 f2 l2 T1' B1 L1
  generalize w2.setCell ⟨w.heap.size, 1, none⟩ (.pointer (some ⟨v1.heap.size + 1, 0, none⟩)) = v2 at L2 T2' T12 B2 q2 ⊢
  rw [rounds_succ]
  go_wp2_with (go_at_call 31; refine (N3.out _).mono ?_; rintro e w3 ⟨rfl, hT3, hb3⟩; have hL3 := L2.below hb3 L2.lt; have c3 := hL3.cell 2; have f3 := hL3.frozen 2; have l3 := hL3.lt)
  have L3 := hL3.set_ 2 (.pointer (some ⟨v2.heap.size + 1, 0, none⟩))
  have T3' := hT3.far' (grown_setCell w3 w.heap.size 2 (.pointer (some ⟨v2.heap.size + 1, 0, none⟩))) (by omega) (by omega)
  have T23 := (T2'.below hb3).far' (grown_setCell w3 w.heap.size 2 (.pointer (some ⟨v2.heap.size + 1, 0, none⟩))) (by omega) (by omega)
  have T13 := (T12.below hb3).far' (grown_setCell w3 w.heap.size 2 (.pointer (some ⟨v2.heap.size + 1, 0, none⟩))) (by omega) (by omega)
  have B3 : Below w.heap.size w (w3.setCell ⟨w.heap.size, 2, none⟩ (.pointer (some ⟨v2.heap.size + 1, 0, none⟩))) := (bthen B2 hb3).setCell (Nat.le_refl _) _
  simp only [List.set_cons_zero, List.set_cons_succ] at L3
  have q3 := T3'.hd.lt
  clear hb3 hT3 hL3 c3 f3 l3 T2' T12 B2 L2
  generalize w3.setCell ⟨w.heap.size, 2, none⟩ (.pointer (some ⟨v2.heap.size + 1, 0, none⟩)) = v3 at L3 T3' T23 T13 B3 q3 ⊢
  have d0 : v3.cell? ⟨w.heap.size, 0, none⟩ = some (.pointer (some ⟨w.heap.size + 1 + 1, 0, none⟩)) := L3.cell 0
  have d1 : v3.cell? ⟨w.heap.size, 1, none⟩ = some (.pointer (some ⟨v1.heap.size + 1, 0, none⟩)) := L3.cell 1
  have d2 : v3.cell? ⟨w.heap.size, 2, none⟩ = some (.pointer (some ⟨v2.heap.size + 1, 0, none⟩)) := L3.cell 2
  rw [rounds_succ]
  go_wp2
  go_ret2
  have hTh := three_mk T13 T23 T3' (by omega) (by omega) (by omega) (by omega) (by omega) (by omega)
  refine ⟨v3.heap.size, sel3 (w.heap.size + 1 + 1) (v1.heap.size + 1) (v2.heap.size + 1), sel3 (w.heap.size + 1) v1.heap.size v2.heap.size, rfl, ⟨Blok.new v3 _ _, hTh.below ((Below.refl _ _).alloc (Nat.le_refl _) _), ?_⟩, ⟨by omega, fun k a b => ?_⟩, B3.alloc (by omega) _⟩
  · rintro ⟨k, a, b, e⟩
    obtain rfl | rfl | rfl : k = 1 ∨ k = 2 ∨ k = 3 := by omega
    all_goals simp [sel3] at e; try omega
  · obtain rfl | rfl | rfl : k = 1 ∨ k = 2 ∨ k = 3 := by omega
    all_goals simp [sel3] <;> omega
set_option maxHeartbeats 3200000 in
set_option maxRecDepth 100000 in
theorem hier_New_no1 (n1 n2 n3 : Int) (h1 : n1 < 1 ∨ 64 < n1) (w : World) :
    Calls Tryd.prog 38 #[.int .i64 n1, .int .i64 n2, .int .i64 n3] w fun e w' => e = .returned (.tuple #[.pointer none, .int .i64 100]) ∧ Below w.heap.size w w' := by
  have NN := Lib.hid (fun W => tlb_New_no n1 h1 W)
  have hL0 : Blok (w.alloc (.cells #[.pointer none, .pointer none, .pointer none] 109)) w.heap.size 109 [.pointer none, .pointer none, .pointer none] := Blok.new w _ _
  have x0 : ∀ W : World, (Instr.index 75 (.agg #[.int .i64 n1, .int .i64 n2, .int .i64 n3]) (.int .i64 0)).run Tryd.prog W = .ok (.int .i64 n1) W := fun _ => by kernel_rfl
  have x1 : ∀ W : World, (Instr.index 75 (.agg #[.int .i64 n1, .int .i64 n2, .int .i64 n3]) (.int .i64 1)).run Tryd.prog W = .ok (.int .i64 n2) W := fun _ => by kernel_rfl
  have x2 : ∀ W : World, (Instr.index 75 (.agg #[.int .i64 n1, .int .i64 n2, .int .i64 n3]) (.int .i64 2)).run Tryd.prog W = .ok (.int .i64 n3) W := fun _ => by kernel_rfl
  clear h1
  go_enter Tryd.func38, Tryd.ntmps38
  go_wp2
  refine wp_loop_rounds 4 ?_
  have B0 : Below w.heap.size w (w.alloc (.cells #[.pointer none, .pointer none, .pointer none] 109)) := (Below.refl _ _).alloc (Nat.le_refl _) _
  have _u := hL0
  rw [rounds_succ]
  go_wp2_with (go_at_call 31; refine (NN.out _).mono ?_; rintro e wn ⟨rfl, rfl⟩)
  go_ret2
  exact ⟨rfl, B0⟩
set_option maxHeartbeats 3200000 in
set_option maxRecDepth 100000 in
theorem hier_New_no2 (n1 : Nat) (n2 n3 : Int) (a1 : 1 ≤ n1) (b1 : n1 ≤ 64) (h2 : n2 < 1 ∨ 64 < n2) (w : World) :
    Calls Tryd.prog 38 #[.int .i64 n1, .int .i64 n2, .int .i64 n3] w fun e w' => e = .returned (.tuple #[.pointer none, .int .i64 100]) ∧ Below w.heap.size w w' := by
  have N1 := Lib.hid (fun W => tlb_New_yes n1 a1 b1 W)
  have NN := Lib.hid (fun W => tlb_New_no n2 h2 W)
  have hL0 : Blok (w.alloc (.cells #[.pointer none, .pointer none, .pointer none] 109)) w.heap.size 109 [.pointer none, .pointer none, .pointer none] := Blok.new w _ _
  have x0 : ∀ W : World, (Instr.index 75 (.agg #[.int .i64 n1, .int .i64 n2, .int .i64 n3]) (.int .i64 0)).run Tryd.prog W = .ok (.int .i64 n1) W := fun _ => by kernel_rfl
  have x1 : ∀ W : World, (Instr.index 75 (.agg #[.int .i64 n1, .int .i64 n2, .int .i64 n3]) (.int .i64 1)).run Tryd.prog W = .ok (.int .i64 n2) W := fun _ => by kernel_rfl
  have x2 : ∀ W : World, (Instr.index 75 (.agg #[.int .i64 n1, .int .i64 n2, .int .i64 n3]) (.int .i64 2)).run Tryd.prog W = .ok (.int .i64 n3) W := fun _ => by kernel_rfl
  clear h2
  go_enter Tryd.func38, Tryd.ntmps38
  go_wp2
  refine wp_loop_rounds 4 ?_
  have B0 : Below w.heap.size w (w.alloc (.cells #[.pointer none, .pointer none, .pointer none] 109)) := (Below.refl _ _).alloc (Nat.le_refl _) _
  rw [rounds_succ]
  go_wp2_with (go_at_call 31; refine (N1.out _).mono ?_; rintro e w1 ⟨rfl, hT1, hb1⟩; have hL1 := hL0.below hb1 hL0.lt; have c1 := hL1.cell 0; have f1 := hL1.frozen 0; have l1 := hL1.lt)
  have L1 := hL1.set_ 0 (.pointer (some ⟨w.heap.size + 1 + 1, 0, none⟩))
  have B1 : Below w.heap.size w (w1.setCell ⟨w.heap.size, 0, none⟩ (.pointer (some ⟨w.heap.size + 1 + 1, 0, none⟩))) := (bthen B0 hb1).setCell (Nat.le_refl _) _
  generalize w1.setCell ⟨w.heap.size, 0, none⟩ (.pointer (some ⟨w.heap.size + 1 + 1, 0, none⟩)) = v1 at L1 B1 ⊢
  clear hb1 hT1 hL1 c1 f1 l1
  rw [rounds_succ]
  go_wp2_with (go_at_call 31; refine (NN.out _).mono ?_; rintro e wn ⟨rfl, rfl⟩)
  go_ret2
  exact ⟨rfl, B1⟩
set_option maxHeartbeats 3200000 in
set_option maxRecDepth 100000 in
theorem hier_New_no3 (n1 n2 : Nat) (n3 : Int) (a1 : 1 ≤ n1) (b1 : n1 ≤ 64) (a2 : 1 ≤ n2) (b2 : n2 ≤ 64) (h3 : n3 < 1 ∨ 64 < n3) (w : World) :
    Calls Tryd.prog 38 #[.int .i64 n1, .int .i64 n2, .int .i64 n3] w fun e w' => e = .returned (.tuple #[.pointer none, .int .i64 100]) ∧ Below w.heap.size w w' := by
  have N1 := Lib.hid (fun W => tlb_New_yes n1 a1 b1 W)
  have N2 := Lib.hid (fun W => tlb_New_yes n2 a2 b2 W)
  have NN := Lib.hid (fun W => tlb_New_no n3 h3 W)
  have hL0 : Blok (w.alloc (.cells #[.pointer none, .pointer none, .pointer none] 109)) w.heap.size 109 [.pointer none, .pointer none, .pointer none] := Blok.new w _ _
  have x0 : ∀ W : World, (Instr.index 75 (.agg #[.int .i64 n1, .int .i64 n2, .int .i64 n3]) (.int .i64 0)).run Tryd.prog W = .ok (.int .i64 n1) W := fun _ => by kernel_rfl
  have x1 : ∀ W : World, (Instr.index 75 (.agg #[.int .i64 n1, .int .i64 n2, .int .i64 n3]) (.int .i64 1)).run Tryd.prog W = .ok (.int .i64 n2) W := fun _ => by kernel_rfl
  have x2 : ∀ W : World, (Instr.index 75 (.agg #[.int .i64 n1, .int .i64 n2, .int .i64 n3]) (.int .i64 2)).run Tryd.prog W = .ok (.int .i64 n3) W := fun _ => by kernel_rfl
  clear h3
  go_enter Tryd.func38, Tryd.ntmps38
  go_wp2
  refine wp_loop_rounds 4 ?_
  have B0 : Below w.heap.size w (w.alloc (.cells #[.pointer none, .pointer none, .pointer none] 109)) := (Below.refl _ _).alloc (Nat.le_refl _) _
  rw [rounds_succ]
  go_wp2_with (go_at_call 31; refine (N1.out _).mono ?_; rintro e w1 ⟨rfl, hT1, hb1⟩; have hL1 := hL0.below hb1 hL0.lt; have c1 := hL1.cell 0; have f1 := hL1.frozen 0; have l1 := hL1.lt)
  have L1 := hL1.set_ 0 (.pointer (some ⟨w.heap.size + 1 + 1, 0, none⟩))
  have B1 : Below w.heap.size w (w1.setCell ⟨w.heap.size, 0, none⟩ (.pointer (some ⟨w.heap.size + 1 + 1, 0, none⟩))) := (bthen B0 hb1).setCell (Nat.le_refl _) _
  generalize w1.setCell ⟨w.heap.size, 0, none⟩ (.pointer (some ⟨w.heap.size + 1 + 1, 0, none⟩)) = v1 at L1 B1 ⊢
  clear hb1 hT1 hL1 c1 f1 l1
  rw [rounds_succ]
  go_wp2_with (go_at_call 31; refine (N2.out _).mono ?_; rintro e w2 ⟨rfl, hT2, hb2⟩; have hL2 := L1.below hb2 L1.lt; have c2 := hL2.cell 1; have f2 := hL2.frozen 1; have l2 := hL2.lt)
  have L2 := hL2.set_ 1 (.pointer (some ⟨v1.heap.size + 1, 0, none⟩))
  have B2 : Below w.heap.size w (w2.setCell ⟨w.heap.size, 1, none⟩ (.pointer (some ⟨v1.heap.size + 1, 0, none⟩))) := (bthen B1 hb2).setCell (Nat.le_refl _) _
  generalize w2.setCell ⟨w.heap.size, 1, none⟩ (.pointer (some ⟨v1.heap.size + 1, 0, none⟩)) = v2 at L2 B2 ⊢
  clear hb2 hT2 hL2 c2 f2 l2
  rw [rounds_succ]
  go_wp2_with (go_at_call 31; refine (NN.out _).mono ?_; rintro e wn ⟨rfl, rfl⟩)
  go_ret2
  exact ⟨rfl, B2⟩
set_option maxHeartbeats 3200000 in
set_option maxRecDepth 100000 in
theorem ref11_New_yes (n1 n2 n3 : Nat) (a1 : 1 ≤ n1) (b1 : n1 ≤ 64) (a2 : 1 ≤ n2) (b2 : n2 ≤ 64) (a3 : 1 ≤ n3) (b3 : n3 ≤ 64) (w : World) (hz : 0 < w.heap.size) :
    Calls Tryd.prog 69 #[.int .i64 n1, .int .i64 n2, .int .i64 n3] w fun e w' => ∃ hb tb gb, e = .returned (.tuple #[.pointer (some ⟨hb, 0, none⟩), .int .i64 0]) ∧ IsRef w' hb tb gb (rows3 n1 n2 n3) ∧ From w.heap.size hb tb gb ∧ Below w.heap.size w w' := by
  have N1 := Lib.hid (fun W => ref_New_yes n1 a1 b1 W)
  have N2 := Lib.hid (fun W => ref_New_yes n2 a2 b2 W)
  have N3 := Lib.hid (fun W => ref_New_yes n3 a3 b3 W)
  have hL0 : Blok ((w.alloc (.cells #[.pointer none, .pointer none, .pointer none, .pointer none] 125)).alloc (.cells #[.int .i64 0, .int .i64 n1, .int .i64 n2, .int .i64 n3] 134)) w.heap.size 125 [.pointer none, .pointer none, .pointer none, .pointer none] := (Blok.new w _ _).alloc _
  have hM0 : Blok ((w.alloc (.cells #[.pointer none, .pointer none, .pointer none, .pointer none] 125)).alloc (.cells #[.int .i64 0, .int .i64 n1, .int .i64 n2, .int .i64 n3] 134)) (w.heap.size + 1) 134 [.int .i64 0, .int .i64 n1, .int .i64 n2, .int .i64 n3] := by
    have := Blok.new (w.alloc (.cells #[.pointer none, .pointer none, .pointer none, .pointer none] 125)) 134 [.int .i64 0, .int .i64 n1, .int .i64 n2, .int .i64 n3]
    have e : (w.alloc (.cells #[.pointer none, .pointer none, .pointer none, .pointer none] 125)).heap.size = w.heap.size + 1 := by simp
    rwa [e] at this
  have B0 : Below w.heap.size w ((w.alloc (.cells #[.pointer none, .pointer none, .pointer none, .pointer none] 125)).alloc (.cells #[.int .i64 0, .int .i64 n1, .int .i64 n2, .int .i64 n3] 134)) := ((Below.refl _ _).alloc (Nat.le_refl _) _).alloc (by simp) _
  go_enter Tryd.func69, Tryd.ntmps69
  go_wp2
  refine wp_loop_rounds 4 ?_
  rw [rounds_succ]
  go_wp2_with (go_at_call 32; refine (N1.out _).mono ?_; rintro e w1 ⟨rfl, hT1, hb1⟩; have hL1 := hL0.below hb1 hL0.lt; have hM1 := hM0.below hb1 hM0.lt; have c1 := hL1.cell 1; have f1 := hL1.frozen 1; have l1 := hL1.lt)
  have hT1 : IsTlb w1 67 50 (w.heap.size + 1 + 1 + 1) (w.heap.size + 1 + 1) (newRow n1) := by simpa using hT1
  have L1 := hL1.set_ 1 (.pointer (some ⟨w.heap.size + 1 + 1 + 1, 0, none⟩))
  have M1 := hM1.far (p := ⟨w.heap.size, 1, none⟩) (by simp) (.pointer (some ⟨w.heap.size + 1 + 1 + 1, 0, none⟩))
  have T1 := hT1.far' (grown_setCell w1 w.heap.size 1 (.pointer (some ⟨w.heap.size + 1 + 1 + 1, 0, none⟩))) (by omega) (by omega)
  have B1 : Below w.heap.size w (w1.setCell ⟨w.heap.size, 1, none⟩ (.pointer (some ⟨w.heap.size + 1 + 1 + 1, 0, none⟩))) := (bthen B0 hb1).setCell (Nat.le_refl _) _
  simp only [List.set_cons_zero, List.set_cons_succ] at L1
  have q1 := T1.hd.lt
  clear hb1 hT1 hL1 hM1 c1 f1 l1
  generalize w1.setCell ⟨w.heap.size, 1, none⟩ (.pointer (some ⟨w.heap.size + 1 + 1 + 1, 0, none⟩)) = v1 at L1 M1 B1 T1 q1  ⊢
  have d2 : v1.cell? ⟨w.heap.size + 1, 2, none⟩ = some (.int .i64 n2) := M1.cell 2
  rw [rounds_succ]
  go_wp2_with (go_at_call 32; refine (N2.out _).mono ?_; rintro e w2 ⟨rfl, hT2, hb2⟩; have hL2 := L1.below hb2 L1.lt; have hM2 := M1.below hb2 M1.lt; have c2 := hL2.cell 2; have f2 := hL2.frozen 2; have l2 := hL2.lt)
  have L2 := hL2.set_ 2 (.pointer (some ⟨v1.heap.size + 1, 0, none⟩))
  have M2 := hM2.far (p := ⟨w.heap.size, 2, none⟩) (by simp) (.pointer (some ⟨v1.heap.size + 1, 0, none⟩))
  have T2 := hT2.far' (grown_setCell w2 w.heap.size 2 (.pointer (some ⟨v1.heap.size + 1, 0, none⟩))) (by omega) (by omega)
  have T1x := (T1.below hb2).far' (grown_setCell w2 w.heap.size 2 (.pointer (some ⟨v1.heap.size + 1, 0, none⟩))) (by omega) (by omega)
  have B2 : Below w.heap.size w (w2.setCell ⟨w.heap.size, 2, none⟩ (.pointer (some ⟨v1.heap.size + 1, 0, none⟩))) := (bthen B1 hb2).setCell (Nat.le_refl _) _
  simp only [List.set_cons_zero, List.set_cons_succ] at L2
  have q2 := T2.hd.lt
  clear hb2 hT2 hL2 hM2 c2 f2 l2
  generalize w2.setCell ⟨w.heap.size, 2, none⟩ (.pointer (some ⟨v1.heap.size + 1, 0, none⟩)) = v2 at L2 M2 B2 T2 q2 T1x ⊢
  have d3 : v2.cell? ⟨w.heap.size + 1, 3, none⟩ = some (.int .i64 n3) := M2.cell 3
  rw [rounds_succ]
  go_wp2_with (go_at_call 32; refine (N3.out _).mono ?_; rintro e w3 ⟨rfl, hT3, hb3⟩; have hL3 := L2.below hb3 L2.lt; have hM3 := M2.below hb3 M2.lt; have c3 := hL3.cell 3; have f3 := hL3.frozen 3; have l3 := hL3.lt)
  have L3 := hL3.set_ 3 (.pointer (some ⟨v2.heap.size + 1, 0, none⟩))
  have M3 := hM3.far (p := ⟨w.heap.size, 3, none⟩) (by simp) (.pointer (some ⟨v2.heap.size + 1, 0, none⟩))
  have T3 := hT3.far' (grown_setCell w3 w.heap.size 3 (.pointer (some ⟨v2.heap.size + 1, 0, none⟩))) (by omega) (by omega)
  have T1xx := (T1x.below hb3).far' (grown_setCell w3 w.heap.size 3 (.pointer (some ⟨v2.heap.size + 1, 0, none⟩))) (by omega) (by omega)
  have T2x := (T2.below hb3).far' (grown_setCell w3 w.heap.size 3 (.pointer (some ⟨v2.heap.size + 1, 0, none⟩))) (by omega) (by omega)
  have B3 : Below w.heap.size w (w3.setCell ⟨w.heap.size, 3, none⟩ (.pointer (some ⟨v2.heap.size + 1, 0, none⟩))) := (bthen B2 hb3).setCell (Nat.le_refl _) _
  simp only [List.set_cons_zero, List.set_cons_succ] at L3
  have q3 := T3.hd.lt
  clear hb3 hT3 hL3 hM3 c3 f3 l3
  generalize w3.setCell ⟨w.heap.size, 3, none⟩ (.pointer (some ⟨v2.heap.size + 1, 0, none⟩)) = v3 at L3 M3 B3 T3 q3 T1xx T2x ⊢
  rw [rounds_succ]
  go_wp2
  go_ret2
  have hTh := three_mk T1xx T2x T3 (by omega) (by omega) (by omega) (by omega) (by omega) (by omega)
  refine ⟨w.heap.size, sel3 (w.heap.size + 1 + 1 + 1) (v1.heap.size + 1) (v2.heap.size + 1), sel3 (w.heap.size + 1 + 1) v1.heap.size v2.heap.size, rfl, ⟨L3, hTh, ?_⟩, ⟨by omega, fun k a b => ?_⟩, B3⟩
  · rintro ⟨k, a, b, e⟩
    obtain rfl | rfl | rfl : k = 1 ∨ k = 2 ∨ k = 3 := by omega
    all_goals simp [sel3] at e; try omega
  · obtain rfl | rfl | rfl : k = 1 ∨ k = 2 ∨ k = 3 := by omega
    all_goals simp [sel3] <;> omega
set_option maxHeartbeats 3200000 in
set_option maxRecDepth 100000 in
theorem ref11_New_no1 (n1 n2 n3 : Int) (h1 : n1 < 1 ∨ 64 < n1) (w : World) :
    Calls Tryd.prog 69 #[.int .i64 n1, .int .i64 n2, .int .i64 n3] w fun e w' => e = .returned (.tuple #[.pointer none, .int .i64 100]) ∧ Below w.heap.size w w' := by
  have NN := Lib.hid (fun W => ref_New_no n1 h1 W)
  clear h1
  have hL0 : Blok ((w.alloc (.cells #[.pointer none, .pointer none, .pointer none, .pointer none] 125)).alloc (.cells #[.int .i64 0, .int .i64 n1, .int .i64 n2, .int .i64 n3] 134)) w.heap.size 125 [.pointer none, .pointer none, .pointer none, .pointer none] := (Blok.new w _ _).alloc _
  have hM0 : Blok ((w.alloc (.cells #[.pointer none, .pointer none, .pointer none, .pointer none] 125)).alloc (.cells #[.int .i64 0, .int .i64 n1, .int .i64 n2, .int .i64 n3] 134)) (w.heap.size + 1) 134 [.int .i64 0, .int .i64 n1, .int .i64 n2, .int .i64 n3] := by
    have := Blok.new (w.alloc (.cells #[.pointer none, .pointer none, .pointer none, .pointer none] 125)) 134 [.int .i64 0, .int .i64 n1, .int .i64 n2, .int .i64 n3]
    have e : (w.alloc (.cells #[.pointer none, .pointer none, .pointer none, .pointer none] 125)).heap.size = w.heap.size + 1 := by simp
    rwa [e] at this
  have B0 : Below w.heap.size w ((w.alloc (.cells #[.pointer none, .pointer none, .pointer none, .pointer none] 125)).alloc (.cells #[.int .i64 0, .int .i64 n1, .int .i64 n2, .int .i64 n3] 134)) := ((Below.refl _ _).alloc (Nat.le_refl _) _).alloc (by simp) _
  go_enter Tryd.func69, Tryd.ntmps69
  go_wp2
  refine wp_loop_rounds 4 ?_
  rw [rounds_succ]
  go_wp2_with (go_at_call 32; refine (NN.out _).mono ?_; rintro e wn ⟨rfl, rfl⟩)
  go_ret2
  exact ⟨rfl, B0⟩
set_option maxHeartbeats 3200000 in
set_option maxRecDepth 100000 in
theorem ref11_New_no2 (n1 : Nat) (n2 n3 : Int) (a1 : 1 ≤ n1) (b1 : n1 ≤ 64) (h2 : n2 < 1 ∨ 64 < n2) (w : World) :
    Calls Tryd.prog 69 #[.int .i64 n1, .int .i64 n2, .int .i64 n3] w fun e w' => e = .returned (.tuple #[.pointer none, .int .i64 100]) ∧ Below w.heap.size w w' := by
  have N1 := Lib.hid (fun W => ref_New_yes n1 a1 b1 W)
  have NN := Lib.hid (fun W => ref_New_no n2 h2 W)
  clear h2
  have hL0 : Blok ((w.alloc (.cells #[.pointer none, .pointer none, .pointer none, .pointer none] 125)).alloc (.cells #[.int .i64 0, .int .i64 n1, .int .i64 n2, .int .i64 n3] 134)) w.heap.size 125 [.pointer none, .pointer none, .pointer none, .pointer none] := (Blok.new w _ _).alloc _
  have hM0 : Blok ((w.alloc (.cells #[.pointer none, .pointer none, .pointer none, .pointer none] 125)).alloc (.cells #[.int .i64 0, .int .i64 n1, .int .i64 n2, .int .i64 n3] 134)) (w.heap.size + 1) 134 [.int .i64 0, .int .i64 n1, .int .i64 n2, .int .i64 n3] := by
    have := Blok.new (w.alloc (.cells #[.pointer none, .pointer none, .pointer none, .pointer none] 125)) 134 [.int .i64 0, .int .i64 n1, .int .i64 n2, .int .i64 n3]
    have e : (w.alloc (.cells #[.pointer none, .pointer none, .pointer none, .pointer none] 125)).heap.size = w.heap.size + 1 := by simp
    rwa [e] at this
  have B0 : Below w.heap.size w ((w.alloc (.cells #[.pointer none, .pointer none, .pointer none, .pointer none] 125)).alloc (.cells #[.int .i64 0, .int .i64 n1, .int .i64 n2, .int .i64 n3] 134)) := ((Below.refl _ _).alloc (Nat.le_refl _) _).alloc (by simp) _
  go_enter Tryd.func69, Tryd.ntmps69
  go_wp2
  refine wp_loop_rounds 4 ?_
  rw [rounds_succ]
  go_wp2_with (go_at_call 32; refine (N1.out _).mono ?_; rintro e w1 ⟨rfl, hT1, hb1⟩; have hL1 := hL0.below hb1 hL0.lt; have hM1 := hM0.below hb1 hM0.lt; have c1 := hL1.cell 1; have f1 := hL1.frozen 1; have l1 := hL1.lt)
  have L1 := hL1.set_ 1 (.pointer (some ⟨w.heap.size + 1 + 1 + 1, 0, none⟩))
  have M1 := hM1.far (p := ⟨w.heap.size, 1, none⟩) (by simp) (.pointer (some ⟨w.heap.size + 1 + 1 + 1, 0, none⟩))
  have B1 : Below w.heap.size w (w1.setCell ⟨w.heap.size, 1, none⟩ (.pointer (some ⟨w.heap.size + 1 + 1 + 1, 0, none⟩))) := (bthen B0 hb1).setCell (Nat.le_refl _) _
  simp only [List.set_cons_zero, List.set_cons_succ] at L1
  clear hb1 hT1 hL1 hM1 c1 f1 l1
  generalize w1.setCell ⟨w.heap.size, 1, none⟩ (.pointer (some ⟨w.heap.size + 1 + 1 + 1, 0, none⟩)) = v1 at L1 M1 B1 ⊢
  have d2 : v1.cell? ⟨w.heap.size + 1, 2, none⟩ = some (.int .i64 n2) := M1.cell 2
  rw [rounds_succ]
  go_wp2_with (go_at_call 32; refine (NN.out _).mono ?_; rintro e wn ⟨rfl, rfl⟩)
  go_ret2
  exact ⟨rfl, B1⟩
set_option maxHeartbeats 3200000 in
set_option maxRecDepth 100000 in
theorem ref11_New_no3 (n1 n2 : Nat) (n3 : Int) (a1 : 1 ≤ n1) (b1 : n1 ≤ 64) (a2 : 1 ≤ n2) (b2 : n2 ≤ 64) (h3 : n3 < 1 ∨ 64 < n3) (w : World) :
    Calls Tryd.prog 69 #[.int .i64 n1, .int .i64 n2, .int .i64 n3] w fun e w' => e = .returned (.tuple #[.pointer none, .int .i64 100]) ∧ Below w.heap.size w w' := by
  have N1 := Lib.hid (fun W => ref_New_yes n1 a1 b1 W)
  have N2 := Lib.hid (fun W => ref_New_yes n2 a2 b2 W)
  have NN := Lib.hid (fun W => ref_New_no n3 h3 W)
  clear h3
  have hL0 : Blok ((w.alloc (.cells #[.pointer none, .pointer none, .pointer none, .pointer none] 125)).alloc (.cells #[.int .i64 0, .int .i64 n1, .int .i64 n2, .int .i64 n3] 134)) w.heap.size 125 [.pointer none, .pointer none, .pointer none, .pointer none] := (Blok.new w _ _).alloc _
  have hM0 : Blok ((w.alloc (.cells #[.pointer none, .pointer none, .pointer none, .pointer none] 125)).alloc (.cells #[.int .i64 0, .int .i64 n1, .int .i64 n2, .int .i64 n3] 134)) (w.heap.size + 1) 134 [.int .i64 0, .int .i64 n1, .int .i64 n2, .int .i64 n3] := by
    have := Blok.new (w.alloc (.cells #[.pointer none, .pointer none, .pointer none, .pointer none] 125)) 134 [.int .i64 0, .int .i64 n1, .int .i64 n2, .int .i64 n3]
    have e : (w.alloc (.cells #[.pointer none, .pointer none, .pointer none, .pointer none] 125)).heap.size = w.heap.size + 1 := by simp
    rwa [e] at this
  have B0 : Below w.heap.size w ((w.alloc (.cells #[.pointer none, .pointer none, .pointer none, .pointer none] 125)).alloc (.cells #[.int .i64 0, .int .i64 n1, .int .i64 n2, .int .i64 n3] 134)) := ((Below.refl _ _).alloc (Nat.le_refl _) _).alloc (by simp) _
  go_enter Tryd.func69, Tryd.ntmps69
  go_wp2
  refine wp_loop_rounds 4 ?_
  rw [rounds_succ]
  go_wp2_with (go_at_call 32; refine (N1.out _).mono ?_; rintro e w1 ⟨rfl, hT1, hb1⟩; have hL1 := hL0.below hb1 hL0.lt; have hM1 := hM0.below hb1 hM0.lt; have c1 := hL1.cell 1; have f1 := hL1.frozen 1; have l1 := hL1.lt)
  have L1 := hL1.set_ 1 (.pointer (some ⟨w.heap.size + 1 + 1 + 1, 0, none⟩))
  have M1 := hM1.far (p := ⟨w.heap.size, 1, none⟩) (by simp) (.pointer (some ⟨w.heap.size + 1 + 1 + 1, 0, none⟩))
  have B1 : Below w.heap.size w (w1.setCell ⟨w.heap.size, 1, none⟩ (.pointer (some ⟨w.heap.size + 1 + 1 + 1, 0, none⟩))) := (bthen B0 hb1).setCell (Nat.le_refl _) _
  simp only [List.set_cons_zero, List.set_cons_succ] at L1
  clear hb1 hT1 hL1 hM1 c1 f1 l1
  generalize w1.setCell ⟨w.heap.size, 1, none⟩ (.pointer (some ⟨w.heap.size + 1 + 1 + 1, 0, none⟩)) = v1 at L1 M1 B1 ⊢
  have d2 : v1.cell? ⟨w.heap.size + 1, 2, none⟩ = some (.int .i64 n2) := M1.cell 2
  rw [rounds_succ]
  go_wp2_with (go_at_call 32; refine (N2.out _).mono ?_; rintro e w2 ⟨rfl, hT2, hb2⟩; have hL2 := L1.below hb2 L1.lt; have hM2 := M1.below hb2 M1.lt; have c2 := hL2.cell 2; have f2 := hL2.frozen 2; have l2 := hL2.lt)
  have L2 := hL2.set_ 2 (.pointer (some ⟨v1.heap.size + 1, 0, none⟩))
  have M2 := hM2.far (p := ⟨w.heap.size, 2, none⟩) (by simp) (.pointer (some ⟨v1.heap.size + 1, 0, none⟩))
  have B2 : Below w.heap.size w (w2.setCell ⟨w.heap.size, 2, none⟩ (.pointer (some ⟨v1.heap.size + 1, 0, none⟩))) := (bthen B1 hb2).setCell (Nat.le_refl _) _
  simp only [List.set_cons_zero, List.set_cons_succ] at L2
  clear hb2 hT2 hL2 hM2 c2 f2 l2
  generalize w2.setCell ⟨w.heap.size, 2, none⟩ (.pointer (some ⟨v1.heap.size + 1, 0, none⟩)) = v2 at L2 M2 B2 ⊢
  have d3 : v2.cell? ⟨w.heap.size + 1, 3, none⟩ = some (.int .i64 n3) := M2.cell 3
  rw [rounds_succ]
  go_wp2_with (go_at_call 32; refine (NN.out _).mono ?_; rintro e wn ⟨rfl, rfl⟩)
  go_ret2
  exact ⟨rfl, B2⟩
end Go.Proofs.YtngcpcgioophcaaDoor

namespace Go.Proofs.YtngcpcgioophcaaDoor
open Go.RowKit

theorem neq_slot_self (f : Bool) (b : Blk) (w : World) : (binOp .neq 50 (.agg #[.bool f, .int .i64 b.asid, .int .i64 b.size, .int .u32 b.va, .int .u64 b.pa, .int .i64 b.dom, .int .i64 b.ap, .int .u32 b.bits, .bool b.ng, .bool b.xn]) (.agg #[.bool f, .int .i64 b.asid, .int .i64 b.size, .int .u32 b.va, .int .u64 b.pa, .int .i64 b.dom, .int .i64 b.ap, .int .u32 b.bits, .bool b.ng, .bool b.xn])).run Tryd.prog w = .ok (.bool false) w := by
  have h : (Op.equalIn (9995 + 5) 50 (.agg #[.bool f, .int .i64 b.asid, .int .i64 b.size, .int .u32 b.va, .int .u64 b.pa, .int .i64 b.dom, .int .i64 b.ap, .int .u32 b.bits, .bool b.ng, .bool b.xn]) (.agg #[.bool f, .int .i64 b.asid, .int .i64 b.size, .int .u32 b.va, .int .u64 b.pa, .int .i64 b.dom, .int .i64 b.ap, .int .u32 b.bits, .bool b.ng, .bool b.xn])).run Tryd.prog w = .ok true w := by simp [go_sem]
  rw [run_neq_struct, h]; rfl
set_option maxHeartbeats 3200000 in
set_option maxRecDepth 100000 in
theorem slots_is (ga gb n ca cb : Nat) (xs : List Slot) (hn : xs.length = n) (hl2 : n ≤ 64) (w : World) (ha : RowAt w ga xs) (hb : RowAt w gb xs) :
    Calls Tryd.prog 46 #[.slice (some ⟨ga, 0, none⟩) n ca, .slice (some ⟨gb, 0, none⟩) n cb] w fun e w' => e = .returned (.bool true) ∧ Below w.heap.size w w' := by
  have HN := Lib.hid hn
  clear hn
  go_enter Tryd.func46, Tryd.ntmps46
  go_wp2
  go_loopw [5] (fun v5 wr => ∃ k : Nat, k ≤ n ∧ v5 = .int .i64 k ∧ Below w.heap.size w wr) (fun v5 _ => n - (intOf v5).toNat)
  case atStart => exact ⟨0, Nat.zero_le _, rfl, Below.refl _ _⟩
  case round =>
    obtain ⟨k, hk, rfl, hB⟩ := hrel
    have hra := ha.below hB
    have hrb := hb.below hB
    by_cases hlt : k < n
    · obtain ⟨s, hsk⟩ : ∃ s, xs[k]? = some s := ⟨_, List.getElem?_eq_getElem (by rw [HN.out]; exact hlt)⟩
      obtain ⟨full, b⟩ := s
      have hca := hra.cells k _ hsk
      have hcb := hrb.cells k _ hsk
      have hne := neq_slot_self full b
      clear hsk
      (have d0 : (wr).cell? ⟨ga, k * 10, none⟩ = some (.bool full) := hca 0 (by omega); have d1 : (wr).cell? ⟨ga, k * 10 + 1, none⟩ = some (.int .i64 b.asid) := hca 1 (by omega); have d2 : (wr).cell? ⟨ga, k * 10 + 2, none⟩ = some (.int .i64 b.size) := hca 2 (by omega); have d3 : (wr).cell? ⟨ga, k * 10 + 3, none⟩ = some (.int .u32 b.va) := hca 3 (by omega); have d4 : (wr).cell? ⟨ga, k * 10 + 4, none⟩ = some (.int .u64 b.pa) := hca 4 (by omega); have d5 : (wr).cell? ⟨ga, k * 10 + 5, none⟩ = some (.int .i64 b.dom) := hca 5 (by omega); have d6 : (wr).cell? ⟨ga, k * 10 + 6, none⟩ = some (.int .i64 b.ap) := hca 6 (by omega); have d7 : (wr).cell? ⟨ga, k * 10 + 7, none⟩ = some (.int .u32 b.bits) := hca 7 (by omega); have d8 : (wr).cell? ⟨ga, k * 10 + 8, none⟩ = some (.bool b.ng) := hca 8 (by omega); have d9 : (wr).cell? ⟨ga, k * 10 + 9, none⟩ = some (.bool b.xn) := hca 9 (by omega))
      (have e0 : (wr).cell? ⟨gb, k * 10, none⟩ = some (.bool full) := hcb 0 (by omega); have e1 : (wr).cell? ⟨gb, k * 10 + 1, none⟩ = some (.int .i64 b.asid) := hcb 1 (by omega); have e2 : (wr).cell? ⟨gb, k * 10 + 2, none⟩ = some (.int .i64 b.size) := hcb 2 (by omega); have e3 : (wr).cell? ⟨gb, k * 10 + 3, none⟩ = some (.int .u32 b.va) := hcb 3 (by omega); have e4 : (wr).cell? ⟨gb, k * 10 + 4, none⟩ = some (.int .u64 b.pa) := hcb 4 (by omega); have e5 : (wr).cell? ⟨gb, k * 10 + 5, none⟩ = some (.int .i64 b.dom) := hcb 5 (by omega); have e6 : (wr).cell? ⟨gb, k * 10 + 6, none⟩ = some (.int .i64 b.ap) := hcb 6 (by omega); have e7 : (wr).cell? ⟨gb, k * 10 + 7, none⟩ = some (.int .u32 b.bits) := hcb 7 (by omega); have e8 : (wr).cell? ⟨gb, k * 10 + 8, none⟩ = some (.bool b.ng) := hcb 8 (by omega); have e9 : (wr).cell? ⟨gb, k * 10 + 9, none⟩ = some (.bool b.xn) := hcb 9 (by omega))
      clear hca hcb
      go_wp2_with fail
      go_quiet (fail)
      go_wp2
      go_roundw
      case rel => exact ⟨k + 1, by omega, by go_num, bdrewN hB _⟩
      case measure => simp [intOf]; omega
    · go_wp2
      go_ret
      exact ⟨rfl, hB⟩
theorem slots_nil (w : World) : Calls Tryd.prog 46 #[.slice none 0 0, .slice none 0 0] w fun e w' => e = .returned (.bool true) ∧ w = w' := by
  go_enter Tryd.func46, Tryd.ntmps46
  go_wp2
  refine wp_loop_rounds 1 ?_
  rw [rounds_succ]
  go_wp2
  go_ret
  exact ⟨rfl, rfl⟩
theorem zblk_lit : (blkCells zblk).toArray = #[.int .i64 0, .int .i64 0, .int .u32 0, .int .u64 0, .int .i64 0, .int .i64 0, .int .u32 0, .bool false, .bool false] := rfl
theorem hier_Find_is (va asid : Int) (fetch : Bool) (pick : Int) (hp0 : -9223372036854775808 ≤ pick) (hp1 : pick ≤ 9223372036854775807) (mf : Bool) (hb : Nat) (tb gb : Nat → Nat) (xs : Nat → List Slot) (hxo : Ok3 xs) (w : World) (hs : Shf w) (h : IsHier w hb tb gb xs) :
    Calls Tryd.prog 41 #[.pointer (some ⟨hb, 0, none⟩), .int .u32 va, .int .i64 asid, .bool fetch, .int .i64 pick, .bool mf] w (FindPost (fun w' ys => IsHier w' hb tb gb ys) gb (findR xs va asid fetch pick mf) w) := by
  have f1 := findR_put xs va asid fetch pick mf
  have f2 := findR_3 xs va asid fetch pick mf
  have f3 := findR_s xs va asid fetch pick mf
  obtain ⟨s1, s3, sn⟩ := sm_le fetch
  have hl3 : lookN va asid (xs 3) ≤ 64 := Nat.le_trans (lookF_le va asid (xs 3)) (h.th.t 3 (by omega) (by omega)).le
  have hls : lookN va asid (xs (sm fetch)) ≤ 64 := Nat.le_trans (lookF_le va asid _) (h.th.t _ s1 s3).le
  obtain ⟨m3, hm3⟩ : ∃ m, lookN va asid (xs 3) = m := ⟨_, rfl⟩
  obtain ⟨ms, hms⟩ : ∃ m, lookN va asid (xs (sm fetch)) = m := ⟨_, rfl⟩
  obtain ⟨b3, hb3⟩ : ∃ m, lookB va asid (xs 3) = m := ⟨_, rfl⟩
  obtain ⟨bs, hbs⟩ : ∃ m, lookB va asid (xs (sm fetch)) = m := ⟨_, rfl⟩
  have hz3 := lookB_not va asid (xs 3)
  rw [hm3] at hl3 hz3
  rw [hms] at hls
  rw [hb3] at hz3
  have tk : takeRow b3 va asid pick (xs (sm fetch)) = if ms = 0 then putAny b3 (xs (sm fetch)) pick else xs (sm fetch) := by unfold takeRow; rw [hms]
  rw [hm3, hb3, hms] at f1
  rw [hm3, hb3, hms] at f2
  rw [hm3, hms, hbs] at f3
  cases mf
  · by_cases hs0 : ms = 0
    · by_cases h31 : m3 = 1
      · refine (find_b3 va asid fetch pick hp0 hp1 hb tb gb xs hxo m3 ms b3 bs hm3 hms hb3 hbs hl3 hls hs0 h31 w hs h).mono ?_
        rintro e w' ⟨he, hi, hg⟩
        rw [f1 h31 hs0, h31]
        exact ⟨he, hi, hg⟩
      · refine (find_b2 va asid fetch pick hp0 hp1 hb tb gb xs hxo m3 ms b3 bs hm3 hms hb3 hbs hl3 hls hs0 h31 w hs h).mono ?_
        rintro e w' ⟨he, hi, hg⟩
        rw [f2 (.inr ⟨rfl, hs0⟩) (fun c => h31 c.1)]
        exact ⟨he, hi, hg⟩
    · refine (find_b1 va asid fetch pick hp0 hp1 hb tb gb xs hxo m3 ms b3 bs hm3 hms hb3 hbs hl3 hls (by omega) w hs h).mono ?_
      rintro e w' ⟨he, hi, hg⟩
      rw [f3 (by simp [hs0])]
      exact ⟨he, hi, hg⟩
  · by_cases h30 : m3 = 0
    · refine (find_a3 va asid fetch pick hp0 hp1 hb tb gb xs hxo m3 ms b3 bs hm3 hms hb3 hbs hl3 hls h30 w hs h).mono ?_
      rintro e w' ⟨he, hi, hg⟩
      rw [f3 (by simp [h30])]
      exact ⟨he, hi, hg⟩
    · by_cases h31 : m3 = 1
      · refine (find_a2 va asid fetch pick hp0 hp1 hb tb gb xs hxo m3 ms b3 bs hm3 hms hb3 hbs hl3 hls h31 w hs h).mono ?_
        rintro e w' ⟨he, hi, hg⟩
        rw [tk] at hi
        by_cases hs0 : ms = 0
        · rw [if_pos hs0] at hi
          rw [f1 h31 hs0, h31]
          exact ⟨he, hi, hg⟩
        · rw [if_neg hs0, upd_self] at hi
          rw [f2 (.inl ⟨rfl, by omega⟩) (fun c => hs0 c.2), h31]
          exact ⟨he, hi, hg⟩
      · refine (find_a1 va asid fetch pick hp0 hp1 hb tb gb xs hxo m3 ms b3 bs hm3 hms hb3 hbs hl3 hls (by omega) w hs h).mono ?_
        rintro e w' ⟨he, hi, hg⟩
        rw [f2 (.inl ⟨rfl, by omega⟩) (fun c => h31 c.1), hz3 h31]
        have : many m3 = 2 := by unfold many; split <;> omega
        exact ⟨by rw [he, this]; rfl, hi, hg⟩
end Go.Proofs.YtngcpcgioophcaaDoor
