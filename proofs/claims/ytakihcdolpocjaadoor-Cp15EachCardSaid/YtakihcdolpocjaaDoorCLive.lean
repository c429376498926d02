/- The law's live of layer 8. -/
import Derived.Test.YtakihcdolpocjaaDoorCAsk2
namespace Go.Proofs.YtakihcdolpocjaaDoor
open Go.RowKit

def liveL1 : List Int := [0, 0, 0, 2, 0, 0, 0, 0, 0, 0, 625316, 1155549408, 0]
def liveL2 : List Int := [0, 81792, 0, 2, 0, 0, 0, 0, 0, 0, 625316, 1155549408, 0]
theorem live_e1 : writeR ⟨2, 0, 0, 2⟩ true 4294967234 startL = (#[.int .i64 1, .int .i64 0, .int .u32 0, .int .i64 0, .int .u32 0, .bool false, .bool false], 0, liveL1) := by rfl
theorem live_e2 : writeR ⟨2, 0, 0, 0⟩ true 81919 liveL1 = (#[.int .i64 1, .int .i64 0, .int .u32 0, .int .i64 0, .int .u32 0, .bool false, .bool false], 0, liveL2) := by rfl
theorem live_e3 : writeR ⟨8, 0, 7, 1⟩ true 305419896 liveL2 = (#[.int .i64 2, .int .i64 2, .int .u32 305418240, .int .i64 120, .int .u32 0, .bool false, .bool false], 0, liveL2) := by rfl
theorem live_c : ctxA liveL2 = #[.bool false, .bool false, .bool false, .int .i64 2, .bool false, .bool false, .int .u64 77824, .int .u64 0, .int .u32 0, .int .u32 625316, .int .u32 1155549408, .int .i64 0] := by rfl
theorem live_ok : RegsOk liveL2 := ⟨rfl, fun k hk => by
  obtain rfl | rfl | rfl | rfl | rfl | rfl | rfl | rfl | rfl | rfl | rfl | rfl | rfl : k = 0 ∨ k = 1 ∨ k = 2 ∨ k = 3 ∨ k = 4 ∨ k = 5 ∨ k = 6 ∨ k = 7 ∨ k = 8 ∨ k = 9 ∨ k = 10 ∨ k = 11 ∨ k = 12 := by omega
  all_goals decide⟩
set_option maxHeartbeats 6400000 in
set_option maxRecDepth 100000 in
theorem live_is (w : World) (hs : Rul w) : Calls Tryd.prog 10 #[] w fun e w' => e = .returned (.bool true) ∧ Below w.heap.size w w' := by
  have heq := eql_act 2 2 305418240 120 0 false false
  have hgp := hs.pos
  have NW := Lib.hid (New_is w hs)
  have W1 := fun W hW hF => Write_is w.heap.size startL ⟨2, 0, 0, 2⟩ true 4294967234 (by decide) (by decide) W hW hF
  have W2 := fun W hW hF => Write_is w.heap.size liveL1 ⟨2, 0, 0, 0⟩ true 81919 (by decide) (by decide) W hW hF
  have W3 := fun W hW hF => Write_is w.heap.size liveL2 ⟨8, 0, 7, 1⟩ true 305419896 (by decide) (by decide) W hW hF
  have CX := fun W hF => Context_is w.heap.size liveL2 live_ok W hF
  have GT := fun W hF => Get_yes 63 w.heap.size liveL2 1 (by decide) W hF
  have eg : rg liveL2 1 = 81792 := rfl
  simp only [live_e1] at W1
  simp only [live_e2] at W2
  simp only [live_e3] at W3
  simp only [live_c] at CX
  simp only [eg] at GT
  have W1 := Lib.hid W1
  have W2 := Lib.hid W2
  have W3 := Lib.hid W3
  have CX := Lib.hid CX
  have GT := Lib.hid GT
  go_enter Tryd.func10, Tryd.ntmps10
  go_wp2_with fail
  refine NW.out.mono ?_
  rintro e w1 ⟨rfl, F1, b1⟩
  have s1 := hs.below b1
  have l1 := F1.b.lt
  go_wp2_with fail
  refine (W1.out _ s1 F1).mono ?_
  rintro e w2 ⟨rfl, F2, g2⟩
  have s2 := s1.grown g2 (by intro e; have := Option.some.inj e; omega)
  have l2 := F2.b.lt
  have G2 : GrownS w w2 (fun b => b = w.heap.size) := ((GrownS.ofBelow b1).one g2 rfl)
  have t2 : Blok (w2.alloc (.cells #[.int .i64 1, .int .i64 0, .int .u32 0, .int .i64 0, .int .u32 0, .bool false, .bool false] 42)) w2.heap.size 42 (#[.int .i64 1, .int .i64 0, .int .u32 0, .int .i64 0, .int .u32 0, .bool false, .bool false] : Array Value).toList := Blok.new w2 _ _
  have F2' := F2.alloc (.cells #[.int .i64 1, .int .i64 0, .int .u32 0, .int .i64 0, .int .u32 0, .bool false, .bool false] 42)
  have s2' := s2.alloc (.cells #[.int .i64 1, .int .i64 0, .int .u32 0, .int .i64 0, .int .u32 0, .bool false, .bool false] 42)
  have G2' := G2.alloc (.cells #[.int .i64 1, .int .i64 0, .int .u32 0, .int .i64 0, .int .u32 0, .bool false, .bool false] 42)
  go_wp2_with fail
  refine (W2.out _ s2' F2').mono ?_
  rintro e w3 ⟨rfl, F3, g3⟩
  have s3 := s2'.grown g3 (by intro e; have := Option.some.inj e; omega)
  have l3 := F3.b.lt
  have z3 := g3.size
  simp at z3
  have G3 := G2'.one g3 rfl
  have t3 := (t2.grown g3 (by intro e; have := Option.some.inj e; omega)).alloc (.cells #[.int .i64 1, .int .i64 0, .int .u32 0, .int .i64 0, .int .u32 0, .bool false, .bool false] 42)
  have u3 : Blok (w3.alloc (.cells #[.int .i64 1, .int .i64 0, .int .u32 0, .int .i64 0, .int .u32 0, .bool false, .bool false] 42)) w3.heap.size 42 (#[.int .i64 1, .int .i64 0, .int .u32 0, .int .i64 0, .int .u32 0, .bool false, .bool false] : Array Value).toList := Blok.new w3 _ _
  have F3' := F3.alloc (.cells #[.int .i64 1, .int .i64 0, .int .u32 0, .int .i64 0, .int .u32 0, .bool false, .bool false] 42)
  have s3' := s3.alloc (.cells #[.int .i64 1, .int .i64 0, .int .u32 0, .int .i64 0, .int .u32 0, .bool false, .bool false] 42)
  have G3' := G3.alloc (.cells #[.int .i64 1, .int .i64 0, .int .u32 0, .int .i64 0, .int .u32 0, .bool false, .bool false] 42)
  go_wp2_with fail
  refine (W3.out _ s3' F3').mono ?_
  rintro e w4 ⟨rfl, F4, g4⟩
  have l4 := F4.b.lt
  have z4 := g4.size
  simp at z4
  have G4 := G3'.one g4 rfl
  have t4 := (t3.grown g4 (by intro e; have := Option.some.inj e; omega)).alloc (.cells #[.int .i64 2, .int .i64 2, .int .u32 305418240, .int .i64 120, .int .u32 0, .bool false, .bool false] 42)
  have u4 := (u3.grown g4 (by intro e; have := Option.some.inj e; omega)).alloc (.cells #[.int .i64 2, .int .i64 2, .int .u32 305418240, .int .i64 120, .int .u32 0, .bool false, .bool false] 42)
  have x4 : Blok (w4.alloc (.cells #[.int .i64 2, .int .i64 2, .int .u32 305418240, .int .i64 120, .int .u32 0, .bool false, .bool false] 42)) w4.heap.size 42 (#[.int .i64 2, .int .i64 2, .int .u32 305418240, .int .i64 120, .int .u32 0, .bool false, .bool false] : Array Value).toList := Blok.new w4 _ _
  have F4' := F4.alloc (.cells #[.int .i64 2, .int .i64 2, .int .u32 305418240, .int .i64 120, .int .u32 0, .bool false, .bool false] 42)
  have G4' := G4.alloc (.cells #[.int .i64 2, .int .i64 2, .int .u32 305418240, .int .i64 120, .int .u32 0, .bool false, .bool false] 42)
  go_wp2_with fail
  refine (GT.out _ F4').mono ?_
  rintro e w9 ⟨rfl, rfl⟩
  go_wp2_with fail
  refine (CX.out _ F4').mono ?_
  rintro e w5 ⟨rfl, b5⟩
  have z5 := b5.size
  simp at z5
  have q2 : w2.heap.size < w5.heap.size := by omega
  have q3 : w3.heap.size < w5.heap.size := by omega
  have q4 : w4.heap.size < w5.heap.size := by omega
  have t5 := t4.below b5 t4.lt
  have u5 := u4.below b5 u4.lt
  have x5 := x4.below b5 x4.lt
  have G5 := G4'.below b5
  clear z3 z4 z5
  (have p0 : (w5).cell? ⟨w2.heap.size, 0, none⟩ = some (.int .i64 1) := (t5).cell 0; have p1 : (w5).cell? ⟨w2.heap.size, 1, none⟩ = some (.int .i64 0) := (t5).cell 1; have p2 : (w5).cell? ⟨w2.heap.size, 2, none⟩ = some (.int .u32 0) := (t5).cell 2; have p3 : (w5).cell? ⟨w2.heap.size, 3, none⟩ = some (.int .i64 0) := (t5).cell 3; have p4 : (w5).cell? ⟨w2.heap.size, 4, none⟩ = some (.int .u32 0) := (t5).cell 4; have p5 : (w5).cell? ⟨w2.heap.size, 5, none⟩ = some (.bool false) := (t5).cell 5; have p6 : (w5).cell? ⟨w2.heap.size, 6, none⟩ = some (.bool false) := (t5).cell 6)
  (have q0 : (w5).cell? ⟨w3.heap.size, 0, none⟩ = some (.int .i64 1) := (u5).cell 0; have q1 : (w5).cell? ⟨w3.heap.size, 1, none⟩ = some (.int .i64 0) := (u5).cell 1; have q2 : (w5).cell? ⟨w3.heap.size, 2, none⟩ = some (.int .u32 0) := (u5).cell 2; have q3 : (w5).cell? ⟨w3.heap.size, 3, none⟩ = some (.int .i64 0) := (u5).cell 3; have q4 : (w5).cell? ⟨w3.heap.size, 4, none⟩ = some (.int .u32 0) := (u5).cell 4; have q5 : (w5).cell? ⟨w3.heap.size, 5, none⟩ = some (.bool false) := (u5).cell 5; have q6 : (w5).cell? ⟨w3.heap.size, 6, none⟩ = some (.bool false) := (u5).cell 6)
  (have r0 : (w5).cell? ⟨w4.heap.size, 0, none⟩ = some (.int .i64 2) := (x5).cell 0; have r1 : (w5).cell? ⟨w4.heap.size, 1, none⟩ = some (.int .i64 2) := (x5).cell 1; have r2 : (w5).cell? ⟨w4.heap.size, 2, none⟩ = some (.int .u32 305418240) := (x5).cell 2; have r3 : (w5).cell? ⟨w4.heap.size, 3, none⟩ = some (.int .i64 120) := (x5).cell 3; have r4 : (w5).cell? ⟨w4.heap.size, 4, none⟩ = some (.int .u32 0) := (x5).cell 4; have r5 : (w5).cell? ⟨w4.heap.size, 5, none⟩ = some (.bool false) := (x5).cell 5; have r6 : (w5).cell? ⟨w4.heap.size, 6, none⟩ = some (.bool false) := (x5).cell 6)
  go_wp2_with (go_at_call 16; refine (no8_is _ _).mono ?_; rintro e w9 ⟨rfl, rfl⟩)
  go_ret
  exact ⟨rfl, (G5.alloc _).bel (Nat.le_refl _) (fun i hi => Nat.le_of_eq hi.symm)⟩
end Go.Proofs.YtakihcdolpocjaaDoor
