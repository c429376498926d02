/- What must come at any rate (live of layer 10's laws) comes: the chapter's example, through New, Put, Look, Len and Flush. -/
import Derived.Test.YtngcpcgioophcaaDoorFlush
namespace Go.Proofs.YtngcpcgioophcaaDoor
open Go.RowKit

theorem no_is (k : Int) (w : World) : Calls Tryd.prog 33 #[.int .i64 k] w fun e w' => e = .returned (.int .i64 k) ∧ w = w' := by
  go_enter Tryd.func33, Tryd.ntmps33
  go_wp2
  go_ret
  exact ⟨rfl, rfl⟩
theorem bthen {w w' w1 : World} (h : Below w.heap.size w w') (k : Below w'.heap.size w' w1) : Below w.heap.size w w1 := bnext h k (Nat.le_refl _)
theorem gthen {w w' w1 : World} {g : Nat} (h : Below w.heap.size w w') (k : w'.grownBy w1 (some g)) (hg : w.heap.size ≤ g) : Below w.heap.size w w1 :=
  h.trans ⟨k.os, k.tape, k.output, k.size, fun i hi => k.block i (Nat.lt_of_lt_of_le hi h.size) (by intro e; have := Option.some.inj e; omega)⟩
def smallB (va asid : Int) : Blk := ⟨asid, 1, va, 20480, 1, 3, 14, true, false⟩
def firstB : Blk := ⟨-1, 3, 0, 1048576, 0, 1, 0, false, false⟩
theorem small_is (va asid : Int) (w : World) : Calls Tryd.prog 30 #[.int .u32 va, .int .i64 asid] w fun e w' => e = .returned (.agg #[.int .i64 asid, .int .i64 1, .int .u32 va, .int .u64 20480, .int .i64 1, .int .i64 3, .int .u32 14, .bool true, .bool false]) ∧ Below w.heap.size w w' := by
  go_enter Tryd.func30, Tryd.ntmps30
  go_wp2
  exact bodyPost_ret (v := .agg #[.int .i64 asid, .int .i64 1, .int .u32 va, .int .u64 20480, .int .i64 1, .int .i64 3, .int .u32 14, .bool true, .bool false]) (by simp [results, Tryd.results30, go_sem]) rfl ⟨rfl, (Below.refl _ _).alloc (Nat.le_refl _) _⟩
theorem first_is (w : World) : Calls Tryd.prog 54 #[] w fun e w' => e = .returned (.agg #[.int .i64 (-1), .int .i64 3, .int .u32 0, .int .u64 1048576, .int .i64 0, .int .i64 1, .int .u32 0, .bool false, .bool false]) ∧ Below w.heap.size w w' := by
  go_enter Tryd.func54, Tryd.ntmps54
  go_wp2
  exact bodyPost_ret (v := .agg #[.int .i64 (-1), .int .i64 3, .int .u32 0, .int .u64 1048576, .int .i64 0, .int .i64 1, .int .u32 0, .bool false, .bool false]) (by simp [results, Tryd.results54, go_sem]) rfl ⟨rfl, (Below.refl _ _).alloc (Nat.le_refl _) _⟩
theorem IsTlb.to {w w' : World} {tt st : TypeId} {tb g : Nat} {xs ys : List Slot} (h : IsTlb w tt st tb g xs) (hb : Blok w' g st (rowCells ys)) (hg : w.grownBy w' (some g)) (hl : ys.length = xs.length) : IsTlb w' tt st tb g ys :=
  ⟨by rw [hl]; exact h.hd.grown hg (by intro e; exact h.ne (Option.some.inj e)), hb, h.ne, by rw [hl]; exact h.pos, by rw [hl]; exact h.le⟩
def L0 : List Slot := [⟨false, zblk⟩, ⟨false, zblk⟩]
def L1 : List Slot := [⟨true, smallB 65536 7⟩, ⟨false, zblk⟩]
def L2 : List Slot := [⟨true, smallB 65536 7⟩, ⟨true, firstB⟩]
def L3 : List Slot := [⟨true, smallB 65536 7⟩, ⟨false, zblk⟩]
theorem small_ok (va asid : Int) (h : 0 ≤ va) (h1 : va ≤ 4294967295) (h2 : -9223372036854775808 ≤ asid) (h3 : asid ≤ 9223372036854775807) : (smallB va asid).Ok := by constructor <;> simp [smallB] <;> omega
theorem first_ok : firstB.Ok := by constructor <;> simp [firstB]
theorem L2_ok : RowOk L2 := by
  intro s hs
  simp [L2] at hs
  rcases hs with rfl | rfl
  · exact small_ok _ _ (by omega) (by omega) (by omega) (by omega)
  · exact first_ok
section
variable (tb g : Nat) (W : World)
theorem live_p1 (hW : Shf W) (hT : IsTlb W 105 50 tb g L0) : Calls Tryd.prog 53 #[.pointer (some ⟨tb, 0, none⟩), .agg #[.int .i64 7, .int .i64 1, .int .u32 65536, .int .u64 20480, .int .i64 1, .int .i64 3, .int .u32 14, .bool true, .bool false], .int .i64 0] W fun e w' => e = .returned (.tuple #[.int .i64 0, .int .i64 0]) ∧ IsTlb w' 105 50 tb g L1 ∧ W.grownBy w' (some g) := by
  refine (tlb_Put_yes (smallB 65536 7) (small_ok _ _ (by omega) (by omega) (by omega) (by omega)) (by decide) tb g L0 0 (by omega) (by omega) W hW hT).mono ?_
  rintro e w' ⟨rfl, hb, hg⟩
  exact ⟨rfl, hT.to hb hg (by decide), hg⟩
theorem live_p2 (hW : Shf W) (hT : IsTlb W 105 50 tb g L1) : Calls Tryd.prog 53 #[.pointer (some ⟨tb, 0, none⟩), .agg #[.int .i64 (-1), .int .i64 3, .int .u32 0, .int .u64 1048576, .int .i64 0, .int .i64 1, .int .u32 0, .bool false, .bool false], .int .i64 0] W fun e w' => e = .returned (.tuple #[.int .i64 1, .int .i64 0]) ∧ IsTlb w' 105 50 tb g L2 ∧ W.grownBy w' (some g) := by
  refine (tlb_Put_yes firstB first_ok (by decide) tb g L1 0 (by omega) (by omega) W hW hT).mono ?_
  rintro e w' ⟨rfl, hb, hg⟩
  exact ⟨rfl, hT.to hb hg (by decide), hg⟩
theorem live_k1 (hW : Shf W) (hT : IsTlb W 105 50 tb g L2) : Calls Tryd.prog 28 #[.pointer (some ⟨tb, 0, none⟩), .int .u32 65540, .int .i64 7] W fun e w' => e = .returned (.tuple #[.agg #[.int .i64 0, .int .i64 0, .int .u32 0, .int .u64 0, .int .i64 0, .int .i64 0, .int .u32 0, .bool false, .bool false], .int .i64 2]) ∧ Below W.heap.size W w' :=
  (tlb_Look_is tb g L2 L2_ok 65540 7 W hW hT).mono fun _ _ ⟨he, hb⟩ => ⟨he, hb⟩
theorem live_k2 (hW : Shf W) (hT : IsTlb W 105 50 tb g L2) : Calls Tryd.prog 28 #[.pointer (some ⟨tb, 0, none⟩), .int .u32 65540, .int .i64 8] W fun e w' => e = .returned (.tuple #[.agg #[.int .i64 (-1), .int .i64 3, .int .u32 0, .int .u64 1048576, .int .i64 0, .int .i64 1, .int .u32 0, .bool false, .bool false], .int .i64 1]) ∧ Below W.heap.size W w' :=
  (tlb_Look_is tb g L2 L2_ok 65540 8 W hW hT).mono fun _ _ ⟨he, hb⟩ => ⟨he, hb⟩
theorem live_l1 (hT : IsTlb W 105 50 tb g L2) : Calls Tryd.prog 35 #[.pointer (some ⟨tb, 0, none⟩)] W fun e w' => e = .returned (.int .i64 2) ∧ Below W.heap.size W w' :=
  (tlb_Len_is tb g L2 W hT).mono fun _ _ ⟨he, hb⟩ => ⟨he, hb⟩
theorem live_l2 (hT : IsTlb W 105 50 tb g L3) : Calls Tryd.prog 35 #[.pointer (some ⟨tb, 0, none⟩)] W fun e w' => e = .returned (.int .i64 1) ∧ Below W.heap.size W w' :=
  (tlb_Len_is tb g L3 W hT).mono fun _ _ ⟨he, hb⟩ => ⟨he, hb⟩
theorem live_f (hW : Shf W) (hg0 : g ≠ 0) (hT : IsTlb W 105 50 tb g L2) : Calls Tryd.prog 55 #[.pointer (some ⟨tb, 0, none⟩), .agg #[.int .i64 2, .int .u32 68284, .int .i64 8]] W fun e w' => e = .returned (.int .i64 1) ∧ IsTlb w' 105 50 tb g L3 ∧ W.grownBy w' (some g) := by
  refine (tlb_Flush_is ⟨2, 68284, 8⟩ tb g L2 L2_ok hg0 W hW hT).mono ?_
  rintro e w' ⟨rfl, hb, hg⟩
  exact ⟨rfl, hT.to hb hg (by decide), hg⟩
end
set_option maxHeartbeats 6400000 in
set_option maxRecDepth 100000 in
theorem live_is (w : World) (hs : Shf w) : Calls Tryd.prog 17 #[] w fun e w' => e = .returned (.bool true) ∧ Below w.heap.size w w' := by
  have hn : Calls Tryd.prog 31 #[.int .i64 2] w fun e w' => e = .returned (.tuple #[.pointer (some ⟨w.heap.size + 1, 0, none⟩), .int .i64 0]) ∧ IsTlb w' 105 50 (w.heap.size + 1) w.heap.size L0 ∧ Below w.heap.size w w' := tlb_New_yes 2 (by omega) (by omega) w
  have HN := Lib.hid hn
  clear hn
  go_enter Tryd.func17, Tryd.ntmps17
  go_wp2_with fail
  refine HN.out.mono ?_
  rintro e w1 ⟨rfl, hT1, hb1⟩
  have hz1 : w.heap.size + 1 < w1.heap.size := hT1.hd.lt
  go_wp2_with (go_at_call 33; refine (no_is _ _).mono ?_; rintro e w' ⟨rfl, rfl⟩)
  refine (small_is 65536 7 _).mono ?_
  rintro e w2 ⟨rfl, hb2⟩
  have hT2 := hT1.below hb2
  have hs2 : Shf w2 := (hs.below hs.pos hb1).below (hs.below hs.pos hb1).pos hb2
  have hz2 : w.heap.size + 1 < w2.heap.size := hT2.hd.lt
  go_wp2_with fail
  refine (live_p1 _ _ _ (hs2.alloc _) (hT2.below ((Below.refl _ _).alloc (Nat.le_refl _) _))).mono ?_
  rintro e w3 ⟨rfl, hT3, hg3⟩
  have hs3 : Shf w3 := (hs2.alloc _).grown hg3 (by intro e; have := hs.pos; have := Option.some.inj e; omega)
  go_wp2_with fail
  refine (first_is _).mono ?_
  rintro e w4 ⟨rfl, hb4⟩
  have hT4 := hT3.below hb4
  have hs4 : Shf w4 := hs3.below hs3.pos hb4
  go_wp2_with fail
  refine (live_p2 _ _ _ hs4 hT4).mono ?_
  rintro e w5 ⟨rfl, hT5, hg5⟩
  have hs5 : Shf w5 := hs4.grown hg5 (by intro e; have := hs.pos; have := Option.some.inj e; omega)
  go_wp2_with fail
  refine (live_k1 _ _ _ hs5 hT5).mono ?_
  rintro e w6 ⟨rfl, hb6⟩
  have hT6 := hT5.below hb6
  have hs6 : Shf w6 := hs5.below hs5.pos hb6
  go_wp2_with fail
  refine (live_k2 _ _ _ (hs6.alloc _) (hT6.below ((Below.refl _ _).alloc (Nat.le_refl _) _))).mono ?_
  rintro e w7 ⟨rfl, hb7⟩
  have hT7 := (hT6.below ((Below.refl _ _).alloc (Nat.le_refl _) _)).below hb7
  have hs7 : Shf w7 := (hs6.alloc _).below (hs6.alloc _).pos hb7
  have hz7 : w.heap.size + 1 < w7.heap.size := hT7.hd.lt
  have f0 : ∀ w', (w7.alloc (.cells #[.int .i64 (-1), .int .i64 3, .int .u32 0, .int .u64 1048576, .int .i64 0, .int .i64 1, .int .u32 0, .bool false, .bool false] 29)).grownBy w' (some w.heap.size) → w'.cell? ⟨w7.heap.size, 0, none⟩ = some (.int .i64 (-1)) := fun w' h => (gcell h (by simp) (by simp; omega)).trans (by simp)
  have f1 : ∀ w', (w7.alloc (.cells #[.int .i64 (-1), .int .i64 3, .int .u32 0, .int .u64 1048576, .int .i64 0, .int .i64 1, .int .u32 0, .bool false, .bool false] 29)).grownBy w' (some w.heap.size) → w'.cell? ⟨w7.heap.size, 1, none⟩ = some (.int .i64 3) := fun w' h => (gcell h (by simp) (by simp; omega)).trans (by simp)
  have f2 : ∀ w', (w7.alloc (.cells #[.int .i64 (-1), .int .i64 3, .int .u32 0, .int .u64 1048576, .int .i64 0, .int .i64 1, .int .u32 0, .bool false, .bool false] 29)).grownBy w' (some w.heap.size) → w'.cell? ⟨w7.heap.size, 2, none⟩ = some (.int .u32 0) := fun w' h => (gcell h (by simp) (by simp; omega)).trans (by simp)
  have f3 : ∀ w', (w7.alloc (.cells #[.int .i64 (-1), .int .i64 3, .int .u32 0, .int .u64 1048576, .int .i64 0, .int .i64 1, .int .u32 0, .bool false, .bool false] 29)).grownBy w' (some w.heap.size) → w'.cell? ⟨w7.heap.size, 3, none⟩ = some (.int .u64 1048576) := fun w' h => (gcell h (by simp) (by simp; omega)).trans (by simp)
  have f4 : ∀ w', (w7.alloc (.cells #[.int .i64 (-1), .int .i64 3, .int .u32 0, .int .u64 1048576, .int .i64 0, .int .i64 1, .int .u32 0, .bool false, .bool false] 29)).grownBy w' (some w.heap.size) → w'.cell? ⟨w7.heap.size, 4, none⟩ = some (.int .i64 0) := fun w' h => (gcell h (by simp) (by simp; omega)).trans (by simp)
  have f5 : ∀ w', (w7.alloc (.cells #[.int .i64 (-1), .int .i64 3, .int .u32 0, .int .u64 1048576, .int .i64 0, .int .i64 1, .int .u32 0, .bool false, .bool false] 29)).grownBy w' (some w.heap.size) → w'.cell? ⟨w7.heap.size, 5, none⟩ = some (.int .i64 1) := fun w' h => (gcell h (by simp) (by simp; omega)).trans (by simp)
  have f6 : ∀ w', (w7.alloc (.cells #[.int .i64 (-1), .int .i64 3, .int .u32 0, .int .u64 1048576, .int .i64 0, .int .i64 1, .int .u32 0, .bool false, .bool false] 29)).grownBy w' (some w.heap.size) → w'.cell? ⟨w7.heap.size, 6, none⟩ = some (.int .u32 0) := fun w' h => (gcell h (by simp) (by simp; omega)).trans (by simp)
  have f7 : ∀ w', (w7.alloc (.cells #[.int .i64 (-1), .int .i64 3, .int .u32 0, .int .u64 1048576, .int .i64 0, .int .i64 1, .int .u32 0, .bool false, .bool false] 29)).grownBy w' (some w.heap.size) → w'.cell? ⟨w7.heap.size, 7, none⟩ = some (.bool false) := fun w' h => (gcell h (by simp) (by simp; omega)).trans (by simp)
  have f8 : ∀ w', (w7.alloc (.cells #[.int .i64 (-1), .int .i64 3, .int .u32 0, .int .u64 1048576, .int .i64 0, .int .i64 1, .int .u32 0, .bool false, .bool false] 29)).grownBy w' (some w.heap.size) → w'.cell? ⟨w7.heap.size, 8, none⟩ = some (.bool false) := fun w' h => (gcell h (by simp) (by simp; omega)).trans (by simp)
  go_wp2_with fail
  have hG0 : (w7.alloc (.cells #[.int .i64 (-1), .int .i64 3, .int .u32 0, .int .u64 1048576, .int .i64 0, .int .i64 1, .int .u32 0, .bool false, .bool false] 29)).grownBy (w7.alloc (.cells #[.int .i64 (-1), .int .i64 3, .int .u32 0, .int .u64 1048576, .int .i64 0, .int .i64 1, .int .u32 0, .bool false, .bool false] 29)).drew (some w.heap.size) := ⟨rfl, rfl, rfl, Nat.le_refl _, fun _ _ _ => rfl⟩
  have hT8 : IsTlb (w7.alloc (.cells #[.int .i64 (-1), .int .i64 3, .int .u32 0, .int .u64 1048576, .int .i64 0, .int .i64 1, .int .u32 0, .bool false, .bool false] 29)).drew 105 50 (w.heap.size + 1) w.heap.size L2 := hT7.below ⟨rfl, rfl, rfl, by simp, fun i hi => Below.heap_alloc w7 _ i hi⟩
  have hs8 : Shf (w7.alloc (.cells #[.int .i64 (-1), .int .i64 3, .int .u32 0, .int .u64 1048576, .int .i64 0, .int .i64 1, .int .u32 0, .bool false, .bool false] 29)).drew := (hs7.alloc (.cells #[.int .i64 (-1), .int .i64 3, .int .u32 0, .int .u64 1048576, .int .i64 0, .int .i64 1, .int .u32 0, .bool false, .bool false] 29)).drewN 1
  go_region_held3 (fun w' => (w7.alloc (.cells #[.int .i64 (-1), .int .i64 3, .int .u32 0, .int .u64 1048576, .int .i64 0, .int .i64 1, .int .u32 0, .bool false, .bool false] 29)).grownBy w' (some w.heap.size))
    (first | assumption | (refine gnext ?_ hb12 <;> assumption) | (refine gtrans ?_ hg11 <;> assumption) | (refine gnext ?_ hb10 <;> assumption) | (refine gnext ?_ hb9 <;> assumption))
    (first | (go_at_call 33; refine (no_is _ _).mono ?_; rintro e w' ⟨rfl, rfl⟩)
           | (go_at_call 54; refine (first_is _).mono ?_; rintro e w9 ⟨rfl, hb9⟩; have hT9 := hT8.below hb9; have hs9 : Shf w9 := hs8.below hs8.pos hb9)
           | (go_at_call 35; ((with_reducible refine (live_l1 _ _ _ hT9).mono ?_); rintro e w10 ⟨rfl, hb10⟩; have hT10 := hT9.below hb10; have hs10 : Shf w10 := hs9.below hs9.pos hb10))
           | (go_at_call 55; refine (live_f _ _ _ hs10 (by have := hs.pos; omega) hT10).mono ?_; rintro e w11 ⟨rfl, hT11, hg11⟩)
           | (go_at_call 35; refine (live_l2 _ _ _ hT11).mono ?_; rintro e w12 ⟨rfl, hb12⟩))
  go_wp2
  go_ret
  have hGl : (w7.alloc (.cells #[.int .i64 (-1), .int .i64 3, .int .u32 0, .int .u64 1048576, .int .i64 0, .int .i64 1, .int .u32 0, .bool false, .bool false] 29)).grownBy w12 (some w.heap.size) := by assumption
  have a2 := bthen hb1 hb2
  have a3 := gthen (a2.alloc a2.size _) hg3 (Nat.le_refl _)
  have a4 := bthen a3 hb4
  have a5 := gthen a4 hg5 (Nat.le_refl _)
  have a6 := bthen a5 hb6
  have a7 := bthen (a6.alloc a6.size _) hb7
  exact ⟨rfl, gthen (a7.alloc a7.size _) hGl (Nat.le_refl _)⟩
end Go.Proofs.YtngcpcgioophcaaDoor
