/- The program's Right, covers, Over and Takes of layer 10 (tlb), over every argument of its kind. -/
import Derived.Test.YtngcpcgioophcaaDoorDescR
import Derived.Laws.EntriesVeiled
import Derived.Outline
namespace Go.Proofs.YtngcpcgioophcaaDoor
open Go.RowKit

set_option maxHeartbeats 1600000 in
theorem tlb_Right_is (b : Blk) (hb : b.Ok) (w : World) (hs : Shf w) :
    Calls Tryd.prog 18 #[(.agg #[.int .i64 b.asid, .int .i64 b.size, .int .u32 b.va, .int .u64 b.pa, .int .i64 b.dom, .int .i64 b.ap, .int .u32 b.bits, .bool b.ng, .bool b.xn])] w fun e w' => e = .returned (.bool (rightB b)) ∧ Below w.heap.size w w' := by
  have dr := fun W (hW : Shf W) => desc_Right_is b hb W hW
  obtain ⟨r, hr⟩ : ∃ r, transB b = r := ⟨_, rfl⟩
  rw [hr] at dr
  have h0 := hb.asid0
  have h1 := hb.asid1
  clear hb
  obtain ⟨asid, size, va, pa, dom, ap, bits, ng, xn⟩ := b
  have HR := Lib.hid hr
  clear hr
  dsimp only at dr h0 h1 ⊢
  cases ng <;> cases r
  all_goals
    have DR := Lib.hid dr
    clear dr
    go_enter Tryd.func18, Tryd.ntmps18
    go_wp2_with (go_at_call 49; refine (DR.out _ (hs.alloc _)).mono ?_; rintro e w1 ⟨rfl, hb1⟩; obtain ⟨hc1, hf1⟩ := bcell hb1)
    all_goals
      go_ret
      refine ⟨congrArg (fun b => Ending.returned (.bool b)) (by unfold rightB; rw [HR.out]; first | rfl | (simp [*]; done) | (simp [*]; omega) | (rw [Bool.eq_iff_iff]; simp [*]; done) | (rw [Bool.eq_iff_iff]; simp [*]; omega)), ?_⟩
      exact bnext ((Below.refl _ _).alloc (Nat.le_refl _) _) hb1 (Nat.le_refl _)

set_option maxHeartbeats 1600000 in
theorem tlb_covers_is (b : Blk) (va : Int) (w : World) (hs : Shf w) :
    Calls Tryd.prog 57 #[(.agg #[.int .i64 b.asid, .int .i64 b.size, .int .u32 b.va, .int .u64 b.pa, .int .i64 b.dom, .int .i64 b.ap, .int .u32 b.bits, .bool b.ng, .bool b.xn]), .int .u32 va] w fun e w' => e = .returned (.bool (coversB b.va b.size va)) ∧ Below w.heap.size w w' := by
  have hs1 : ∀ o n, Shf ((w.alloc o).drewN n) := fun o n => (hs.alloc o).drewN n
  by_cases h : b.va ≤ va
  · have hd : decide (b.va ≤ va) = true := decide_eq_true h
    clear h
    go_enter Tryd.func57, Tryd.ntmps57
    go_wp2_with fail
    go_quiet ((go_at_call 66; exact Calls.quiet_of (desc_Bytes_is _ _ (hs1 _ _))))
    go_wp2
    go_ret
    exact ⟨by unfold coversB; rw [hd]; rfl, bdrewN ((Below.refl _ _).alloc (Nat.le_refl _) _) _⟩
  · have hd : decide (b.va ≤ va) = false := decide_eq_false h
    clear h
    go_enter Tryd.func57, Tryd.ntmps57
    go_wp2_with fail
    go_quiet (fail)
    go_wp2
    go_ret
    exact ⟨by unfold coversB; rw [hd]; rfl, bdrewN ((Below.refl _ _).alloc (Nat.le_refl _) _) _⟩

set_option maxHeartbeats 1600000 in
theorem tlb_Over_is (b : Blk) (hb : b.Ok) (va asid : Int) (w : World) (hs : Shf w) :
    Calls Tryd.prog 20 #[(.agg #[.int .i64 b.asid, .int .i64 b.size, .int .u32 b.va, .int .u64 b.pa, .int .i64 b.dom, .int .i64 b.ap, .int .u32 b.bits, .bool b.ng, .bool b.xn]), .int .u32 va, .int .i64 asid] w fun e w' => e = .returned (.bool (overB b va asid)) ∧ Below w.heap.size w w' := by
  have dr := fun W (hW : Shf W) => tlb_Right_is b hb W hW
  have dc := fun W (hW : Shf W) => tlb_covers_is b va W hW
  obtain ⟨r, hr⟩ : ∃ r, rightB b = r := ⟨_, rfl⟩
  obtain ⟨c, hc⟩ : ∃ c, coversB b.va b.size va = c := ⟨_, rfl⟩
  rw [hr] at dr
  rw [hc] at dc
  have HR := Lib.hid hr
  have HC := Lib.hid hc
  clear hr hc
  (have c0 : ∀ w', Below (w.heap.size + 1) (w.alloc (.cells #[.int .i64 b.asid, .int .i64 b.size, .int .u32 b.va, .int .u64 b.pa, .int .i64 b.dom, .int .i64 b.ap, .int .u32 b.bits, .bool b.ng, .bool b.xn] 29)) w' → w'.cell? ⟨w.heap.size, 0, none⟩ = some (.int .i64 b.asid) := fun w' h => (h.cell (by simp)).trans (by simp); have c1 : ∀ w', Below (w.heap.size + 1) (w.alloc (.cells #[.int .i64 b.asid, .int .i64 b.size, .int .u32 b.va, .int .u64 b.pa, .int .i64 b.dom, .int .i64 b.ap, .int .u32 b.bits, .bool b.ng, .bool b.xn] 29)) w' → w'.cell? ⟨w.heap.size, 1, none⟩ = some (.int .i64 b.size) := fun w' h => (h.cell (by simp)).trans (by simp); have c2 : ∀ w', Below (w.heap.size + 1) (w.alloc (.cells #[.int .i64 b.asid, .int .i64 b.size, .int .u32 b.va, .int .u64 b.pa, .int .i64 b.dom, .int .i64 b.ap, .int .u32 b.bits, .bool b.ng, .bool b.xn] 29)) w' → w'.cell? ⟨w.heap.size, 2, none⟩ = some (.int .u32 b.va) := fun w' h => (h.cell (by simp)).trans (by simp); have c3 : ∀ w', Below (w.heap.size + 1) (w.alloc (.cells #[.int .i64 b.asid, .int .i64 b.size, .int .u32 b.va, .int .u64 b.pa, .int .i64 b.dom, .int .i64 b.ap, .int .u32 b.bits, .bool b.ng, .bool b.xn] 29)) w' → w'.cell? ⟨w.heap.size, 3, none⟩ = some (.int .u64 b.pa) := fun w' h => (h.cell (by simp)).trans (by simp); have c4 : ∀ w', Below (w.heap.size + 1) (w.alloc (.cells #[.int .i64 b.asid, .int .i64 b.size, .int .u32 b.va, .int .u64 b.pa, .int .i64 b.dom, .int .i64 b.ap, .int .u32 b.bits, .bool b.ng, .bool b.xn] 29)) w' → w'.cell? ⟨w.heap.size, 4, none⟩ = some (.int .i64 b.dom) := fun w' h => (h.cell (by simp)).trans (by simp); have c5 : ∀ w', Below (w.heap.size + 1) (w.alloc (.cells #[.int .i64 b.asid, .int .i64 b.size, .int .u32 b.va, .int .u64 b.pa, .int .i64 b.dom, .int .i64 b.ap, .int .u32 b.bits, .bool b.ng, .bool b.xn] 29)) w' → w'.cell? ⟨w.heap.size, 5, none⟩ = some (.int .i64 b.ap) := fun w' h => (h.cell (by simp)).trans (by simp); have c6 : ∀ w', Below (w.heap.size + 1) (w.alloc (.cells #[.int .i64 b.asid, .int .i64 b.size, .int .u32 b.va, .int .u64 b.pa, .int .i64 b.dom, .int .i64 b.ap, .int .u32 b.bits, .bool b.ng, .bool b.xn] 29)) w' → w'.cell? ⟨w.heap.size, 6, none⟩ = some (.int .u32 b.bits) := fun w' h => (h.cell (by simp)).trans (by simp); have c7 : ∀ w', Below (w.heap.size + 1) (w.alloc (.cells #[.int .i64 b.asid, .int .i64 b.size, .int .u32 b.va, .int .u64 b.pa, .int .i64 b.dom, .int .i64 b.ap, .int .u32 b.bits, .bool b.ng, .bool b.xn] 29)) w' → w'.cell? ⟨w.heap.size, 7, none⟩ = some (.bool b.ng) := fun w' h => (h.cell (by simp)).trans (by simp); have c8 : ∀ w', Below (w.heap.size + 1) (w.alloc (.cells #[.int .i64 b.asid, .int .i64 b.size, .int .u32 b.va, .int .u64 b.pa, .int .i64 b.dom, .int .i64 b.ap, .int .u32 b.bits, .bool b.ng, .bool b.xn] 29)) w' → w'.cell? ⟨w.heap.size, 8, none⟩ = some (.bool b.xn) := fun w' h => (h.cell (by simp)).trans (by simp))
  have hs0 := hs.alloc (.cells #[.int .i64 b.asid, .int .i64 b.size, .int .u32 b.va, .int .u64 b.pa, .int .i64 b.dom, .int .i64 b.ap, .int .u32 b.bits, .bool b.ng, .bool b.xn] 29)
  have hB0 : Below (w.heap.size + 1) (w.alloc (.cells #[.int .i64 b.asid, .int .i64 b.size, .int .u32 b.va, .int .u64 b.pa, .int .i64 b.dom, .int .i64 b.ap, .int .u32 b.bits, .bool b.ng, .bool b.xn] 29)) (w.alloc (.cells #[.int .i64 b.asid, .int .i64 b.size, .int .u32 b.va, .int .u64 b.pa, .int .i64 b.dom, .int .i64 b.ap, .int .u32 b.bits, .bool b.ng, .bool b.xn] 29)) := Below.refl _ _
  cases r <;> cases c
  all_goals
    have DR := Lib.hid dr
    have DC := Lib.hid dc
    clear dr dc
    go_enter Tryd.func20, Tryd.ntmps20
    go_wp2_with (first | (go_at_call 18; refine (DR.out _ hs0).mono ?_; rintro e w1 ⟨rfl, hb1⟩; have hB1 := bnext hB0 hb1 (by simp); have hs1 : Shf w1 := hs0.below hs0.pos hb1) | (go_at_call 57; refine (DC.out _ hs1).mono ?_; rintro e w2 ⟨rfl, hb2⟩; have hB2 := bnext hB1 hb2 (by simp)))
    all_goals
      go_ret
      refine ⟨congrArg (fun b => Ending.returned (.bool b)) (by unfold overB; rw [HR.out, HC.out]; first | rfl | (simp [*]; done) | (simp [*]; omega) | (rw [Bool.eq_iff_iff]; simp [*]; done) | (rw [Bool.eq_iff_iff]; simp [*]; omega)), ?_⟩
      first | exact bbox hB2 | exact bbox hB1
end Go.Proofs.YtngcpcgioophcaaDoor
