/- What the functions of layer 5 (desc) that a TLB asks come to: the program's and the document's, over every argument of its kind. -/
import Derived.Test.YtngcpcgioophcaaDoorChecked
import Derived.Test.YtngcpcgioophcaaDoorPlain
import Derived.WalkKit
import Derived.WalkSpells
import Derived.Deep.QuietTactic
import Derived.BigQuiet
import Derived.Deep.RegionHeld3
import Derived.Lib.Hide
namespace Go.Proofs.YtngcpcgioophcaaDoor
open Go.RowKit

/-- the table 'shifts' of layer 5 -/
structure Shf (w : World) : Prop where
  s0 : w.cell? ⟨0, 0, none⟩ = some (.int .u64 0)
  s1 : w.cell? ⟨0, 1, none⟩ = some (.int .u64 12)
  s2 : w.cell? ⟨0, 2, none⟩ = some (.int .u64 16)
  s3 : w.cell? ⟨0, 3, none⟩ = some (.int .u64 20)
  s4 : w.cell? ⟨0, 4, none⟩ = some (.int .u64 24)
theorem Shf.pos {w : World} (h : Shf w) : 0 < w.heap.size := World.block_lt_of_cell? w _ h.s0
theorem Shf.below {B : Nat} {w w' : World} (h : Shf w) (hB : 0 < B) (hb : Below B w w') : Shf w' :=
  ⟨(hb.cell hB).trans h.s0, (hb.cell hB).trans h.s1, (hb.cell hB).trans h.s2, (hb.cell hB).trans h.s3, (hb.cell hB).trans h.s4⟩
theorem Shf.drewN {w : World} (h : Shf w) (n : Nat) : Shf (w.drewN n) := ⟨h.s0, h.s1, h.s2, h.s3, h.s4⟩
theorem Shf.alloc {w : World} (h : Shf w) (o : Obj) : Shf (w.alloc o) := h.below h.pos ((Below.refl _ _).alloc (Nat.le_refl _) _)
/-- the cell at a size's index -/
theorem Shf.at_ {w : World} (h : Shf w) (s : Int) (h0 : 0 ≤ s) (h4 : s ≤ 4) : w.cell? ⟨0, s.toNat, none⟩ = some (.int .u64 (shiftOf s)) := by
  obtain rfl | rfl | rfl | rfl | rfl : s = 0 ∨ s = 1 ∨ s = 2 ∨ s = 3 ∨ s = 4 := by omega
  · exact h.s0
  · exact h.s1
  · exact h.s2
  · exact h.s3
  · exact h.s4
theorem qself {P : Program} {f : FuncId} {args : Array Value} {w : World} {v : Value} (h : Calls P f args w fun e w' => e = .returned v ∧ w = w') : Calls P f args w fun e w' => e = .returned v ∧ ∃ n, w' = w.drewN n :=
  h.mono fun _ _ ⟨he, hw⟩ => ⟨he, 0, hw ▸ rfl⟩

/-! ### small ones: nothing is made, nothing is drawn -/
theorem sized_is (s : Int) (w : World) : Calls Tryd.prog 75 #[.int .i64 s] w fun e w' => e = .returned (.bool (sizedB s)) ∧ ∃ n, w' = w.drewN n := by
  by_cases h : 1 ≤ s
  all_goals
    go_enter Tryd.func75, Tryd.ntmps75
    go_wp2
    go_ret
    exact ⟨by simp [sizedB]; omega, 0, rfl⟩
theorem domain_is (s : Int) (w : World) : Calls Tryd.prog 77 #[.int .i64 s] w fun e w' => e = .returned (.bool (domB s)) ∧ ∃ n, w' = w.drewN n := by
  by_cases h : 0 ≤ s
  all_goals
    go_enter Tryd.func77, Tryd.ntmps77
    go_wp2
    go_ret
    exact ⟨by simp [domB]; omega, 0, rfl⟩
set_option maxHeartbeats 800000 in
theorem place_is (v n top : Int) (hn : n = 12 ∨ n = 16 ∨ n = 20 ∨ n = 24) (ht : top = 32 ∨ top = 40) (hv : 0 ≤ v) (w : World) :
    Calls Tryd.prog 76 #[.int .u64 v, .int .u64 n, .int .u64 top] w fun e w' => e = .returned (.bool (placeB v n top)) ∧ ∃ n, w' = w.drewN n := by
  rcases hn with rfl | rfl | rfl | rfl <;> rcases ht with rfl | rfl
  all_goals
    go_enter Tryd.func76, Tryd.ntmps76
    go_wp2
  all_goals
    go_ret
    exact ⟨by simp [placeB, pw, *], 0, rfl⟩
theorem leaf_is (b : Blk) (w : World) : Calls Tryd.prog 89 #[(.agg #[.int .i64 b.ap, .int .u32 b.bits, .bool b.ng, .bool b.xn])] w fun e w' => e = .returned (.bool (leafB b.ap b.bits)) ∧ Below w.heap.size w w' := by
  go_enter Tryd.func89, Tryd.ntmps89
  go_wp2
  all_goals
    go_ret
    exact ⟨by simp [leafB, *] <;> omega, (Below.refl _ _).alloc (Nat.le_refl _) _⟩
theorem bcell {W w1 : World} (hb : Below W.heap.size W w1) : (∀ b o, b < W.heap.size → w1.cell? ⟨b, o, none⟩ = W.cell? ⟨b, o, none⟩) ∧ (∀ b o, b < W.heap.size → w1.frozen? ⟨b, o, none⟩ = W.frozen? ⟨b, o, none⟩) :=
  ⟨fun b o h => hb.cell (p := ⟨b, o, none⟩) h, fun b o h => hb.frozen (p := ⟨b, o, none⟩) h⟩
theorem bdrewN {B : Nat} {w W : World} (h : Below B w W) (n : Nat) : Below B w (W.drewN n) := ⟨h.os, h.tape, h.output, h.size, h.block⟩
theorem bdrew {B : Nat} {w W : World} (h : Below B w W) : Below B w W.drew := ⟨h.os, h.tape, h.output, h.size, h.block⟩
theorem bnext {B : Nat} {W w' w1 : World} (h : Below B W w') (k : Below w'.heap.size w' w1) (hB : B ≤ W.heap.size) : Below B W w1 :=
  h.trans ⟨k.os, k.tape, k.output, k.size, fun i hi => k.block i (Nat.lt_of_lt_of_le hi (Nat.le_trans hB h.size))⟩
theorem bbox {w w1 : World} {o : Obj} (k : Below (w.heap.size + 1) (w.alloc o) w1) : Below w.heap.size w w1 :=
  ((Below.refl w.heap.size w).alloc (Nat.le_refl _) o).trans (k.mono (by omega))
theorem shift_is (s : Int) (h1 : 1 ≤ s) (h4 : s ≤ 4) : shiftOf s = 12 ∨ shiftOf s = 16 ∨ shiftOf s = 20 ∨ shiftOf s = 24 := by
  obtain rfl | rfl | rfl | rfl : s = 1 ∨ s = 2 ∨ s = 3 ∨ s = 4 := by omega
  all_goals simp [shiftOf]
set_option maxHeartbeats 1600000 in
theorem block_is (k base dom : Int) (ns : Bool) (b : Blk) (s : Int) (h1 : 1 ≤ s) (h4 : s ≤ 4) (hb : 0 ≤ base) (w : World) (hs : Shf w) :
    Calls Tryd.prog 78 #[(.agg #[.int .i64 k, .int .u64 base, .int .i64 dom, .bool ns, .int .i64 b.ap, .int .u32 b.bits, .bool b.ng, .bool b.xn]), .int .i64 s] w fun e w' => e = .returned (.bool (blockB base b.ap b.bits s)) ∧ Below w.heap.size w w' := by
  have hpos := hs.pos
  have hg : ∀ o, (w.alloc o).cell? ⟨0, s.toNat, none⟩ = some (.int .u64 (shiftOf s)) := fun o => (hs.alloc o).at_ s (by omega) h4
  have hsh := shift_is s h1 h4
  have h0 : 0 ≤ s := by omega
  have h5 : s < 5 := by omega
  clear hs
  have c1 : ∀ w', Below (w.heap.size + 1) (w.alloc (.cells #[.int .i64 k, .int .u64 base, .int .i64 dom, .bool ns, .int .i64 b.ap, .int .u32 b.bits, .bool b.ng, .bool b.xn] 130)) w' → w'.cell? ⟨w.heap.size, 1, none⟩ = some (.int .u64 base) := fun w' h => (h.cell (by simp)).trans (by simp)
  have c4 : ∀ w', Below (w.heap.size + 1) (w.alloc (.cells #[.int .i64 k, .int .u64 base, .int .i64 dom, .bool ns, .int .i64 b.ap, .int .u32 b.bits, .bool b.ng, .bool b.xn] 130)) w' → w'.cell? ⟨w.heap.size, 4, none⟩ = some (.int .i64 b.ap) := fun w' h => (h.cell (by simp)).trans (by simp)
  have c5 : ∀ w', Below (w.heap.size + 1) (w.alloc (.cells #[.int .i64 k, .int .u64 base, .int .i64 dom, .bool ns, .int .i64 b.ap, .int .u32 b.bits, .bool b.ng, .bool b.xn] 130)) w' → w'.cell? ⟨w.heap.size, 5, none⟩ = some (.int .u32 b.bits) := fun w' h => (h.cell (by simp)).trans (by simp)
  have c6 : ∀ w', Below (w.heap.size + 1) (w.alloc (.cells #[.int .i64 k, .int .u64 base, .int .i64 dom, .bool ns, .int .i64 b.ap, .int .u32 b.bits, .bool b.ng, .bool b.xn] 130)) w' → w'.cell? ⟨w.heap.size, 6, none⟩ = some (.bool b.ng) := fun w' h => (h.cell (by simp)).trans (by simp)
  have c7 : ∀ w', Below (w.heap.size + 1) (w.alloc (.cells #[.int .i64 k, .int .u64 base, .int .i64 dom, .bool ns, .int .i64 b.ap, .int .u32 b.bits, .bool b.ng, .bool b.xn] 130)) w' → w'.cell? ⟨w.heap.size, 7, none⟩ = some (.bool b.xn) := fun w' h => (h.cell (by simp)).trans (by simp)
  have cg : ∀ w', Below (w.heap.size + 1) (w.alloc (.cells #[.int .i64 k, .int .u64 base, .int .i64 dom, .bool ns, .int .i64 b.ap, .int .u32 b.bits, .bool b.ng, .bool b.xn] 130)) w' → w'.cell? ⟨0, s.toNat, none⟩ = some (.int .u64 (shiftOf s)) := fun w' h => (h.cell (by simp)).trans (hg _)
  by_cases c : s = 4
  · have c' : (s == 4) = true := beq_iff_eq.2 c
    obtain ⟨p, hp⟩ : ∃ p, placeB base (shiftOf s) 40 = p := ⟨_, rfl⟩
    have pl := fun W => place_is base (shiftOf s) 40 hsh (.inr rfl) hb W
    rw [hp] at pl
    have fin : blockB base b.ap b.bits s = (p && leafB b.ap b.bits) := by unfold blockB; rw [if_pos c, hp]
    have HF := Lib.hid fin
    have PL := Lib.hid pl
    clear hp fin pl c
    cases p
    · go_enter Tryd.func78, Tryd.ntmps78
      go_wp2_with fail
      go_quiet ((go_at_call 76; exact Calls.quiet_of (PL.out _)))
      go_wp2
      go_ret
      exact ⟨by rw [HF.out]; simp, bdrewN ((Below.refl _ _).alloc (Nat.le_refl _) _) _⟩
    · go_enter Tryd.func78, Tryd.ntmps78
      go_wp2_with fail
      go_region_held3 (fun w' => Below (w.heap.size + 1) (w.alloc (.cells #[.int .i64 k, .int .u64 base, .int .i64 dom, .bool ns, .int .i64 b.ap, .int .u32 b.bits, .bool b.ng, .bool b.xn] 130)) w') (first | assumption | exact bdrew (Below.refl _ _) | exact bdrewN (Below.refl _ _) _ | (apply bdrewN; assumption) | (refine bnext ?_ hb1 ?_ <;> first | assumption | exact bdrewN (Below.refl _ _) _ | (apply bdrewN; assumption) | simp))
        (first | (go_at_call 76; refine (PL.out _).mono ?_; rintro e w1 ⟨rfl, n, rfl⟩) | (go_at_call 89; refine (leaf_is b _).mono ?_; rintro e w1 ⟨rfl, hb1⟩))
      go_wp2
      go_ret
      exact ⟨by rw [HF.out]; simp, bbox (o := .cells #[.int .i64 k, .int .u64 base, .int .i64 dom, .bool ns, .int .i64 b.ap, .int .u32 b.bits, .bool b.ng, .bool b.xn] 130) (by assumption)⟩
  · have c' : (s == 4) = false := beq_eq_false_iff_ne.2 c
    obtain ⟨p, hp⟩ : ∃ p, placeB base (shiftOf s) 32 = p := ⟨_, rfl⟩
    have pl := fun W => place_is base (shiftOf s) 32 hsh (.inl rfl) hb W
    rw [hp] at pl
    have fin : blockB base b.ap b.bits s = (p && leafB b.ap b.bits) := by unfold blockB; rw [if_neg c, hp]
    have HF := Lib.hid fin
    have PL := Lib.hid pl
    clear hp fin pl c
    cases p
    · go_enter Tryd.func78, Tryd.ntmps78
      go_wp2_with fail
      go_quiet ((go_at_call 76; exact Calls.quiet_of (PL.out _)))
      go_wp2
      go_ret
      exact ⟨by rw [HF.out]; simp, bdrewN ((Below.refl _ _).alloc (Nat.le_refl _) _) _⟩
    · go_enter Tryd.func78, Tryd.ntmps78
      go_wp2_with fail
      go_region_held3 (fun w' => Below (w.heap.size + 1) (w.alloc (.cells #[.int .i64 k, .int .u64 base, .int .i64 dom, .bool ns, .int .i64 b.ap, .int .u32 b.bits, .bool b.ng, .bool b.xn] 130)) w') (first | assumption | exact bdrew (Below.refl _ _) | exact bdrewN (Below.refl _ _) _ | (apply bdrewN; assumption) | (refine bnext ?_ hb1 ?_ <;> first | assumption | exact bdrewN (Below.refl _ _) _ | (apply bdrewN; assumption) | simp))
        (first | (go_at_call 76; refine (PL.out _).mono ?_; rintro e w1 ⟨rfl, n, rfl⟩) | (go_at_call 89; refine (leaf_is b _).mono ?_; rintro e w1 ⟨rfl, hb1⟩))
      go_wp2
      go_ret
      exact ⟨by rw [HF.out]; simp, bbox (o := .cells #[.int .i64 k, .int .u64 base, .int .i64 dom, .bool ns, .int .i64 b.ap, .int .u32 b.bits, .bool b.ng, .bool b.xn] 130) (by assumption)⟩
end Go.Proofs.YtngcpcgioophcaaDoor
