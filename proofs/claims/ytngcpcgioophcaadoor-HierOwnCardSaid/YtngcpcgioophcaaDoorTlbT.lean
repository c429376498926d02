/- What the functions in the table of droppings of layer 10 (tlb) come to, and Takes. -/
import Derived.Test.YtngcpcgioophcaaDoorTlbR
namespace Go.Proofs.YtngcpcgioophcaaDoor
open Go.RowKit

structure Tlbi.Ok (d : Tlbi) : Prop where
  kind0 : -9223372036854775808 ≤ d.kind
  kind1 : d.kind ≤ 9223372036854775807
  va0 : 0 ≤ d.va
  va1 : d.va ≤ 4294967295
  asid0 : -9223372036854775808 ≤ d.asid
  asid1 : d.asid ≤ 9223372036854775807

theorem tk1_is (k va' asid' : Int) (b : Blk) (w : World) : Calls Tryd.prog 83 #[.agg #[.int .i64 k, .int .u32 va', .int .i64 asid'], (.agg #[.int .i64 b.asid, .int .i64 b.size, .int .u32 b.va, .int .u64 b.pa, .int .i64 b.dom, .int .i64 b.ap, .int .u32 b.bits, .bool b.ng, .bool b.xn])] w fun e w' => e = .returned (.bool true) ∧ Below w.heap.size w w' := by
  go_enter Tryd.func83, Tryd.ntmps83
  go_wp2
  go_ret
  exact ⟨rfl, ((Below.refl _ _).alloc (Nat.le_refl _) _).alloc (by simp) _⟩
theorem tk3_is (k va' asid' : Int) (b : Blk) (w : World) : Calls Tryd.prog 85 #[.agg #[.int .i64 k, .int .u32 va', .int .i64 asid'], (.agg #[.int .i64 b.asid, .int .i64 b.size, .int .u32 b.va, .int .u64 b.pa, .int .i64 b.dom, .int .i64 b.ap, .int .u32 b.bits, .bool b.ng, .bool b.xn])] w fun e w' => e = .returned (.bool (decide (b.asid = asid'))) ∧ Below w.heap.size w w' := by
  go_enter Tryd.func85, Tryd.ntmps85
  go_wp2
  go_ret
  exact ⟨congrArg (fun b => Ending.returned (.bool b)) (by first | rfl | (simp [*]; done) | (simp [*]; omega) | (rw [Bool.eq_iff_iff]; simp [*]; done) | (rw [Bool.eq_iff_iff]; simp [*]; omega)), ((Below.refl _ _).alloc (Nat.le_refl _) _).alloc (by simp) _⟩
theorem bbox2 {w w1 : World} {o o' : Obj} (k : Below (w.heap.size + 2) ((w.alloc o).alloc o') w1) : Below w.heap.size w w1 :=
  (((Below.refl w.heap.size w).alloc (Nat.le_refl _) o).alloc (by simp) o').trans (k.mono (by omega))
set_option maxHeartbeats 800000 in
theorem tk2_is (k va' asid' : Int) (b : Blk) (hb : b.Ok) (w : World) (hs : Shf w) : Calls Tryd.prog 84 #[.agg #[.int .i64 k, .int .u32 va', .int .i64 asid'], (.agg #[.int .i64 b.asid, .int .i64 b.size, .int .u32 b.va, .int .u64 b.pa, .int .i64 b.dom, .int .i64 b.ap, .int .u32 b.bits, .bool b.ng, .bool b.xn])] w fun e w' => e = .returned (.bool (overB b va' asid')) ∧ Below w.heap.size w w' := by
  have ov := fun W (hW : Shf W) => tlb_Over_is b hb va' asid' W hW
  go_enter Tryd.func84, Tryd.ntmps84
  go_wp2_with (go_at_call 20; refine (ov _ ((hs.alloc _).alloc _)).mono ?_; rintro e w1 ⟨rfl, hb1⟩)
  go_ret
  exact ⟨rfl, bbox2 (hb1.mono (by simp))⟩
set_option maxHeartbeats 800000 in
theorem tk4_is (k va' asid' : Int) (b : Blk) (w : World) (hs : Shf w) : Calls Tryd.prog 86 #[.agg #[.int .i64 k, .int .u32 va', .int .i64 asid'], (.agg #[.int .i64 b.asid, .int .i64 b.size, .int .u32 b.va, .int .u64 b.pa, .int .i64 b.dom, .int .i64 b.ap, .int .u32 b.bits, .bool b.ng, .bool b.xn])] w fun e w' => e = .returned (.bool (coversB b.va b.size va')) ∧ Below w.heap.size w w' := by
  have ov := fun W (hW : Shf W) => tlb_covers_is b va' W hW
  go_enter Tryd.func86, Tryd.ntmps86
  go_wp2_with (go_at_call 57; refine (ov _ ((hs.alloc _).alloc _)).mono ?_; rintro e w1 ⟨rfl, hb1⟩)
  go_ret
  exact ⟨rfl, bbox2 (hb1.mono (by simp))⟩
set_option maxHeartbeats 800000 in
theorem takers_1 (w : World) : Calls Tryd.prog 59 #[.int .i64 1] w fun e w' => e = .returned (.tuple #[.agg #[.bool false, .bool false, .func (.func 83) #[] #[]], .bool true]) ∧ Below w.heap.size w w' := by
  go_enter Tryd.func59, Tryd.ntmps59
  go_wp2
  exact bodyPost_ret (v := .tuple #[.agg #[.bool false, .bool false, .func (.func 83) #[] #[]], .bool true]) (by simp [results, Tryd.results59, go_sem]) rfl ⟨rfl, (Below.refl _ _).alloc (Nat.le_refl _) _⟩
set_option maxHeartbeats 800000 in
theorem takers_2 (w : World) : Calls Tryd.prog 59 #[.int .i64 2] w fun e w' => e = .returned (.tuple #[.agg #[.bool true, .bool true, .func (.func 84) #[] #[]], .bool true]) ∧ Below w.heap.size w w' := by
  go_enter Tryd.func59, Tryd.ntmps59
  go_wp2
  exact bodyPost_ret (v := .tuple #[.agg #[.bool true, .bool true, .func (.func 84) #[] #[]], .bool true]) (by simp [results, Tryd.results59, go_sem]) rfl ⟨rfl, (Below.refl _ _).alloc (Nat.le_refl _) _⟩
set_option maxHeartbeats 800000 in
theorem takers_3 (w : World) : Calls Tryd.prog 59 #[.int .i64 3] w fun e w' => e = .returned (.tuple #[.agg #[.bool false, .bool true, .func (.func 85) #[] #[]], .bool true]) ∧ Below w.heap.size w w' := by
  go_enter Tryd.func59, Tryd.ntmps59
  go_wp2
  exact bodyPost_ret (v := .tuple #[.agg #[.bool false, .bool true, .func (.func 85) #[] #[]], .bool true]) (by simp [results, Tryd.results59, go_sem]) rfl ⟨rfl, (Below.refl _ _).alloc (Nat.le_refl _) _⟩
set_option maxHeartbeats 800000 in
theorem takers_4 (w : World) : Calls Tryd.prog 59 #[.int .i64 4] w fun e w' => e = .returned (.tuple #[.agg #[.bool true, .bool false, .func (.func 86) #[] #[]], .bool true]) ∧ Below w.heap.size w w' := by
  go_enter Tryd.func59, Tryd.ntmps59
  go_wp2
  exact bodyPost_ret (v := .tuple #[.agg #[.bool true, .bool false, .func (.func 86) #[] #[]], .bool true]) (by simp [results, Tryd.results59, go_sem]) rfl ⟨rfl, (Below.refl _ _).alloc (Nat.le_refl _) _⟩
set_option maxHeartbeats 800000 in
theorem takers_no (k : Int) (h1 : (k == 1) = false) (h2 : (k == 2) = false) (h3 : (k == 3) = false) (h4 : (k == 4) = false) (w : World) : Calls Tryd.prog 59 #[.int .i64 k] w fun e w' => e = .returned (.tuple #[.agg #[.bool false, .bool false, .nilFunc], .bool false]) ∧ Below w.heap.size w w' := by
  go_enter Tryd.func59, Tryd.ntmps59
  go_wp2
  exact bodyPost_ret (v := .tuple #[.agg #[.bool false, .bool false, .nilFunc], .bool false]) (by simp [results, Tryd.results59, go_sem]) rfl ⟨rfl, (Below.refl _ _).alloc (Nat.le_refl _) _⟩

set_option maxHeartbeats 3200000 in
theorem takes_1 (va' asid' : Int) (b : Blk) (hb : b.Ok) (w : World) (hs : Shf w) :
    Calls Tryd.prog 22 #[.agg #[.int .i64 1, .int .u32 va', .int .i64 asid'], (.agg #[.int .i64 b.asid, .int .i64 b.size, .int .u32 b.va, .int .u64 b.pa, .int .i64 b.dom, .int .i64 b.ap, .int .u32 b.bits, .bool b.ng, .bool b.xn])] w fun e w' => e = .returned (.bool (takesB ⟨1, va', asid'⟩ b)) ∧ Below w.heap.size w w' := by
  have dr := fun W (hW : Shf W) => tlb_Right_is b hb W hW
  obtain ⟨r, hr⟩ : ∃ r, rightB b = r := ⟨_, rfl⟩
  rw [hr] at dr
  have HR := Lib.hid hr
  clear hr
  (have c0 : ∀ w', Below (w.heap.size + 2) ((w.alloc (.cells #[.int .i64 1, .int .u32 va', .int .i64 asid'] 31)).alloc (.cells #[.int .i64 b.asid, .int .i64 b.size, .int .u32 b.va, .int .u64 b.pa, .int .i64 b.dom, .int .i64 b.ap, .int .u32 b.bits, .bool b.ng, .bool b.xn] 29)) w' → w'.cell? ⟨w.heap.size, 0, none⟩ = some (.int .i64 1) := fun w' h => (h.cell (by simp)).trans (by simp); have c1 : ∀ w', Below (w.heap.size + 2) ((w.alloc (.cells #[.int .i64 1, .int .u32 va', .int .i64 asid'] 31)).alloc (.cells #[.int .i64 b.asid, .int .i64 b.size, .int .u32 b.va, .int .u64 b.pa, .int .i64 b.dom, .int .i64 b.ap, .int .u32 b.bits, .bool b.ng, .bool b.xn] 29)) w' → w'.cell? ⟨w.heap.size, 1, none⟩ = some (.int .u32 va') := fun w' h => (h.cell (by simp)).trans (by simp); have c2 : ∀ w', Below (w.heap.size + 2) ((w.alloc (.cells #[.int .i64 1, .int .u32 va', .int .i64 asid'] 31)).alloc (.cells #[.int .i64 b.asid, .int .i64 b.size, .int .u32 b.va, .int .u64 b.pa, .int .i64 b.dom, .int .i64 b.ap, .int .u32 b.bits, .bool b.ng, .bool b.xn] 29)) w' → w'.cell? ⟨w.heap.size, 2, none⟩ = some (.int .i64 asid') := fun w' h => (h.cell (by simp)).trans (by simp))
  (have d0 : ∀ w', Below (w.heap.size + 2) ((w.alloc (.cells #[.int .i64 1, .int .u32 va', .int .i64 asid'] 31)).alloc (.cells #[.int .i64 b.asid, .int .i64 b.size, .int .u32 b.va, .int .u64 b.pa, .int .i64 b.dom, .int .i64 b.ap, .int .u32 b.bits, .bool b.ng, .bool b.xn] 29)) w' → w'.cell? ⟨w.heap.size + 1, 0, none⟩ = some (.int .i64 b.asid) := fun w' h => (h.cell (by simp)).trans (by simp); have d1 : ∀ w', Below (w.heap.size + 2) ((w.alloc (.cells #[.int .i64 1, .int .u32 va', .int .i64 asid'] 31)).alloc (.cells #[.int .i64 b.asid, .int .i64 b.size, .int .u32 b.va, .int .u64 b.pa, .int .i64 b.dom, .int .i64 b.ap, .int .u32 b.bits, .bool b.ng, .bool b.xn] 29)) w' → w'.cell? ⟨w.heap.size + 1, 1, none⟩ = some (.int .i64 b.size) := fun w' h => (h.cell (by simp)).trans (by simp); have d2 : ∀ w', Below (w.heap.size + 2) ((w.alloc (.cells #[.int .i64 1, .int .u32 va', .int .i64 asid'] 31)).alloc (.cells #[.int .i64 b.asid, .int .i64 b.size, .int .u32 b.va, .int .u64 b.pa, .int .i64 b.dom, .int .i64 b.ap, .int .u32 b.bits, .bool b.ng, .bool b.xn] 29)) w' → w'.cell? ⟨w.heap.size + 1, 2, none⟩ = some (.int .u32 b.va) := fun w' h => (h.cell (by simp)).trans (by simp); have d3 : ∀ w', Below (w.heap.size + 2) ((w.alloc (.cells #[.int .i64 1, .int .u32 va', .int .i64 asid'] 31)).alloc (.cells #[.int .i64 b.asid, .int .i64 b.size, .int .u32 b.va, .int .u64 b.pa, .int .i64 b.dom, .int .i64 b.ap, .int .u32 b.bits, .bool b.ng, .bool b.xn] 29)) w' → w'.cell? ⟨w.heap.size + 1, 3, none⟩ = some (.int .u64 b.pa) := fun w' h => (h.cell (by simp)).trans (by simp); have d4 : ∀ w', Below (w.heap.size + 2) ((w.alloc (.cells #[.int .i64 1, .int .u32 va', .int .i64 asid'] 31)).alloc (.cells #[.int .i64 b.asid, .int .i64 b.size, .int .u32 b.va, .int .u64 b.pa, .int .i64 b.dom, .int .i64 b.ap, .int .u32 b.bits, .bool b.ng, .bool b.xn] 29)) w' → w'.cell? ⟨w.heap.size + 1, 4, none⟩ = some (.int .i64 b.dom) := fun w' h => (h.cell (by simp)).trans (by simp); have d5 : ∀ w', Below (w.heap.size + 2) ((w.alloc (.cells #[.int .i64 1, .int .u32 va', .int .i64 asid'] 31)).alloc (.cells #[.int .i64 b.asid, .int .i64 b.size, .int .u32 b.va, .int .u64 b.pa, .int .i64 b.dom, .int .i64 b.ap, .int .u32 b.bits, .bool b.ng, .bool b.xn] 29)) w' → w'.cell? ⟨w.heap.size + 1, 5, none⟩ = some (.int .i64 b.ap) := fun w' h => (h.cell (by simp)).trans (by simp); have d6 : ∀ w', Below (w.heap.size + 2) ((w.alloc (.cells #[.int .i64 1, .int .u32 va', .int .i64 asid'] 31)).alloc (.cells #[.int .i64 b.asid, .int .i64 b.size, .int .u32 b.va, .int .u64 b.pa, .int .i64 b.dom, .int .i64 b.ap, .int .u32 b.bits, .bool b.ng, .bool b.xn] 29)) w' → w'.cell? ⟨w.heap.size + 1, 6, none⟩ = some (.int .u32 b.bits) := fun w' h => (h.cell (by simp)).trans (by simp); have d7 : ∀ w', Below (w.heap.size + 2) ((w.alloc (.cells #[.int .i64 1, .int .u32 va', .int .i64 asid'] 31)).alloc (.cells #[.int .i64 b.asid, .int .i64 b.size, .int .u32 b.va, .int .u64 b.pa, .int .i64 b.dom, .int .i64 b.ap, .int .u32 b.bits, .bool b.ng, .bool b.xn] 29)) w' → w'.cell? ⟨w.heap.size + 1, 7, none⟩ = some (.bool b.ng) := fun w' h => (h.cell (by simp)).trans (by simp); have d8 : ∀ w', Below (w.heap.size + 2) ((w.alloc (.cells #[.int .i64 1, .int .u32 va', .int .i64 asid'] 31)).alloc (.cells #[.int .i64 b.asid, .int .i64 b.size, .int .u32 b.va, .int .u64 b.pa, .int .i64 b.dom, .int .i64 b.ap, .int .u32 b.bits, .bool b.ng, .bool b.xn] 29)) w' → w'.cell? ⟨w.heap.size + 1, 8, none⟩ = some (.bool b.xn) := fun w' h => (h.cell (by simp)).trans (by simp))
  have hs0 := (hs.alloc (.cells #[.int .i64 1, .int .u32 va', .int .i64 asid'] 31)).alloc (.cells #[.int .i64 b.asid, .int .i64 b.size, .int .u32 b.va, .int .u64 b.pa, .int .i64 b.dom, .int .i64 b.ap, .int .u32 b.bits, .bool b.ng, .bool b.xn] 29)
  have hB0 : Below (w.heap.size + 2) ((w.alloc (.cells #[.int .i64 1, .int .u32 va', .int .i64 asid'] 31)).alloc (.cells #[.int .i64 b.asid, .int .i64 b.size, .int .u32 b.va, .int .u64 b.pa, .int .i64 b.dom, .int .i64 b.ap, .int .u32 b.bits, .bool b.ng, .bool b.xn] 29)) ((w.alloc (.cells #[.int .i64 1, .int .u32 va', .int .i64 asid'] 31)).alloc (.cells #[.int .i64 b.asid, .int .i64 b.size, .int .u32 b.va, .int .u64 b.pa, .int .i64 b.dom, .int .i64 b.ap, .int .u32 b.bits, .bool b.ng, .bool b.xn] 29)) := Below.refl _ _
  obtain ⟨v0, nv⟩ : ∃ x, (va' != 0) = x := ⟨_, rfl⟩
  obtain ⟨a0, na⟩ : ∃ x, (asid' != 0) = x := ⟨_, rfl⟩
  have HV := Lib.hid nv
  have HA := Lib.hid na
  cases r <;> cases v0 <;> cases a0
  all_goals
    have DR := Lib.hid dr
    clear dr
    go_enter Tryd.func22, Tryd.ntmps22
    go_wp2_with (first | (go_at_call 59; refine (takers_1 _).mono ?_; rintro e w1 ⟨rfl, hb1⟩; have hB1 := bnext hB0 hb1 (by simp); have hz1 : w.heap.size < w1.heap.size := (by have := hB1.size; simp at this; omega); have hz2 : w.heap.size + 1 < w1.heap.size := (by have := hB1.size; simp at this; omega)) | (go_at_call 18; refine (DR.out _ ((hs0.below hs0.pos hb1).alloc _)).mono ?_; rintro e w2 ⟨rfl, hb2⟩; have hB2 := bnext (hB1.alloc (by omega) _) hb2 (by simp); obtain ⟨hc2, hf2⟩ := bcell hb2; have hs2 : Shf w2 := ((hs0.below hs0.pos hb1).alloc _).below ((hs0.below hs0.pos hb1).alloc _).pos hb2) | (go_at_call 83; refine (tk1_is _ _ _ _ _).mono ?_; rintro e w3 ⟨rfl, hb3⟩))
  all_goals
    go_ret
    refine ⟨congrArg (fun b => Ending.returned (.bool b)) ?_, ?_⟩
  all_goals first | exact bbox2 (bnext hB2 hb3 (by simp)) | exact bbox2 hB2 | exact bbox2 (hB1.alloc (by omega) _) | skip
  all_goals
    unfold takesB dropB
    rw [HR.out]
    have H1 := HV.out
    have H2 := HA.out
    simp at H1 H2
    simp [*] <;> omega
set_option maxHeartbeats 3200000 in
theorem takes_2 (va' asid' : Int) (b : Blk) (hb : b.Ok) (w : World) (hs : Shf w) :
    Calls Tryd.prog 22 #[.agg #[.int .i64 2, .int .u32 va', .int .i64 asid'], (.agg #[.int .i64 b.asid, .int .i64 b.size, .int .u32 b.va, .int .u64 b.pa, .int .i64 b.dom, .int .i64 b.ap, .int .u32 b.bits, .bool b.ng, .bool b.xn])] w fun e w' => e = .returned (.bool (takesB ⟨2, va', asid'⟩ b)) ∧ Below w.heap.size w w' := by
  have dr := fun W (hW : Shf W) => tlb_Right_is b hb W hW
  obtain ⟨r, hr⟩ : ∃ r, rightB b = r := ⟨_, rfl⟩
  rw [hr] at dr
  have HR := Lib.hid hr
  clear hr
  (have c0 : ∀ w', Below (w.heap.size + 2) ((w.alloc (.cells #[.int .i64 2, .int .u32 va', .int .i64 asid'] 31)).alloc (.cells #[.int .i64 b.asid, .int .i64 b.size, .int .u32 b.va, .int .u64 b.pa, .int .i64 b.dom, .int .i64 b.ap, .int .u32 b.bits, .bool b.ng, .bool b.xn] 29)) w' → w'.cell? ⟨w.heap.size, 0, none⟩ = some (.int .i64 2) := fun w' h => (h.cell (by simp)).trans (by simp); have c1 : ∀ w', Below (w.heap.size + 2) ((w.alloc (.cells #[.int .i64 2, .int .u32 va', .int .i64 asid'] 31)).alloc (.cells #[.int .i64 b.asid, .int .i64 b.size, .int .u32 b.va, .int .u64 b.pa, .int .i64 b.dom, .int .i64 b.ap, .int .u32 b.bits, .bool b.ng, .bool b.xn] 29)) w' → w'.cell? ⟨w.heap.size, 1, none⟩ = some (.int .u32 va') := fun w' h => (h.cell (by simp)).trans (by simp); have c2 : ∀ w', Below (w.heap.size + 2) ((w.alloc (.cells #[.int .i64 2, .int .u32 va', .int .i64 asid'] 31)).alloc (.cells #[.int .i64 b.asid, .int .i64 b.size, .int .u32 b.va, .int .u64 b.pa, .int .i64 b.dom, .int .i64 b.ap, .int .u32 b.bits, .bool b.ng, .bool b.xn] 29)) w' → w'.cell? ⟨w.heap.size, 2, none⟩ = some (.int .i64 asid') := fun w' h => (h.cell (by simp)).trans (by simp))
  (have d0 : ∀ w', Below (w.heap.size + 2) ((w.alloc (.cells #[.int .i64 2, .int .u32 va', .int .i64 asid'] 31)).alloc (.cells #[.int .i64 b.asid, .int .i64 b.size, .int .u32 b.va, .int .u64 b.pa, .int .i64 b.dom, .int .i64 b.ap, .int .u32 b.bits, .bool b.ng, .bool b.xn] 29)) w' → w'.cell? ⟨w.heap.size + 1, 0, none⟩ = some (.int .i64 b.asid) := fun w' h => (h.cell (by simp)).trans (by simp); have d1 : ∀ w', Below (w.heap.size + 2) ((w.alloc (.cells #[.int .i64 2, .int .u32 va', .int .i64 asid'] 31)).alloc (.cells #[.int .i64 b.asid, .int .i64 b.size, .int .u32 b.va, .int .u64 b.pa, .int .i64 b.dom, .int .i64 b.ap, .int .u32 b.bits, .bool b.ng, .bool b.xn] 29)) w' → w'.cell? ⟨w.heap.size + 1, 1, none⟩ = some (.int .i64 b.size) := fun w' h => (h.cell (by simp)).trans (by simp); have d2 : ∀ w', Below (w.heap.size + 2) ((w.alloc (.cells #[.int .i64 2, .int .u32 va', .int .i64 asid'] 31)).alloc (.cells #[.int .i64 b.asid, .int .i64 b.size, .int .u32 b.va, .int .u64 b.pa, .int .i64 b.dom, .int .i64 b.ap, .int .u32 b.bits, .bool b.ng, .bool b.xn] 29)) w' → w'.cell? ⟨w.heap.size + 1, 2, none⟩ = some (.int .u32 b.va) := fun w' h => (h.cell (by simp)).trans (by simp); have d3 : ∀ w', Below (w.heap.size + 2) ((w.alloc (.cells #[.int .i64 2, .int .u32 va', .int .i64 asid'] 31)).alloc (.cells #[.int .i64 b.asid, .int .i64 b.size, .int .u32 b.va, .int .u64 b.pa, .int .i64 b.dom, .int .i64 b.ap, .int .u32 b.bits, .bool b.ng, .bool b.xn] 29)) w' → w'.cell? ⟨w.heap.size + 1, 3, none⟩ = some (.int .u64 b.pa) := fun w' h => (h.cell (by simp)).trans (by simp); have d4 : ∀ w', Below (w.heap.size + 2) ((w.alloc (.cells #[.int .i64 2, .int .u32 va', .int .i64 asid'] 31)).alloc (.cells #[.int .i64 b.asid, .int .i64 b.size, .int .u32 b.va, .int .u64 b.pa, .int .i64 b.dom, .int .i64 b.ap, .int .u32 b.bits, .bool b.ng, .bool b.xn] 29)) w' → w'.cell? ⟨w.heap.size + 1, 4, none⟩ = some (.int .i64 b.dom) := fun w' h => (h.cell (by simp)).trans (by simp); have d5 : ∀ w', Below (w.heap.size + 2) ((w.alloc (.cells #[.int .i64 2, .int .u32 va', .int .i64 asid'] 31)).alloc (.cells #[.int .i64 b.asid, .int .i64 b.size, .int .u32 b.va, .int .u64 b.pa, .int .i64 b.dom, .int .i64 b.ap, .int .u32 b.bits, .bool b.ng, .bool b.xn] 29)) w' → w'.cell? ⟨w.heap.size + 1, 5, none⟩ = some (.int .i64 b.ap) := fun w' h => (h.cell (by simp)).trans (by simp); have d6 : ∀ w', Below (w.heap.size + 2) ((w.alloc (.cells #[.int .i64 2, .int .u32 va', .int .i64 asid'] 31)).alloc (.cells #[.int .i64 b.asid, .int .i64 b.size, .int .u32 b.va, .int .u64 b.pa, .int .i64 b.dom, .int .i64 b.ap, .int .u32 b.bits, .bool b.ng, .bool b.xn] 29)) w' → w'.cell? ⟨w.heap.size + 1, 6, none⟩ = some (.int .u32 b.bits) := fun w' h => (h.cell (by simp)).trans (by simp); have d7 : ∀ w', Below (w.heap.size + 2) ((w.alloc (.cells #[.int .i64 2, .int .u32 va', .int .i64 asid'] 31)).alloc (.cells #[.int .i64 b.asid, .int .i64 b.size, .int .u32 b.va, .int .u64 b.pa, .int .i64 b.dom, .int .i64 b.ap, .int .u32 b.bits, .bool b.ng, .bool b.xn] 29)) w' → w'.cell? ⟨w.heap.size + 1, 7, none⟩ = some (.bool b.ng) := fun w' h => (h.cell (by simp)).trans (by simp); have d8 : ∀ w', Below (w.heap.size + 2) ((w.alloc (.cells #[.int .i64 2, .int .u32 va', .int .i64 asid'] 31)).alloc (.cells #[.int .i64 b.asid, .int .i64 b.size, .int .u32 b.va, .int .u64 b.pa, .int .i64 b.dom, .int .i64 b.ap, .int .u32 b.bits, .bool b.ng, .bool b.xn] 29)) w' → w'.cell? ⟨w.heap.size + 1, 8, none⟩ = some (.bool b.xn) := fun w' h => (h.cell (by simp)).trans (by simp))
  have hs0 := (hs.alloc (.cells #[.int .i64 2, .int .u32 va', .int .i64 asid'] 31)).alloc (.cells #[.int .i64 b.asid, .int .i64 b.size, .int .u32 b.va, .int .u64 b.pa, .int .i64 b.dom, .int .i64 b.ap, .int .u32 b.bits, .bool b.ng, .bool b.xn] 29)
  have hB0 : Below (w.heap.size + 2) ((w.alloc (.cells #[.int .i64 2, .int .u32 va', .int .i64 asid'] 31)).alloc (.cells #[.int .i64 b.asid, .int .i64 b.size, .int .u32 b.va, .int .u64 b.pa, .int .i64 b.dom, .int .i64 b.ap, .int .u32 b.bits, .bool b.ng, .bool b.xn] 29)) ((w.alloc (.cells #[.int .i64 2, .int .u32 va', .int .i64 asid'] 31)).alloc (.cells #[.int .i64 b.asid, .int .i64 b.size, .int .u32 b.va, .int .u64 b.pa, .int .i64 b.dom, .int .i64 b.ap, .int .u32 b.bits, .bool b.ng, .bool b.xn] 29)) := Below.refl _ _
  obtain ⟨v0, nv⟩ : ∃ x, (va' != 0) = x := ⟨_, rfl⟩
  obtain ⟨a0, na⟩ : ∃ x, (asid' != 0) = x := ⟨_, rfl⟩
  have HV := Lib.hid nv
  have HA := Lib.hid na
  cases r <;> cases v0 <;> cases a0
  all_goals
    have DR := Lib.hid dr
    clear dr
    go_enter Tryd.func22, Tryd.ntmps22
    go_wp2_with (first | (go_at_call 59; refine (takers_2 _).mono ?_; rintro e w1 ⟨rfl, hb1⟩; have hB1 := bnext hB0 hb1 (by simp); have hz1 : w.heap.size < w1.heap.size := (by have := hB1.size; simp at this; omega); have hz2 : w.heap.size + 1 < w1.heap.size := (by have := hB1.size; simp at this; omega)) | (go_at_call 18; refine (DR.out _ ((hs0.below hs0.pos hb1).alloc _)).mono ?_; rintro e w2 ⟨rfl, hb2⟩; have hB2 := bnext (hB1.alloc (by omega) _) hb2 (by simp); obtain ⟨hc2, hf2⟩ := bcell hb2; have hs2 : Shf w2 := ((hs0.below hs0.pos hb1).alloc _).below ((hs0.below hs0.pos hb1).alloc _).pos hb2) | (go_at_call 84; refine (tk2_is _ _ _ _ hb _ hs2).mono ?_; rintro e w3 ⟨rfl, hb3⟩))
  all_goals
    go_ret
    refine ⟨congrArg (fun b => Ending.returned (.bool b)) ?_, ?_⟩
  all_goals first | exact bbox2 (bnext hB2 hb3 (by simp)) | exact bbox2 hB2 | exact bbox2 (hB1.alloc (by omega) _) | skip
  all_goals
    unfold takesB dropB
    rw [HR.out]
    have H1 := HV.out
    have H2 := HA.out
    simp at H1 H2
    simp [*] <;> omega
set_option maxHeartbeats 3200000 in
theorem takes_3 (va' asid' : Int) (b : Blk) (hb : b.Ok) (w : World) (hs : Shf w) :
    Calls Tryd.prog 22 #[.agg #[.int .i64 3, .int .u32 va', .int .i64 asid'], (.agg #[.int .i64 b.asid, .int .i64 b.size, .int .u32 b.va, .int .u64 b.pa, .int .i64 b.dom, .int .i64 b.ap, .int .u32 b.bits, .bool b.ng, .bool b.xn])] w fun e w' => e = .returned (.bool (takesB ⟨3, va', asid'⟩ b)) ∧ Below w.heap.size w w' := by
  have dr := fun W (hW : Shf W) => tlb_Right_is b hb W hW
  obtain ⟨r, hr⟩ : ∃ r, rightB b = r := ⟨_, rfl⟩
  rw [hr] at dr
  have HR := Lib.hid hr
  clear hr
  (have c0 : ∀ w', Below (w.heap.size + 2) ((w.alloc (.cells #[.int .i64 3, .int .u32 va', .int .i64 asid'] 31)).alloc (.cells #[.int .i64 b.asid, .int .i64 b.size, .int .u32 b.va, .int .u64 b.pa, .int .i64 b.dom, .int .i64 b.ap, .int .u32 b.bits, .bool b.ng, .bool b.xn] 29)) w' → w'.cell? ⟨w.heap.size, 0, none⟩ = some (.int .i64 3) := fun w' h => (h.cell (by simp)).trans (by simp); have c1 : ∀ w', Below (w.heap.size + 2) ((w.alloc (.cells #[.int .i64 3, .int .u32 va', .int .i64 asid'] 31)).alloc (.cells #[.int .i64 b.asid, .int .i64 b.size, .int .u32 b.va, .int .u64 b.pa, .int .i64 b.dom, .int .i64 b.ap, .int .u32 b.bits, .bool b.ng, .bool b.xn] 29)) w' → w'.cell? ⟨w.heap.size, 1, none⟩ = some (.int .u32 va') := fun w' h => (h.cell (by simp)).trans (by simp); have c2 : ∀ w', Below (w.heap.size + 2) ((w.alloc (.cells #[.int .i64 3, .int .u32 va', .int .i64 asid'] 31)).alloc (.cells #[.int .i64 b.asid, .int .i64 b.size, .int .u32 b.va, .int .u64 b.pa, .int .i64 b.dom, .int .i64 b.ap, .int .u32 b.bits, .bool b.ng, .bool b.xn] 29)) w' → w'.cell? ⟨w.heap.size, 2, none⟩ = some (.int .i64 asid') := fun w' h => (h.cell (by simp)).trans (by simp))
  (have d0 : ∀ w', Below (w.heap.size + 2) ((w.alloc (.cells #[.int .i64 3, .int .u32 va', .int .i64 asid'] 31)).alloc (.cells #[.int .i64 b.asid, .int .i64 b.size, .int .u32 b.va, .int .u64 b.pa, .int .i64 b.dom, .int .i64 b.ap, .int .u32 b.bits, .bool b.ng, .bool b.xn] 29)) w' → w'.cell? ⟨w.heap.size + 1, 0, none⟩ = some (.int .i64 b.asid) := fun w' h => (h.cell (by simp)).trans (by simp); have d1 : ∀ w', Below (w.heap.size + 2) ((w.alloc (.cells #[.int .i64 3, .int .u32 va', .int .i64 asid'] 31)).alloc (.cells #[.int .i64 b.asid, .int .i64 b.size, .int .u32 b.va, .int .u64 b.pa, .int .i64 b.dom, .int .i64 b.ap, .int .u32 b.bits, .bool b.ng, .bool b.xn] 29)) w' → w'.cell? ⟨w.heap.size + 1, 1, none⟩ = some (.int .i64 b.size) := fun w' h => (h.cell (by simp)).trans (by simp); have d2 : ∀ w', Below (w.heap.size + 2) ((w.alloc (.cells #[.int .i64 3, .int .u32 va', .int .i64 asid'] 31)).alloc (.cells #[.int .i64 b.asid, .int .i64 b.size, .int .u32 b.va, .int .u64 b.pa, .int .i64 b.dom, .int .i64 b.ap, .int .u32 b.bits, .bool b.ng, .bool b.xn] 29)) w' → w'.cell? ⟨w.heap.size + 1, 2, none⟩ = some (.int .u32 b.va) := fun w' h => (h.cell (by simp)).trans (by simp); have d3 : ∀ w', Below (w.heap.size + 2) ((w.alloc (.cells #[.int .i64 3, .int .u32 va', .int .i64 asid'] 31)).alloc (.cells #[.int .i64 b.asid, .int .i64 b.size, .int .u32 b.va, .int .u64 b.pa, .int .i64 b.dom, .int .i64 b.ap, .int .u32 b.bits, .bool b.ng, .bool b.xn] 29)) w' → w'.cell? ⟨w.heap.size + 1, 3, none⟩ = some (.int .u64 b.pa) := fun w' h => (h.cell (by simp)).trans (by simp); have d4 : ∀ w', Below (w.heap.size + 2) ((w.alloc (.cells #[.int .i64 3, .int .u32 va', .int .i64 asid'] 31)).alloc (.cells #[.int .i64 b.asid, .int .i64 b.size, .int .u32 b.va, .int .u64 b.pa, .int .i64 b.dom, .int .i64 b.ap, .int .u32 b.bits, .bool b.ng, .bool b.xn] 29)) w' → w'.cell? ⟨w.heap.size + 1, 4, none⟩ = some (.int .i64 b.dom) := fun w' h => (h.cell (by simp)).trans (by simp); have d5 : ∀ w', Below (w.heap.size + 2) ((w.alloc (.cells #[.int .i64 3, .int .u32 va', .int .i64 asid'] 31)).alloc (.cells #[.int .i64 b.asid, .int .i64 b.size, .int .u32 b.va, .int .u64 b.pa, .int .i64 b.dom, .int .i64 b.ap, .int .u32 b.bits, .bool b.ng, .bool b.xn] 29)) w' → w'.cell? ⟨w.heap.size + 1, 5, none⟩ = some (.int .i64 b.ap) := fun w' h => (h.cell (by simp)).trans (by simp); have d6 : ∀ w', Below (w.heap.size + 2) ((w.alloc (.cells #[.int .i64 3, .int .u32 va', .int .i64 asid'] 31)).alloc (.cells #[.int .i64 b.asid, .int .i64 b.size, .int .u32 b.va, .int .u64 b.pa, .int .i64 b.dom, .int .i64 b.ap, .int .u32 b.bits, .bool b.ng, .bool b.xn] 29)) w' → w'.cell? ⟨w.heap.size + 1, 6, none⟩ = some (.int .u32 b.bits) := fun w' h => (h.cell (by simp)).trans (by simp); have d7 : ∀ w', Below (w.heap.size + 2) ((w.alloc (.cells #[.int .i64 3, .int .u32 va', .int .i64 asid'] 31)).alloc (.cells #[.int .i64 b.asid, .int .i64 b.size, .int .u32 b.va, .int .u64 b.pa, .int .i64 b.dom, .int .i64 b.ap, .int .u32 b.bits, .bool b.ng, .bool b.xn] 29)) w' → w'.cell? ⟨w.heap.size + 1, 7, none⟩ = some (.bool b.ng) := fun w' h => (h.cell (by simp)).trans (by simp); have d8 : ∀ w', Below (w.heap.size + 2) ((w.alloc (.cells #[.int .i64 3, .int .u32 va', .int .i64 asid'] 31)).alloc (.cells #[.int .i64 b.asid, .int .i64 b.size, .int .u32 b.va, .int .u64 b.pa, .int .i64 b.dom, .int .i64 b.ap, .int .u32 b.bits, .bool b.ng, .bool b.xn] 29)) w' → w'.cell? ⟨w.heap.size + 1, 8, none⟩ = some (.bool b.xn) := fun w' h => (h.cell (by simp)).trans (by simp))
  have hs0 := (hs.alloc (.cells #[.int .i64 3, .int .u32 va', .int .i64 asid'] 31)).alloc (.cells #[.int .i64 b.asid, .int .i64 b.size, .int .u32 b.va, .int .u64 b.pa, .int .i64 b.dom, .int .i64 b.ap, .int .u32 b.bits, .bool b.ng, .bool b.xn] 29)
  have hB0 : Below (w.heap.size + 2) ((w.alloc (.cells #[.int .i64 3, .int .u32 va', .int .i64 asid'] 31)).alloc (.cells #[.int .i64 b.asid, .int .i64 b.size, .int .u32 b.va, .int .u64 b.pa, .int .i64 b.dom, .int .i64 b.ap, .int .u32 b.bits, .bool b.ng, .bool b.xn] 29)) ((w.alloc (.cells #[.int .i64 3, .int .u32 va', .int .i64 asid'] 31)).alloc (.cells #[.int .i64 b.asid, .int .i64 b.size, .int .u32 b.va, .int .u64 b.pa, .int .i64 b.dom, .int .i64 b.ap, .int .u32 b.bits, .bool b.ng, .bool b.xn] 29)) := Below.refl _ _
  obtain ⟨v0, nv⟩ : ∃ x, (va' != 0) = x := ⟨_, rfl⟩
  obtain ⟨a0, na⟩ : ∃ x, (asid' != 0) = x := ⟨_, rfl⟩
  have HV := Lib.hid nv
  have HA := Lib.hid na
  cases r <;> cases v0 <;> cases a0
  all_goals
    have DR := Lib.hid dr
    clear dr
    go_enter Tryd.func22, Tryd.ntmps22
    go_wp2_with (first | (go_at_call 59; refine (takers_3 _).mono ?_; rintro e w1 ⟨rfl, hb1⟩; have hB1 := bnext hB0 hb1 (by simp); have hz1 : w.heap.size < w1.heap.size := (by have := hB1.size; simp at this; omega); have hz2 : w.heap.size + 1 < w1.heap.size := (by have := hB1.size; simp at this; omega)) | (go_at_call 18; refine (DR.out _ ((hs0.below hs0.pos hb1).alloc _)).mono ?_; rintro e w2 ⟨rfl, hb2⟩; have hB2 := bnext (hB1.alloc (by omega) _) hb2 (by simp); obtain ⟨hc2, hf2⟩ := bcell hb2; have hs2 : Shf w2 := ((hs0.below hs0.pos hb1).alloc _).below ((hs0.below hs0.pos hb1).alloc _).pos hb2) | (go_at_call 85; refine (tk3_is _ _ _ _ _).mono ?_; rintro e w3 ⟨rfl, hb3⟩))
  all_goals
    go_ret
    refine ⟨congrArg (fun b => Ending.returned (.bool b)) ?_, ?_⟩
  all_goals first | exact bbox2 (bnext hB2 hb3 (by simp)) | exact bbox2 hB2 | exact bbox2 (hB1.alloc (by omega) _) | skip
  all_goals
    unfold takesB dropB
    rw [HR.out]
    have H1 := HV.out
    have H2 := HA.out
    simp at H1 H2
    simp [*] <;> omega
set_option maxHeartbeats 3200000 in
theorem takes_4 (va' asid' : Int) (b : Blk) (hb : b.Ok) (w : World) (hs : Shf w) :
    Calls Tryd.prog 22 #[.agg #[.int .i64 4, .int .u32 va', .int .i64 asid'], (.agg #[.int .i64 b.asid, .int .i64 b.size, .int .u32 b.va, .int .u64 b.pa, .int .i64 b.dom, .int .i64 b.ap, .int .u32 b.bits, .bool b.ng, .bool b.xn])] w fun e w' => e = .returned (.bool (takesB ⟨4, va', asid'⟩ b)) ∧ Below w.heap.size w w' := by
  have dr := fun W (hW : Shf W) => tlb_Right_is b hb W hW
  obtain ⟨r, hr⟩ : ∃ r, rightB b = r := ⟨_, rfl⟩
  rw [hr] at dr
  have HR := Lib.hid hr
  clear hr
  (have c0 : ∀ w', Below (w.heap.size + 2) ((w.alloc (.cells #[.int .i64 4, .int .u32 va', .int .i64 asid'] 31)).alloc (.cells #[.int .i64 b.asid, .int .i64 b.size, .int .u32 b.va, .int .u64 b.pa, .int .i64 b.dom, .int .i64 b.ap, .int .u32 b.bits, .bool b.ng, .bool b.xn] 29)) w' → w'.cell? ⟨w.heap.size, 0, none⟩ = some (.int .i64 4) := fun w' h => (h.cell (by simp)).trans (by simp); have c1 : ∀ w', Below (w.heap.size + 2) ((w.alloc (.cells #[.int .i64 4, .int .u32 va', .int .i64 asid'] 31)).alloc (.cells #[.int .i64 b.asid, .int .i64 b.size, .int .u32 b.va, .int .u64 b.pa, .int .i64 b.dom, .int .i64 b.ap, .int .u32 b.bits, .bool b.ng, .bool b.xn] 29)) w' → w'.cell? ⟨w.heap.size, 1, none⟩ = some (.int .u32 va') := fun w' h => (h.cell (by simp)).trans (by simp); have c2 : ∀ w', Below (w.heap.size + 2) ((w.alloc (.cells #[.int .i64 4, .int .u32 va', .int .i64 asid'] 31)).alloc (.cells #[.int .i64 b.asid, .int .i64 b.size, .int .u32 b.va, .int .u64 b.pa, .int .i64 b.dom, .int .i64 b.ap, .int .u32 b.bits, .bool b.ng, .bool b.xn] 29)) w' → w'.cell? ⟨w.heap.size, 2, none⟩ = some (.int .i64 asid') := fun w' h => (h.cell (by simp)).trans (by simp))
  (have d0 : ∀ w', Below (w.heap.size + 2) ((w.alloc (.cells #[.int .i64 4, .int .u32 va', .int .i64 asid'] 31)).alloc (.cells #[.int .i64 b.asid, .int .i64 b.size, .int .u32 b.va, .int .u64 b.pa, .int .i64 b.dom, .int .i64 b.ap, .int .u32 b.bits, .bool b.ng, .bool b.xn] 29)) w' → w'.cell? ⟨w.heap.size + 1, 0, none⟩ = some (.int .i64 b.asid) := fun w' h => (h.cell (by simp)).trans (by simp); have d1 : ∀ w', Below (w.heap.size + 2) ((w.alloc (.cells #[.int .i64 4, .int .u32 va', .int .i64 asid'] 31)).alloc (.cells #[.int .i64 b.asid, .int .i64 b.size, .int .u32 b.va, .int .u64 b.pa, .int .i64 b.dom, .int .i64 b.ap, .int .u32 b.bits, .bool b.ng, .bool b.xn] 29)) w' → w'.cell? ⟨w.heap.size + 1, 1, none⟩ = some (.int .i64 b.size) := fun w' h => (h.cell (by simp)).trans (by simp); have d2 : ∀ w', Below (w.heap.size + 2) ((w.alloc (.cells #[.int .i64 4, .int .u32 va', .int .i64 asid'] 31)).alloc (.cells #[.int .i64 b.asid, .int .i64 b.size, .int .u32 b.va, .int .u64 b.pa, .int .i64 b.dom, .int .i64 b.ap, .int .u32 b.bits, .bool b.ng, .bool b.xn] 29)) w' → w'.cell? ⟨w.heap.size + 1, 2, none⟩ = some (.int .u32 b.va) := fun w' h => (h.cell (by simp)).trans (by simp); have d3 : ∀ w', Below (w.heap.size + 2) ((w.alloc (.cells #[.int .i64 4, .int .u32 va', .int .i64 asid'] 31)).alloc (.cells #[.int .i64 b.asid, .int .i64 b.size, .int .u32 b.va, .int .u64 b.pa, .int .i64 b.dom, .int .i64 b.ap, .int .u32 b.bits, .bool b.ng, .bool b.xn] 29)) w' → w'.cell? ⟨w.heap.size + 1, 3, none⟩ = some (.int .u64 b.pa) := fun w' h => (h.cell (by simp)).trans (by simp); have d4 : ∀ w', Below (w.heap.size + 2) ((w.alloc (.cells #[.int .i64 4, .int .u32 va', .int .i64 asid'] 31)).alloc (.cells #[.int .i64 b.asid, .int .i64 b.size, .int .u32 b.va, .int .u64 b.pa, .int .i64 b.dom, .int .i64 b.ap, .int .u32 b.bits, .bool b.ng, .bool b.xn] 29)) w' → w'.cell? ⟨w.heap.size + 1, 4, none⟩ = some (.int .i64 b.dom) := fun w' h => (h.cell (by simp)).trans (by simp); have d5 : ∀ w', Below (w.heap.size + 2) ((w.alloc (.cells #[.int .i64 4, .int .u32 va', .int .i64 asid'] 31)).alloc (.cells #[.int .i64 b.asid, .int .i64 b.size, .int .u32 b.va, .int .u64 b.pa, .int .i64 b.dom, .int .i64 b.ap, .int .u32 b.bits, .bool b.ng, .bool b.xn] 29)) w' → w'.cell? ⟨w.heap.size + 1, 5, none⟩ = some (.int .i64 b.ap) := fun w' h => (h.cell (by simp)).trans (by simp); have d6 : ∀ w', Below (w.heap.size + 2) ((w.alloc (.cells #[.int .i64 4, .int .u32 va', .int .i64 asid'] 31)).alloc (.cells #[.int .i64 b.asid, .int .i64 b.size, .int .u32 b.va, .int .u64 b.pa, .int .i64 b.dom, .int .i64 b.ap, .int .u32 b.bits, .bool b.ng, .bool b.xn] 29)) w' → w'.cell? ⟨w.heap.size + 1, 6, none⟩ = some (.int .u32 b.bits) := fun w' h => (h.cell (by simp)).trans (by simp); have d7 : ∀ w', Below (w.heap.size + 2) ((w.alloc (.cells #[.int .i64 4, .int .u32 va', .int .i64 asid'] 31)).alloc (.cells #[.int .i64 b.asid, .int .i64 b.size, .int .u32 b.va, .int .u64 b.pa, .int .i64 b.dom, .int .i64 b.ap, .int .u32 b.bits, .bool b.ng, .bool b.xn] 29)) w' → w'.cell? ⟨w.heap.size + 1, 7, none⟩ = some (.bool b.ng) := fun w' h => (h.cell (by simp)).trans (by simp); have d8 : ∀ w', Below (w.heap.size + 2) ((w.alloc (.cells #[.int .i64 4, .int .u32 va', .int .i64 asid'] 31)).alloc (.cells #[.int .i64 b.asid, .int .i64 b.size, .int .u32 b.va, .int .u64 b.pa, .int .i64 b.dom, .int .i64 b.ap, .int .u32 b.bits, .bool b.ng, .bool b.xn] 29)) w' → w'.cell? ⟨w.heap.size + 1, 8, none⟩ = some (.bool b.xn) := fun w' h => (h.cell (by simp)).trans (by simp))
  have hs0 := (hs.alloc (.cells #[.int .i64 4, .int .u32 va', .int .i64 asid'] 31)).alloc (.cells #[.int .i64 b.asid, .int .i64 b.size, .int .u32 b.va, .int .u64 b.pa, .int .i64 b.dom, .int .i64 b.ap, .int .u32 b.bits, .bool b.ng, .bool b.xn] 29)
  have hB0 : Below (w.heap.size + 2) ((w.alloc (.cells #[.int .i64 4, .int .u32 va', .int .i64 asid'] 31)).alloc (.cells #[.int .i64 b.asid, .int .i64 b.size, .int .u32 b.va, .int .u64 b.pa, .int .i64 b.dom, .int .i64 b.ap, .int .u32 b.bits, .bool b.ng, .bool b.xn] 29)) ((w.alloc (.cells #[.int .i64 4, .int .u32 va', .int .i64 asid'] 31)).alloc (.cells #[.int .i64 b.asid, .int .i64 b.size, .int .u32 b.va, .int .u64 b.pa, .int .i64 b.dom, .int .i64 b.ap, .int .u32 b.bits, .bool b.ng, .bool b.xn] 29)) := Below.refl _ _
  obtain ⟨v0, nv⟩ : ∃ x, (va' != 0) = x := ⟨_, rfl⟩
  obtain ⟨a0, na⟩ : ∃ x, (asid' != 0) = x := ⟨_, rfl⟩
  have HV := Lib.hid nv
  have HA := Lib.hid na
  cases r <;> cases v0 <;> cases a0
  all_goals
    have DR := Lib.hid dr
    clear dr
    go_enter Tryd.func22, Tryd.ntmps22
    go_wp2_with (first | (go_at_call 59; refine (takers_4 _).mono ?_; rintro e w1 ⟨rfl, hb1⟩; have hB1 := bnext hB0 hb1 (by simp); have hz1 : w.heap.size < w1.heap.size := (by have := hB1.size; simp at this; omega); have hz2 : w.heap.size + 1 < w1.heap.size := (by have := hB1.size; simp at this; omega)) | (go_at_call 18; refine (DR.out _ ((hs0.below hs0.pos hb1).alloc _)).mono ?_; rintro e w2 ⟨rfl, hb2⟩; have hB2 := bnext (hB1.alloc (by omega) _) hb2 (by simp); obtain ⟨hc2, hf2⟩ := bcell hb2; have hs2 : Shf w2 := ((hs0.below hs0.pos hb1).alloc _).below ((hs0.below hs0.pos hb1).alloc _).pos hb2) | (go_at_call 86; refine (tk4_is _ _ _ _ _ hs2).mono ?_; rintro e w3 ⟨rfl, hb3⟩))
  all_goals
    go_ret
    refine ⟨congrArg (fun b => Ending.returned (.bool b)) ?_, ?_⟩
  all_goals first | exact bbox2 (bnext hB2 hb3 (by simp)) | exact bbox2 hB2 | exact bbox2 (hB1.alloc (by omega) _) | skip
  all_goals
    unfold takesB dropB
    rw [HR.out]
    have H1 := HV.out
    have H2 := HA.out
    simp at H1 H2
    simp [*] <;> omega
end Go.Proofs.YtngcpcgioophcaaDoor
