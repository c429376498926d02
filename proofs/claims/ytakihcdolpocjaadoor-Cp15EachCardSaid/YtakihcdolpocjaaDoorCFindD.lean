/- What find of the program's coprocessor comes to at the tuples that drop. -/
import Derived.Test.YtakihcdolpocjaaDoorCFind
namespace Go.Proofs.YtakihcdolpocjaaDoor
open Go.RowKit

set_option maxHeartbeats 1600000 in
theorem find_d3_0 (w : World) : Calls Tryd.prog 29 #[.agg #[.int .i64 8, .int .i64 0, .int .i64 3, .int .i64 0]] w fun e w' => ∃ p, e = .returned (.agg #[.func (.func 41) #[] #[.pointer (some ⟨p, 0, none⟩)], .bool false]) ∧ w'.cell? ⟨p, 0, none⟩ = some (.int .i64 (0 + 1)) ∧ p < w'.heap.size ∧ Below w.heap.size w w' := by
  have hR0 : Blok (((w.alloc (.cells #[.int .i64 8, .int .i64 0, .int .i64 3, .int .i64 0] 31)).alloc (.cells #[.nilFunc, .bool false] 77)).alloc (.cells #[.int .i64 1, .int .i64 2, .int .i64 3, .int .i64 4] 85)) (w.heap.size + 1) 77 [.nilFunc, .bool false] := new3 w _ _ _ _ _ _ rfl rfl
  have hB0 : Below w.heap.size w (((w.alloc (.cells #[.int .i64 8, .int .i64 0, .int .i64 3, .int .i64 0] 31)).alloc (.cells #[.nilFunc, .bool false] 77)).alloc (.cells #[.int .i64 1, .int .i64 2, .int .i64 3, .int .i64 4] 85)) := below3 w _ _ _
  go_enter Tryd.func29, Tryd.ntmps29
  go_wp2_with fail
  refine (drop_is _ _ (w.heap.size + 1 + 1 + 1) (by simp)).mono ?_
  rintro e w1 ⟨rfl, hb1', hB1⟩
  have hR1 := hR0.below hB1 hR0.lt
  clear hR0
  go_wp2_with (refine wpList_store_blok rfl _ (.tmp 2) (.tmp 53) rfl (w.heap.size + 1) 0 #[.func (.func 41) #[] #[.pointer (some ⟨w.heap.size + 1 + 1 + 1, 0, none⟩)], .bool false] rfl rfl hR1 (by simp) (by kernel_rfl) rfl ?_; intro w2 hb2 hg2 hz2)
  have hp2 := hb1'.grown hg2 (by intro e; have := Option.some.inj e; omega)
  have r0 : w2.cell? ⟨w.heap.size + 1, 0, none⟩ = some (.func (.func 41) #[] #[.pointer (some ⟨w.heap.size + 1 + 1 + 1, 0, none⟩)]) := hb2.cell 0
  have r1 : w2.cell? ⟨w.heap.size + 1, 1, none⟩ = some (.bool false) := hb2.cell 1
  refine bodyPost_ret (v := .agg #[.func (.func 41) #[] #[.pointer (some ⟨w.heap.size + 1 + 1 + 1, 0, none⟩)], .bool false]) (by simp [results, Tryd.results29, go_sem, r0, r1]) rfl ⟨_, rfl, hp2.cell 0, hp2.lt, (bthen hB0 hB1).grown hg2 (by have := hB1.size; simp at this; omega) (by simp)⟩
set_option maxHeartbeats 1600000 in
theorem find_d3_1 (w : World) : Calls Tryd.prog 29 #[.agg #[.int .i64 8, .int .i64 0, .int .i64 3, .int .i64 1]] w fun e w' => ∃ p, e = .returned (.agg #[.func (.func 41) #[] #[.pointer (some ⟨p, 0, none⟩)], .bool false]) ∧ w'.cell? ⟨p, 0, none⟩ = some (.int .i64 (1 + 1)) ∧ p < w'.heap.size ∧ Below w.heap.size w w' := by
  have hR0 : Blok (((w.alloc (.cells #[.int .i64 8, .int .i64 0, .int .i64 3, .int .i64 1] 31)).alloc (.cells #[.nilFunc, .bool false] 77)).alloc (.cells #[.int .i64 1, .int .i64 2, .int .i64 3, .int .i64 4] 85)) (w.heap.size + 1) 77 [.nilFunc, .bool false] := new3 w _ _ _ _ _ _ rfl rfl
  have hB0 : Below w.heap.size w (((w.alloc (.cells #[.int .i64 8, .int .i64 0, .int .i64 3, .int .i64 1] 31)).alloc (.cells #[.nilFunc, .bool false] 77)).alloc (.cells #[.int .i64 1, .int .i64 2, .int .i64 3, .int .i64 4] 85)) := below3 w _ _ _
  go_enter Tryd.func29, Tryd.ntmps29
  go_wp2_with fail
  refine (drop_is _ _ (w.heap.size + 1 + 1 + 1) (by simp)).mono ?_
  rintro e w1 ⟨rfl, hb1', hB1⟩
  have hR1 := hR0.below hB1 hR0.lt
  clear hR0
  go_wp2_with (refine wpList_store_blok rfl _ (.tmp 2) (.tmp 53) rfl (w.heap.size + 1) 0 #[.func (.func 41) #[] #[.pointer (some ⟨w.heap.size + 1 + 1 + 1, 0, none⟩)], .bool false] rfl rfl hR1 (by simp) (by kernel_rfl) rfl ?_; intro w2 hb2 hg2 hz2)
  have hp2 := hb1'.grown hg2 (by intro e; have := Option.some.inj e; omega)
  have r0 : w2.cell? ⟨w.heap.size + 1, 0, none⟩ = some (.func (.func 41) #[] #[.pointer (some ⟨w.heap.size + 1 + 1 + 1, 0, none⟩)]) := hb2.cell 0
  have r1 : w2.cell? ⟨w.heap.size + 1, 1, none⟩ = some (.bool false) := hb2.cell 1
  refine bodyPost_ret (v := .agg #[.func (.func 41) #[] #[.pointer (some ⟨w.heap.size + 1 + 1 + 1, 0, none⟩)], .bool false]) (by simp [results, Tryd.results29, go_sem, r0, r1]) rfl ⟨_, rfl, hp2.cell 0, hp2.lt, (bthen hB0 hB1).grown hg2 (by have := hB1.size; simp at this; omega) (by simp)⟩
set_option maxHeartbeats 1600000 in
theorem find_d3_2 (w : World) : Calls Tryd.prog 29 #[.agg #[.int .i64 8, .int .i64 0, .int .i64 3, .int .i64 2]] w fun e w' => ∃ p, e = .returned (.agg #[.func (.func 41) #[] #[.pointer (some ⟨p, 0, none⟩)], .bool false]) ∧ w'.cell? ⟨p, 0, none⟩ = some (.int .i64 (2 + 1)) ∧ p < w'.heap.size ∧ Below w.heap.size w w' := by
  have hR0 : Blok (((w.alloc (.cells #[.int .i64 8, .int .i64 0, .int .i64 3, .int .i64 2] 31)).alloc (.cells #[.nilFunc, .bool false] 77)).alloc (.cells #[.int .i64 1, .int .i64 2, .int .i64 3, .int .i64 4] 85)) (w.heap.size + 1) 77 [.nilFunc, .bool false] := new3 w _ _ _ _ _ _ rfl rfl
  have hB0 : Below w.heap.size w (((w.alloc (.cells #[.int .i64 8, .int .i64 0, .int .i64 3, .int .i64 2] 31)).alloc (.cells #[.nilFunc, .bool false] 77)).alloc (.cells #[.int .i64 1, .int .i64 2, .int .i64 3, .int .i64 4] 85)) := below3 w _ _ _
  go_enter Tryd.func29, Tryd.ntmps29
  go_wp2_with fail
  refine (drop_is _ _ (w.heap.size + 1 + 1 + 1) (by simp)).mono ?_
  rintro e w1 ⟨rfl, hb1', hB1⟩
  have hR1 := hR0.below hB1 hR0.lt
  clear hR0
  go_wp2_with (refine wpList_store_blok rfl _ (.tmp 2) (.tmp 53) rfl (w.heap.size + 1) 0 #[.func (.func 41) #[] #[.pointer (some ⟨w.heap.size + 1 + 1 + 1, 0, none⟩)], .bool false] rfl rfl hR1 (by simp) (by kernel_rfl) rfl ?_; intro w2 hb2 hg2 hz2)
  have hp2 := hb1'.grown hg2 (by intro e; have := Option.some.inj e; omega)
  have r0 : w2.cell? ⟨w.heap.size + 1, 0, none⟩ = some (.func (.func 41) #[] #[.pointer (some ⟨w.heap.size + 1 + 1 + 1, 0, none⟩)]) := hb2.cell 0
  have r1 : w2.cell? ⟨w.heap.size + 1, 1, none⟩ = some (.bool false) := hb2.cell 1
  refine bodyPost_ret (v := .agg #[.func (.func 41) #[] #[.pointer (some ⟨w.heap.size + 1 + 1 + 1, 0, none⟩)], .bool false]) (by simp [results, Tryd.results29, go_sem, r0, r1]) rfl ⟨_, rfl, hp2.cell 0, hp2.lt, (bthen hB0 hB1).grown hg2 (by have := hB1.size; simp at this; omega) (by simp)⟩
set_option maxHeartbeats 1600000 in
theorem find_d3_3 (w : World) : Calls Tryd.prog 29 #[.agg #[.int .i64 8, .int .i64 0, .int .i64 3, .int .i64 3]] w fun e w' => ∃ p, e = .returned (.agg #[.func (.func 41) #[] #[.pointer (some ⟨p, 0, none⟩)], .bool false]) ∧ w'.cell? ⟨p, 0, none⟩ = some (.int .i64 (3 + 1)) ∧ p < w'.heap.size ∧ Below w.heap.size w w' := by
  have hR0 : Blok (((w.alloc (.cells #[.int .i64 8, .int .i64 0, .int .i64 3, .int .i64 3] 31)).alloc (.cells #[.nilFunc, .bool false] 77)).alloc (.cells #[.int .i64 1, .int .i64 2, .int .i64 3, .int .i64 4] 85)) (w.heap.size + 1) 77 [.nilFunc, .bool false] := new3 w _ _ _ _ _ _ rfl rfl
  have hB0 : Below w.heap.size w (((w.alloc (.cells #[.int .i64 8, .int .i64 0, .int .i64 3, .int .i64 3] 31)).alloc (.cells #[.nilFunc, .bool false] 77)).alloc (.cells #[.int .i64 1, .int .i64 2, .int .i64 3, .int .i64 4] 85)) := below3 w _ _ _
  go_enter Tryd.func29, Tryd.ntmps29
  go_wp2_with fail
  refine (drop_is _ _ (w.heap.size + 1 + 1 + 1) (by simp)).mono ?_
  rintro e w1 ⟨rfl, hb1', hB1⟩
  have hR1 := hR0.below hB1 hR0.lt
  clear hR0
  go_wp2_with (refine wpList_store_blok rfl _ (.tmp 2) (.tmp 53) rfl (w.heap.size + 1) 0 #[.func (.func 41) #[] #[.pointer (some ⟨w.heap.size + 1 + 1 + 1, 0, none⟩)], .bool false] rfl rfl hR1 (by simp) (by kernel_rfl) rfl ?_; intro w2 hb2 hg2 hz2)
  have hp2 := hb1'.grown hg2 (by intro e; have := Option.some.inj e; omega)
  have r0 : w2.cell? ⟨w.heap.size + 1, 0, none⟩ = some (.func (.func 41) #[] #[.pointer (some ⟨w.heap.size + 1 + 1 + 1, 0, none⟩)]) := hb2.cell 0
  have r1 : w2.cell? ⟨w.heap.size + 1, 1, none⟩ = some (.bool false) := hb2.cell 1
  refine bodyPost_ret (v := .agg #[.func (.func 41) #[] #[.pointer (some ⟨w.heap.size + 1 + 1 + 1, 0, none⟩)], .bool false]) (by simp [results, Tryd.results29, go_sem, r0, r1]) rfl ⟨_, rfl, hp2.cell 0, hp2.lt, (bthen hB0 hB1).grown hg2 (by have := hB1.size; simp at this; omega) (by simp)⟩
set_option maxHeartbeats 1600000 in
theorem find_d7_0 (w : World) : Calls Tryd.prog 29 #[.agg #[.int .i64 8, .int .i64 0, .int .i64 7, .int .i64 0]] w fun e w' => ∃ p, e = .returned (.agg #[.func (.func 41) #[] #[.pointer (some ⟨p, 0, none⟩)], .bool false]) ∧ w'.cell? ⟨p, 0, none⟩ = some (.int .i64 (0 + 1)) ∧ p < w'.heap.size ∧ Below w.heap.size w w' := by
  have hR0 : Blok (((w.alloc (.cells #[.int .i64 8, .int .i64 0, .int .i64 7, .int .i64 0] 31)).alloc (.cells #[.nilFunc, .bool false] 77)).alloc (.cells #[.int .i64 1, .int .i64 2, .int .i64 3, .int .i64 4] 85)) (w.heap.size + 1) 77 [.nilFunc, .bool false] := new3 w _ _ _ _ _ _ rfl rfl
  have hB0 : Below w.heap.size w (((w.alloc (.cells #[.int .i64 8, .int .i64 0, .int .i64 7, .int .i64 0] 31)).alloc (.cells #[.nilFunc, .bool false] 77)).alloc (.cells #[.int .i64 1, .int .i64 2, .int .i64 3, .int .i64 4] 85)) := below3 w _ _ _
  go_enter Tryd.func29, Tryd.ntmps29
  go_wp2_with fail
  refine (drop_is _ _ (w.heap.size + 1 + 1 + 1) (by simp)).mono ?_
  rintro e w1 ⟨rfl, hb1', hB1⟩
  have hR1 := hR0.below hB1 hR0.lt
  clear hR0
  go_wp2_with (refine wpList_store_blok rfl _ (.tmp 2) (.tmp 53) rfl (w.heap.size + 1) 0 #[.func (.func 41) #[] #[.pointer (some ⟨w.heap.size + 1 + 1 + 1, 0, none⟩)], .bool false] rfl rfl hR1 (by simp) (by kernel_rfl) rfl ?_; intro w2 hb2 hg2 hz2)
  have hp2 := hb1'.grown hg2 (by intro e; have := Option.some.inj e; omega)
  have r0 : w2.cell? ⟨w.heap.size + 1, 0, none⟩ = some (.func (.func 41) #[] #[.pointer (some ⟨w.heap.size + 1 + 1 + 1, 0, none⟩)]) := hb2.cell 0
  have r1 : w2.cell? ⟨w.heap.size + 1, 1, none⟩ = some (.bool false) := hb2.cell 1
  refine bodyPost_ret (v := .agg #[.func (.func 41) #[] #[.pointer (some ⟨w.heap.size + 1 + 1 + 1, 0, none⟩)], .bool false]) (by simp [results, Tryd.results29, go_sem, r0, r1]) rfl ⟨_, rfl, hp2.cell 0, hp2.lt, (bthen hB0 hB1).grown hg2 (by have := hB1.size; simp at this; omega) (by simp)⟩
set_option maxHeartbeats 1600000 in
theorem find_d7_1 (w : World) : Calls Tryd.prog 29 #[.agg #[.int .i64 8, .int .i64 0, .int .i64 7, .int .i64 1]] w fun e w' => ∃ p, e = .returned (.agg #[.func (.func 41) #[] #[.pointer (some ⟨p, 0, none⟩)], .bool false]) ∧ w'.cell? ⟨p, 0, none⟩ = some (.int .i64 (1 + 1)) ∧ p < w'.heap.size ∧ Below w.heap.size w w' := by
  have hR0 : Blok (((w.alloc (.cells #[.int .i64 8, .int .i64 0, .int .i64 7, .int .i64 1] 31)).alloc (.cells #[.nilFunc, .bool false] 77)).alloc (.cells #[.int .i64 1, .int .i64 2, .int .i64 3, .int .i64 4] 85)) (w.heap.size + 1) 77 [.nilFunc, .bool false] := new3 w _ _ _ _ _ _ rfl rfl
  have hB0 : Below w.heap.size w (((w.alloc (.cells #[.int .i64 8, .int .i64 0, .int .i64 7, .int .i64 1] 31)).alloc (.cells #[.nilFunc, .bool false] 77)).alloc (.cells #[.int .i64 1, .int .i64 2, .int .i64 3, .int .i64 4] 85)) := below3 w _ _ _
  go_enter Tryd.func29, Tryd.ntmps29
  go_wp2_with fail
  refine (drop_is _ _ (w.heap.size + 1 + 1 + 1) (by simp)).mono ?_
  rintro e w1 ⟨rfl, hb1', hB1⟩
  have hR1 := hR0.below hB1 hR0.lt
  clear hR0
  go_wp2_with (refine wpList_store_blok rfl _ (.tmp 2) (.tmp 53) rfl (w.heap.size + 1) 0 #[.func (.func 41) #[] #[.pointer (some ⟨w.heap.size + 1 + 1 + 1, 0, none⟩)], .bool false] rfl rfl hR1 (by simp) (by kernel_rfl) rfl ?_; intro w2 hb2 hg2 hz2)
  have hp2 := hb1'.grown hg2 (by intro e; have := Option.some.inj e; omega)
  have r0 : w2.cell? ⟨w.heap.size + 1, 0, none⟩ = some (.func (.func 41) #[] #[.pointer (some ⟨w.heap.size + 1 + 1 + 1, 0, none⟩)]) := hb2.cell 0
  have r1 : w2.cell? ⟨w.heap.size + 1, 1, none⟩ = some (.bool false) := hb2.cell 1
  refine bodyPost_ret (v := .agg #[.func (.func 41) #[] #[.pointer (some ⟨w.heap.size + 1 + 1 + 1, 0, none⟩)], .bool false]) (by simp [results, Tryd.results29, go_sem, r0, r1]) rfl ⟨_, rfl, hp2.cell 0, hp2.lt, (bthen hB0 hB1).grown hg2 (by have := hB1.size; simp at this; omega) (by simp)⟩
set_option maxHeartbeats 1600000 in
theorem find_d7_2 (w : World) : Calls Tryd.prog 29 #[.agg #[.int .i64 8, .int .i64 0, .int .i64 7, .int .i64 2]] w fun e w' => ∃ p, e = .returned (.agg #[.func (.func 41) #[] #[.pointer (some ⟨p, 0, none⟩)], .bool false]) ∧ w'.cell? ⟨p, 0, none⟩ = some (.int .i64 (2 + 1)) ∧ p < w'.heap.size ∧ Below w.heap.size w w' := by
  have hR0 : Blok (((w.alloc (.cells #[.int .i64 8, .int .i64 0, .int .i64 7, .int .i64 2] 31)).alloc (.cells #[.nilFunc, .bool false] 77)).alloc (.cells #[.int .i64 1, .int .i64 2, .int .i64 3, .int .i64 4] 85)) (w.heap.size + 1) 77 [.nilFunc, .bool false] := new3 w _ _ _ _ _ _ rfl rfl
  have hB0 : Below w.heap.size w (((w.alloc (.cells #[.int .i64 8, .int .i64 0, .int .i64 7, .int .i64 2] 31)).alloc (.cells #[.nilFunc, .bool false] 77)).alloc (.cells #[.int .i64 1, .int .i64 2, .int .i64 3, .int .i64 4] 85)) := below3 w _ _ _
  go_enter Tryd.func29, Tryd.ntmps29
  go_wp2_with fail
  refine (drop_is _ _ (w.heap.size + 1 + 1 + 1) (by simp)).mono ?_
  rintro e w1 ⟨rfl, hb1', hB1⟩
  have hR1 := hR0.below hB1 hR0.lt
  clear hR0
  go_wp2_with (refine wpList_store_blok rfl _ (.tmp 2) (.tmp 53) rfl (w.heap.size + 1) 0 #[.func (.func 41) #[] #[.pointer (some ⟨w.heap.size + 1 + 1 + 1, 0, none⟩)], .bool false] rfl rfl hR1 (by simp) (by kernel_rfl) rfl ?_; intro w2 hb2 hg2 hz2)
  have hp2 := hb1'.grown hg2 (by intro e; have := Option.some.inj e; omega)
  have r0 : w2.cell? ⟨w.heap.size + 1, 0, none⟩ = some (.func (.func 41) #[] #[.pointer (some ⟨w.heap.size + 1 + 1 + 1, 0, none⟩)]) := hb2.cell 0
  have r1 : w2.cell? ⟨w.heap.size + 1, 1, none⟩ = some (.bool false) := hb2.cell 1
  refine bodyPost_ret (v := .agg #[.func (.func 41) #[] #[.pointer (some ⟨w.heap.size + 1 + 1 + 1, 0, none⟩)], .bool false]) (by simp [results, Tryd.results29, go_sem, r0, r1]) rfl ⟨_, rfl, hp2.cell 0, hp2.lt, (bthen hB0 hB1).grown hg2 (by have := hB1.size; simp at this; omega) (by simp)⟩
set_option maxHeartbeats 1600000 in
theorem find_d7_3 (w : World) : Calls Tryd.prog 29 #[.agg #[.int .i64 8, .int .i64 0, .int .i64 7, .int .i64 3]] w fun e w' => ∃ p, e = .returned (.agg #[.func (.func 41) #[] #[.pointer (some ⟨p, 0, none⟩)], .bool false]) ∧ w'.cell? ⟨p, 0, none⟩ = some (.int .i64 (3 + 1)) ∧ p < w'.heap.size ∧ Below w.heap.size w w' := by
  have hR0 : Blok (((w.alloc (.cells #[.int .i64 8, .int .i64 0, .int .i64 7, .int .i64 3] 31)).alloc (.cells #[.nilFunc, .bool false] 77)).alloc (.cells #[.int .i64 1, .int .i64 2, .int .i64 3, .int .i64 4] 85)) (w.heap.size + 1) 77 [.nilFunc, .bool false] := new3 w _ _ _ _ _ _ rfl rfl
  have hB0 : Below w.heap.size w (((w.alloc (.cells #[.int .i64 8, .int .i64 0, .int .i64 7, .int .i64 3] 31)).alloc (.cells #[.nilFunc, .bool false] 77)).alloc (.cells #[.int .i64 1, .int .i64 2, .int .i64 3, .int .i64 4] 85)) := below3 w _ _ _
  go_enter Tryd.func29, Tryd.ntmps29
  go_wp2_with fail
  refine (drop_is _ _ (w.heap.size + 1 + 1 + 1) (by simp)).mono ?_
  rintro e w1 ⟨rfl, hb1', hB1⟩
  have hR1 := hR0.below hB1 hR0.lt
  clear hR0
  go_wp2_with (refine wpList_store_blok rfl _ (.tmp 2) (.tmp 53) rfl (w.heap.size + 1) 0 #[.func (.func 41) #[] #[.pointer (some ⟨w.heap.size + 1 + 1 + 1, 0, none⟩)], .bool false] rfl rfl hR1 (by simp) (by kernel_rfl) rfl ?_; intro w2 hb2 hg2 hz2)
  have hp2 := hb1'.grown hg2 (by intro e; have := Option.some.inj e; omega)
  have r0 : w2.cell? ⟨w.heap.size + 1, 0, none⟩ = some (.func (.func 41) #[] #[.pointer (some ⟨w.heap.size + 1 + 1 + 1, 0, none⟩)]) := hb2.cell 0
  have r1 : w2.cell? ⟨w.heap.size + 1, 1, none⟩ = some (.bool false) := hb2.cell 1
  refine bodyPost_ret (v := .agg #[.func (.func 41) #[] #[.pointer (some ⟨w.heap.size + 1 + 1 + 1, 0, none⟩)], .bool false]) (by simp [results, Tryd.results29, go_sem, r0, r1]) rfl ⟨_, rfl, hp2.cell 0, hp2.lt, (bthen hB0 hB1).grown hg2 (by have := hB1.size; simp at this; omega) (by simp)⟩
set_option maxHeartbeats 1600000 in
theorem find_d5_0 (w : World) : Calls Tryd.prog 29 #[.agg #[.int .i64 8, .int .i64 0, .int .i64 5, .int .i64 0]] w fun e w' => ∃ p, e = .returned (.agg #[.func (.func 41) #[] #[.pointer (some ⟨p, 0, none⟩)], .bool false]) ∧ w'.cell? ⟨p, 0, none⟩ = some (.int .i64 (0 + 1)) ∧ p < w'.heap.size ∧ Below w.heap.size w w' := by
  have hR0 : Blok (((w.alloc (.cells #[.int .i64 8, .int .i64 0, .int .i64 5, .int .i64 0] 31)).alloc (.cells #[.nilFunc, .bool false] 77)).alloc (.cells #[.int .i64 1, .int .i64 2, .int .i64 3, .int .i64 4] 85)) (w.heap.size + 1) 77 [.nilFunc, .bool false] := new3 w _ _ _ _ _ _ rfl rfl
  have hB0 : Below w.heap.size w (((w.alloc (.cells #[.int .i64 8, .int .i64 0, .int .i64 5, .int .i64 0] 31)).alloc (.cells #[.nilFunc, .bool false] 77)).alloc (.cells #[.int .i64 1, .int .i64 2, .int .i64 3, .int .i64 4] 85)) := below3 w _ _ _
  go_enter Tryd.func29, Tryd.ntmps29
  go_wp2_with fail
  refine (drop_is _ _ (w.heap.size + 1 + 1 + 1) (by simp)).mono ?_
  rintro e w1 ⟨rfl, hb1', hB1⟩
  have hR1 := hR0.below hB1 hR0.lt
  clear hR0
  go_wp2_with (refine wpList_store_blok rfl _ (.tmp 2) (.tmp 53) rfl (w.heap.size + 1) 0 #[.func (.func 41) #[] #[.pointer (some ⟨w.heap.size + 1 + 1 + 1, 0, none⟩)], .bool false] rfl rfl hR1 (by simp) (by kernel_rfl) rfl ?_; intro w2 hb2 hg2 hz2)
  have hp2 := hb1'.grown hg2 (by intro e; have := Option.some.inj e; omega)
  have r0 : w2.cell? ⟨w.heap.size + 1, 0, none⟩ = some (.func (.func 41) #[] #[.pointer (some ⟨w.heap.size + 1 + 1 + 1, 0, none⟩)]) := hb2.cell 0
  have r1 : w2.cell? ⟨w.heap.size + 1, 1, none⟩ = some (.bool false) := hb2.cell 1
  refine bodyPost_ret (v := .agg #[.func (.func 41) #[] #[.pointer (some ⟨w.heap.size + 1 + 1 + 1, 0, none⟩)], .bool false]) (by simp [results, Tryd.results29, go_sem, r0, r1]) rfl ⟨_, rfl, hp2.cell 0, hp2.lt, (bthen hB0 hB1).grown hg2 (by have := hB1.size; simp at this; omega) (by simp)⟩
set_option maxHeartbeats 1600000 in
theorem find_d5_1 (w : World) : Calls Tryd.prog 29 #[.agg #[.int .i64 8, .int .i64 0, .int .i64 5, .int .i64 1]] w fun e w' => ∃ p, e = .returned (.agg #[.func (.func 41) #[] #[.pointer (some ⟨p, 0, none⟩)], .bool false]) ∧ w'.cell? ⟨p, 0, none⟩ = some (.int .i64 (1 + 1)) ∧ p < w'.heap.size ∧ Below w.heap.size w w' := by
  have hR0 : Blok (((w.alloc (.cells #[.int .i64 8, .int .i64 0, .int .i64 5, .int .i64 1] 31)).alloc (.cells #[.nilFunc, .bool false] 77)).alloc (.cells #[.int .i64 1, .int .i64 2, .int .i64 3, .int .i64 4] 85)) (w.heap.size + 1) 77 [.nilFunc, .bool false] := new3 w _ _ _ _ _ _ rfl rfl
  have hB0 : Below w.heap.size w (((w.alloc (.cells #[.int .i64 8, .int .i64 0, .int .i64 5, .int .i64 1] 31)).alloc (.cells #[.nilFunc, .bool false] 77)).alloc (.cells #[.int .i64 1, .int .i64 2, .int .i64 3, .int .i64 4] 85)) := below3 w _ _ _
  go_enter Tryd.func29, Tryd.ntmps29
  go_wp2_with fail
  refine (drop_is _ _ (w.heap.size + 1 + 1 + 1) (by simp)).mono ?_
  rintro e w1 ⟨rfl, hb1', hB1⟩
  have hR1 := hR0.below hB1 hR0.lt
  clear hR0
  go_wp2_with (refine wpList_store_blok rfl _ (.tmp 2) (.tmp 53) rfl (w.heap.size + 1) 0 #[.func (.func 41) #[] #[.pointer (some ⟨w.heap.size + 1 + 1 + 1, 0, none⟩)], .bool false] rfl rfl hR1 (by simp) (by kernel_rfl) rfl ?_; intro w2 hb2 hg2 hz2)
  have hp2 := hb1'.grown hg2 (by intro e; have := Option.some.inj e; omega)
  have r0 : w2.cell? ⟨w.heap.size + 1, 0, none⟩ = some (.func (.func 41) #[] #[.pointer (some ⟨w.heap.size + 1 + 1 + 1, 0, none⟩)]) := hb2.cell 0
  have r1 : w2.cell? ⟨w.heap.size + 1, 1, none⟩ = some (.bool false) := hb2.cell 1
  refine bodyPost_ret (v := .agg #[.func (.func 41) #[] #[.pointer (some ⟨w.heap.size + 1 + 1 + 1, 0, none⟩)], .bool false]) (by simp [results, Tryd.results29, go_sem, r0, r1]) rfl ⟨_, rfl, hp2.cell 0, hp2.lt, (bthen hB0 hB1).grown hg2 (by have := hB1.size; simp at this; omega) (by simp)⟩
set_option maxHeartbeats 1600000 in
theorem find_d5_2 (w : World) : Calls Tryd.prog 29 #[.agg #[.int .i64 8, .int .i64 0, .int .i64 5, .int .i64 2]] w fun e w' => ∃ p, e = .returned (.agg #[.func (.func 41) #[] #[.pointer (some ⟨p, 0, none⟩)], .bool false]) ∧ w'.cell? ⟨p, 0, none⟩ = some (.int .i64 (2 + 1)) ∧ p < w'.heap.size ∧ Below w.heap.size w w' := by
  have hR0 : Blok (((w.alloc (.cells #[.int .i64 8, .int .i64 0, .int .i64 5, .int .i64 2] 31)).alloc (.cells #[.nilFunc, .bool false] 77)).alloc (.cells #[.int .i64 1, .int .i64 2, .int .i64 3, .int .i64 4] 85)) (w.heap.size + 1) 77 [.nilFunc, .bool false] := new3 w _ _ _ _ _ _ rfl rfl
  have hB0 : Below w.heap.size w (((w.alloc (.cells #[.int .i64 8, .int .i64 0, .int .i64 5, .int .i64 2] 31)).alloc (.cells #[.nilFunc, .bool false] 77)).alloc (.cells #[.int .i64 1, .int .i64 2, .int .i64 3, .int .i64 4] 85)) := below3 w _ _ _
  go_enter Tryd.func29, Tryd.ntmps29
  go_wp2_with fail
  refine (drop_is _ _ (w.heap.size + 1 + 1 + 1) (by simp)).mono ?_
  rintro e w1 ⟨rfl, hb1', hB1⟩
  have hR1 := hR0.below hB1 hR0.lt
  clear hR0
  go_wp2_with (refine wpList_store_blok rfl _ (.tmp 2) (.tmp 53) rfl (w.heap.size + 1) 0 #[.func (.func 41) #[] #[.pointer (some ⟨w.heap.size + 1 + 1 + 1, 0, none⟩)], .bool false] rfl rfl hR1 (by simp) (by kernel_rfl) rfl ?_; intro w2 hb2 hg2 hz2)
  have hp2 := hb1'.grown hg2 (by intro e; have := Option.some.inj e; omega)
  have r0 : w2.cell? ⟨w.heap.size + 1, 0, none⟩ = some (.func (.func 41) #[] #[.pointer (some ⟨w.heap.size + 1 + 1 + 1, 0, none⟩)]) := hb2.cell 0
  have r1 : w2.cell? ⟨w.heap.size + 1, 1, none⟩ = some (.bool false) := hb2.cell 1
  refine bodyPost_ret (v := .agg #[.func (.func 41) #[] #[.pointer (some ⟨w.heap.size + 1 + 1 + 1, 0, none⟩)], .bool false]) (by simp [results, Tryd.results29, go_sem, r0, r1]) rfl ⟨_, rfl, hp2.cell 0, hp2.lt, (bthen hB0 hB1).grown hg2 (by have := hB1.size; simp at this; omega) (by simp)⟩
set_option maxHeartbeats 1600000 in
theorem find_d6_0 (w : World) : Calls Tryd.prog 29 #[.agg #[.int .i64 8, .int .i64 0, .int .i64 6, .int .i64 0]] w fun e w' => ∃ p, e = .returned (.agg #[.func (.func 41) #[] #[.pointer (some ⟨p, 0, none⟩)], .bool false]) ∧ w'.cell? ⟨p, 0, none⟩ = some (.int .i64 (0 + 1)) ∧ p < w'.heap.size ∧ Below w.heap.size w w' := by
  have hR0 : Blok (((w.alloc (.cells #[.int .i64 8, .int .i64 0, .int .i64 6, .int .i64 0] 31)).alloc (.cells #[.nilFunc, .bool false] 77)).alloc (.cells #[.int .i64 1, .int .i64 2, .int .i64 3, .int .i64 4] 85)) (w.heap.size + 1) 77 [.nilFunc, .bool false] := new3 w _ _ _ _ _ _ rfl rfl
  have hB0 : Below w.heap.size w (((w.alloc (.cells #[.int .i64 8, .int .i64 0, .int .i64 6, .int .i64 0] 31)).alloc (.cells #[.nilFunc, .bool false] 77)).alloc (.cells #[.int .i64 1, .int .i64 2, .int .i64 3, .int .i64 4] 85)) := below3 w _ _ _
  go_enter Tryd.func29, Tryd.ntmps29
  go_wp2_with fail
  refine (drop_is _ _ (w.heap.size + 1 + 1 + 1) (by simp)).mono ?_
  rintro e w1 ⟨rfl, hb1', hB1⟩
  have hR1 := hR0.below hB1 hR0.lt
  clear hR0
  go_wp2_with (refine wpList_store_blok rfl _ (.tmp 2) (.tmp 53) rfl (w.heap.size + 1) 0 #[.func (.func 41) #[] #[.pointer (some ⟨w.heap.size + 1 + 1 + 1, 0, none⟩)], .bool false] rfl rfl hR1 (by simp) (by kernel_rfl) rfl ?_; intro w2 hb2 hg2 hz2)
  have hp2 := hb1'.grown hg2 (by intro e; have := Option.some.inj e; omega)
  have r0 : w2.cell? ⟨w.heap.size + 1, 0, none⟩ = some (.func (.func 41) #[] #[.pointer (some ⟨w.heap.size + 1 + 1 + 1, 0, none⟩)]) := hb2.cell 0
  have r1 : w2.cell? ⟨w.heap.size + 1, 1, none⟩ = some (.bool false) := hb2.cell 1
  refine bodyPost_ret (v := .agg #[.func (.func 41) #[] #[.pointer (some ⟨w.heap.size + 1 + 1 + 1, 0, none⟩)], .bool false]) (by simp [results, Tryd.results29, go_sem, r0, r1]) rfl ⟨_, rfl, hp2.cell 0, hp2.lt, (bthen hB0 hB1).grown hg2 (by have := hB1.size; simp at this; omega) (by simp)⟩
set_option maxHeartbeats 1600000 in
theorem find_d6_1 (w : World) : Calls Tryd.prog 29 #[.agg #[.int .i64 8, .int .i64 0, .int .i64 6, .int .i64 1]] w fun e w' => ∃ p, e = .returned (.agg #[.func (.func 41) #[] #[.pointer (some ⟨p, 0, none⟩)], .bool false]) ∧ w'.cell? ⟨p, 0, none⟩ = some (.int .i64 (1 + 1)) ∧ p < w'.heap.size ∧ Below w.heap.size w w' := by
  have hR0 : Blok (((w.alloc (.cells #[.int .i64 8, .int .i64 0, .int .i64 6, .int .i64 1] 31)).alloc (.cells #[.nilFunc, .bool false] 77)).alloc (.cells #[.int .i64 1, .int .i64 2, .int .i64 3, .int .i64 4] 85)) (w.heap.size + 1) 77 [.nilFunc, .bool false] := new3 w _ _ _ _ _ _ rfl rfl
  have hB0 : Below w.heap.size w (((w.alloc (.cells #[.int .i64 8, .int .i64 0, .int .i64 6, .int .i64 1] 31)).alloc (.cells #[.nilFunc, .bool false] 77)).alloc (.cells #[.int .i64 1, .int .i64 2, .int .i64 3, .int .i64 4] 85)) := below3 w _ _ _
  go_enter Tryd.func29, Tryd.ntmps29
  go_wp2_with fail
  refine (drop_is _ _ (w.heap.size + 1 + 1 + 1) (by simp)).mono ?_
  rintro e w1 ⟨rfl, hb1', hB1⟩
  have hR1 := hR0.below hB1 hR0.lt
  clear hR0
  go_wp2_with (refine wpList_store_blok rfl _ (.tmp 2) (.tmp 53) rfl (w.heap.size + 1) 0 #[.func (.func 41) #[] #[.pointer (some ⟨w.heap.size + 1 + 1 + 1, 0, none⟩)], .bool false] rfl rfl hR1 (by simp) (by kernel_rfl) rfl ?_; intro w2 hb2 hg2 hz2)
  have hp2 := hb1'.grown hg2 (by intro e; have := Option.some.inj e; omega)
  have r0 : w2.cell? ⟨w.heap.size + 1, 0, none⟩ = some (.func (.func 41) #[] #[.pointer (some ⟨w.heap.size + 1 + 1 + 1, 0, none⟩)]) := hb2.cell 0
  have r1 : w2.cell? ⟨w.heap.size + 1, 1, none⟩ = some (.bool false) := hb2.cell 1
  refine bodyPost_ret (v := .agg #[.func (.func 41) #[] #[.pointer (some ⟨w.heap.size + 1 + 1 + 1, 0, none⟩)], .bool false]) (by simp [results, Tryd.results29, go_sem, r0, r1]) rfl ⟨_, rfl, hp2.cell 0, hp2.lt, (bthen hB0 hB1).grown hg2 (by have := hB1.size; simp at this; omega) (by simp)⟩
set_option maxHeartbeats 1600000 in
theorem find_d6_2 (w : World) : Calls Tryd.prog 29 #[.agg #[.int .i64 8, .int .i64 0, .int .i64 6, .int .i64 2]] w fun e w' => ∃ p, e = .returned (.agg #[.func (.func 41) #[] #[.pointer (some ⟨p, 0, none⟩)], .bool false]) ∧ w'.cell? ⟨p, 0, none⟩ = some (.int .i64 (2 + 1)) ∧ p < w'.heap.size ∧ Below w.heap.size w w' := by
  have hR0 : Blok (((w.alloc (.cells #[.int .i64 8, .int .i64 0, .int .i64 6, .int .i64 2] 31)).alloc (.cells #[.nilFunc, .bool false] 77)).alloc (.cells #[.int .i64 1, .int .i64 2, .int .i64 3, .int .i64 4] 85)) (w.heap.size + 1) 77 [.nilFunc, .bool false] := new3 w _ _ _ _ _ _ rfl rfl
  have hB0 : Below w.heap.size w (((w.alloc (.cells #[.int .i64 8, .int .i64 0, .int .i64 6, .int .i64 2] 31)).alloc (.cells #[.nilFunc, .bool false] 77)).alloc (.cells #[.int .i64 1, .int .i64 2, .int .i64 3, .int .i64 4] 85)) := below3 w _ _ _
  go_enter Tryd.func29, Tryd.ntmps29
  go_wp2_with fail
  refine (drop_is _ _ (w.heap.size + 1 + 1 + 1) (by simp)).mono ?_
  rintro e w1 ⟨rfl, hb1', hB1⟩
  have hR1 := hR0.below hB1 hR0.lt
  clear hR0
  go_wp2_with (refine wpList_store_blok rfl _ (.tmp 2) (.tmp 53) rfl (w.heap.size + 1) 0 #[.func (.func 41) #[] #[.pointer (some ⟨w.heap.size + 1 + 1 + 1, 0, none⟩)], .bool false] rfl rfl hR1 (by simp) (by kernel_rfl) rfl ?_; intro w2 hb2 hg2 hz2)
  have hp2 := hb1'.grown hg2 (by intro e; have := Option.some.inj e; omega)
  have r0 : w2.cell? ⟨w.heap.size + 1, 0, none⟩ = some (.func (.func 41) #[] #[.pointer (some ⟨w.heap.size + 1 + 1 + 1, 0, none⟩)]) := hb2.cell 0
  have r1 : w2.cell? ⟨w.heap.size + 1, 1, none⟩ = some (.bool false) := hb2.cell 1
  refine bodyPost_ret (v := .agg #[.func (.func 41) #[] #[.pointer (some ⟨w.heap.size + 1 + 1 + 1, 0, none⟩)], .bool false]) (by simp [results, Tryd.results29, go_sem, r0, r1]) rfl ⟨_, rfl, hp2.cell 0, hp2.lt, (bthen hB0 hB1).grown hg2 (by have := hB1.size; simp at this; omega) (by simp)⟩
theorem find_drop (t : Tup) (h : dropsB t = true) (w : World) : Calls Tryd.prog 29 #[(.agg #[.int .i64 t.crn, .int .i64 t.op1, .int .i64 t.crm, .int .i64 t.op2])] w fun e w' => ∃ p, e = .returned (.agg #[.func (.func 41) #[] #[.pointer (some ⟨p, 0, none⟩)], .bool false]) ∧ w'.cell? ⟨p, 0, none⟩ = some (.int .i64 (t.op2 + 1)) ∧ p < w'.heap.size ∧ Below w.heap.size w w' := by
  obtain ⟨a, b, c, d⟩ := t
  simp [dropsB] at h
  obtain ⟨⟨⟨⟨rfl, rfl⟩, h3⟩, h4⟩, h5⟩ := h
  have hd : d = 0 ∨ d = 1 ∨ d = 2 ∨ d = 3 := by omega
  rcases h5 with (rfl | rfl) | ⟨h6, rfl | rfl⟩
  · rcases hd with rfl | rfl | rfl | rfl
    · exact find_d3_0 w
    · exact find_d3_1 w
    · exact find_d3_2 w
    · exact find_d3_3 w
  · rcases hd with rfl | rfl | rfl | rfl
    · exact find_d7_0 w
    · exact find_d7_1 w
    · exact find_d7_2 w
    · exact find_d7_3 w
  · rcases hd with rfl | rfl | rfl | rfl
    · exact find_d5_0 w
    · exact find_d5_1 w
    · exact find_d5_2 w
    · omega
  · rcases hd with rfl | rfl | rfl | rfl
    · exact find_d6_0 w
    · exact find_d6_1 w
    · exact find_d6_2 w
    · omega
end Go.Proofs.YtakihcdolpocjaaDoor
