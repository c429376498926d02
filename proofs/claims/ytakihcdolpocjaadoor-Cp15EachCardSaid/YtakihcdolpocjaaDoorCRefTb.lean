/- The document's tuples of layer 8 (atlasref08), the others. -/
import Derived.Test.YtakihcdolpocjaaDoorCFile
import Derived.Test.YtakihcdolpocjaaDoorCBits
namespace Go.Proofs.YtakihcdolpocjaaDoor
open Go.RowKit

theorem balB {wr w : World} (h : Below wr.heap.size wr w) (o : Obj) : Below wr.heap.size wr (w.alloc o) := h.alloc h.size o
set_option maxHeartbeats 6400000 in
set_option maxRecDepth 100000 in
theorem refTuple_6 (w : World) : Calls Tryd.prog 35 #[.int .i64 6] w fun e w' => e = .returned (.agg #[.int .i64 5, .int .i64 0, .int .i64 0, .int .i64 1]) ∧ Below w.heap.size w w' := by
  go_enter Tryd.func35, Tryd.ntmps35
  go_upto_region 2 with (fail)
  go_cut [4] (fun v4 wc => ∃ g : Nat, v4 = .slice (some ⟨g, 0, none⟩) 4 4 ∧ wc.cell? ⟨g, 0, none⟩ = some (.int .i64 5) ∧ wc.cell? ⟨g, 1, none⟩ = some (.int .i64 0) ∧ wc.cell? ⟨g, 2, none⟩ = some (.int .i64 0) ∧ wc.cell? ⟨g, 3, none⟩ = some (.int .i64 1) ∧ Blok wc w.heap.size 31 [.int .i64 0, .int .i64 0, .int .i64 0, .int .i64 0] ∧ Below w.heap.size w wc)
  case first =>
    go_wp2
    go_meet
    case rel =>
      refine ⟨_, rfl, by simp [go_sem], by simp [go_sem], by simp [go_sem], by simp [go_sem], ?_, ?_⟩
      · iterate 14 refine Blok.alloc ?_ _
        exact Blok.new _ _ _
      · repeat (first | with_reducible exact Below.refl _ _ | with_reducible refine balB ?_ _)
  case rest =>
    obtain ⟨g, rfl, d0, d1, d2, d3, hZ, hB⟩ := hcut
    go_wp2_with fail
    have hZd := hZ.drewN 1
    (refine wp_region_tail 13 (by kernel_rfl) (by kernel_rfl) ?_; simp only [List.take_succ_cons, List.take_zero, List.drop_succ_cons, List.drop_zero]; (repeat still_step); (try refine wpStill_nil ?_))
    go_wp2_with (refine wpList_store_blok rfl _ (.tmp 2) (.tmp 35) rfl w.heap.size 0 #[.int .i64 5, .int .i64 0, .int .i64 0, .int .i64 1] rfl rfl hZd (by simp) (by kernel_rfl) rfl ?_; intro w4 hb4 hg4 hz4)
    have r0 : w4.cell? ⟨w.heap.size, 0, none⟩ = some (.int .i64 5) := hb4.cell 0
    have r1 : w4.cell? ⟨w.heap.size, 1, none⟩ = some (.int .i64 0) := hb4.cell 1
    have r2 : w4.cell? ⟨w.heap.size, 2, none⟩ = some (.int .i64 0) := hb4.cell 2
    have r3 : w4.cell? ⟨w.heap.size, 3, none⟩ = some (.int .i64 1) := hb4.cell 3
    refine bodyPost_ret (v := .agg #[.int .i64 5, .int .i64 0, .int .i64 0, .int .i64 1]) (by simp [results, Tryd.results35, go_sem, r0, r1, r2, r3]) rfl ⟨rfl, (bdrew hB).grown hg4 hB.size (by simp)⟩
set_option maxHeartbeats 6400000 in
set_option maxRecDepth 100000 in
theorem refTuple_7 (w : World) : Calls Tryd.prog 35 #[.int .i64 7] w fun e w' => e = .returned (.agg #[.int .i64 6, .int .i64 0, .int .i64 0, .int .i64 0]) ∧ Below w.heap.size w w' := by
  go_enter Tryd.func35, Tryd.ntmps35
  go_upto_region 2 with (fail)
  go_cut [4] (fun v4 wc => ∃ g : Nat, v4 = .slice (some ⟨g, 0, none⟩) 4 4 ∧ wc.cell? ⟨g, 0, none⟩ = some (.int .i64 6) ∧ wc.cell? ⟨g, 1, none⟩ = some (.int .i64 0) ∧ wc.cell? ⟨g, 2, none⟩ = some (.int .i64 0) ∧ wc.cell? ⟨g, 3, none⟩ = some (.int .i64 0) ∧ Blok wc w.heap.size 31 [.int .i64 0, .int .i64 0, .int .i64 0, .int .i64 0] ∧ Below w.heap.size w wc)
  case first =>
    go_wp2
    go_meet
    case rel =>
      refine ⟨_, rfl, by simp [go_sem], by simp [go_sem], by simp [go_sem], by simp [go_sem], ?_, ?_⟩
      · iterate 14 refine Blok.alloc ?_ _
        exact Blok.new _ _ _
      · repeat (first | with_reducible exact Below.refl _ _ | with_reducible refine balB ?_ _)
  case rest =>
    obtain ⟨g, rfl, d0, d1, d2, d3, hZ, hB⟩ := hcut
    go_wp2_with fail
    have hZd := hZ.drewN 1
    (refine wp_region_tail 13 (by kernel_rfl) (by kernel_rfl) ?_; simp only [List.take_succ_cons, List.take_zero, List.drop_succ_cons, List.drop_zero]; (repeat still_step); (try refine wpStill_nil ?_))
    go_wp2_with (refine wpList_store_blok rfl _ (.tmp 2) (.tmp 35) rfl w.heap.size 0 #[.int .i64 6, .int .i64 0, .int .i64 0, .int .i64 0] rfl rfl hZd (by simp) (by kernel_rfl) rfl ?_; intro w4 hb4 hg4 hz4)
    have r0 : w4.cell? ⟨w.heap.size, 0, none⟩ = some (.int .i64 6) := hb4.cell 0
    have r1 : w4.cell? ⟨w.heap.size, 1, none⟩ = some (.int .i64 0) := hb4.cell 1
    have r2 : w4.cell? ⟨w.heap.size, 2, none⟩ = some (.int .i64 0) := hb4.cell 2
    have r3 : w4.cell? ⟨w.heap.size, 3, none⟩ = some (.int .i64 0) := hb4.cell 3
    refine bodyPost_ret (v := .agg #[.int .i64 6, .int .i64 0, .int .i64 0, .int .i64 0]) (by simp [results, Tryd.results35, go_sem, r0, r1, r2, r3]) rfl ⟨rfl, (bdrew hB).grown hg4 hB.size (by simp)⟩
set_option maxHeartbeats 6400000 in
set_option maxRecDepth 100000 in
theorem refTuple_8 (w : World) : Calls Tryd.prog 35 #[.int .i64 8] w fun e w' => e = .returned (.agg #[.int .i64 6, .int .i64 0, .int .i64 0, .int .i64 2]) ∧ Below w.heap.size w w' := by
  go_enter Tryd.func35, Tryd.ntmps35
  go_upto_region 2 with (fail)
  go_cut [4] (fun v4 wc => ∃ g : Nat, v4 = .slice (some ⟨g, 0, none⟩) 4 4 ∧ wc.cell? ⟨g, 0, none⟩ = some (.int .i64 6) ∧ wc.cell? ⟨g, 1, none⟩ = some (.int .i64 0) ∧ wc.cell? ⟨g, 2, none⟩ = some (.int .i64 0) ∧ wc.cell? ⟨g, 3, none⟩ = some (.int .i64 2) ∧ Blok wc w.heap.size 31 [.int .i64 0, .int .i64 0, .int .i64 0, .int .i64 0] ∧ Below w.heap.size w wc)
  case first =>
    go_wp2
    go_meet
    case rel =>
      refine ⟨_, rfl, by simp [go_sem], by simp [go_sem], by simp [go_sem], by simp [go_sem], ?_, ?_⟩
      · iterate 14 refine Blok.alloc ?_ _
        exact Blok.new _ _ _
      · repeat (first | with_reducible exact Below.refl _ _ | with_reducible refine balB ?_ _)
  case rest =>
    obtain ⟨g, rfl, d0, d1, d2, d3, hZ, hB⟩ := hcut
    go_wp2_with fail
    have hZd := hZ.drewN 1
    (refine wp_region_tail 13 (by kernel_rfl) (by kernel_rfl) ?_; simp only [List.take_succ_cons, List.take_zero, List.drop_succ_cons, List.drop_zero]; (repeat still_step); (try refine wpStill_nil ?_))
    go_wp2_with (refine wpList_store_blok rfl _ (.tmp 2) (.tmp 35) rfl w.heap.size 0 #[.int .i64 6, .int .i64 0, .int .i64 0, .int .i64 2] rfl rfl hZd (by simp) (by kernel_rfl) rfl ?_; intro w4 hb4 hg4 hz4)
    have r0 : w4.cell? ⟨w.heap.size, 0, none⟩ = some (.int .i64 6) := hb4.cell 0
    have r1 : w4.cell? ⟨w.heap.size, 1, none⟩ = some (.int .i64 0) := hb4.cell 1
    have r2 : w4.cell? ⟨w.heap.size, 2, none⟩ = some (.int .i64 0) := hb4.cell 2
    have r3 : w4.cell? ⟨w.heap.size, 3, none⟩ = some (.int .i64 2) := hb4.cell 3
    refine bodyPost_ret (v := .agg #[.int .i64 6, .int .i64 0, .int .i64 0, .int .i64 2]) (by simp [results, Tryd.results35, go_sem, r0, r1, r2, r3]) rfl ⟨rfl, (bdrew hB).grown hg4 hB.size (by simp)⟩
set_option maxHeartbeats 6400000 in
set_option maxRecDepth 100000 in
theorem refTuple_9 (w : World) : Calls Tryd.prog 35 #[.int .i64 9] w fun e w' => e = .returned (.agg #[.int .i64 7, .int .i64 0, .int .i64 4, .int .i64 0]) ∧ Below w.heap.size w w' := by
  go_enter Tryd.func35, Tryd.ntmps35
  go_upto_region 2 with (fail)
  go_cut [4] (fun v4 wc => ∃ g : Nat, v4 = .slice (some ⟨g, 0, none⟩) 4 4 ∧ wc.cell? ⟨g, 0, none⟩ = some (.int .i64 7) ∧ wc.cell? ⟨g, 1, none⟩ = some (.int .i64 0) ∧ wc.cell? ⟨g, 2, none⟩ = some (.int .i64 4) ∧ wc.cell? ⟨g, 3, none⟩ = some (.int .i64 0) ∧ Blok wc w.heap.size 31 [.int .i64 0, .int .i64 0, .int .i64 0, .int .i64 0] ∧ Below w.heap.size w wc)
  case first =>
    go_wp2
    go_meet
    case rel =>
      refine ⟨_, rfl, by simp [go_sem], by simp [go_sem], by simp [go_sem], by simp [go_sem], ?_, ?_⟩
      · iterate 14 refine Blok.alloc ?_ _
        exact Blok.new _ _ _
      · repeat (first | with_reducible exact Below.refl _ _ | with_reducible refine balB ?_ _)
  case rest =>
    obtain ⟨g, rfl, d0, d1, d2, d3, hZ, hB⟩ := hcut
    go_wp2_with fail
    have hZd := hZ.drewN 1
    (refine wp_region_tail 13 (by kernel_rfl) (by kernel_rfl) ?_; simp only [List.take_succ_cons, List.take_zero, List.drop_succ_cons, List.drop_zero]; (repeat still_step); (try refine wpStill_nil ?_))
    go_wp2_with (refine wpList_store_blok rfl _ (.tmp 2) (.tmp 35) rfl w.heap.size 0 #[.int .i64 7, .int .i64 0, .int .i64 4, .int .i64 0] rfl rfl hZd (by simp) (by kernel_rfl) rfl ?_; intro w4 hb4 hg4 hz4)
    have r0 : w4.cell? ⟨w.heap.size, 0, none⟩ = some (.int .i64 7) := hb4.cell 0
    have r1 : w4.cell? ⟨w.heap.size, 1, none⟩ = some (.int .i64 0) := hb4.cell 1
    have r2 : w4.cell? ⟨w.heap.size, 2, none⟩ = some (.int .i64 4) := hb4.cell 2
    have r3 : w4.cell? ⟨w.heap.size, 3, none⟩ = some (.int .i64 0) := hb4.cell 3
    refine bodyPost_ret (v := .agg #[.int .i64 7, .int .i64 0, .int .i64 4, .int .i64 0]) (by simp [results, Tryd.results35, go_sem, r0, r1, r2, r3]) rfl ⟨rfl, (bdrew hB).grown hg4 hB.size (by simp)⟩
set_option maxHeartbeats 6400000 in
set_option maxRecDepth 100000 in
theorem refTuple_10 (w : World) : Calls Tryd.prog 35 #[.int .i64 10] w fun e w' => e = .returned (.agg #[.int .i64 10, .int .i64 0, .int .i64 2, .int .i64 0]) ∧ Below w.heap.size w w' := by
  go_enter Tryd.func35, Tryd.ntmps35
  go_upto_region 2 with (fail)
  go_cut [4] (fun v4 wc => ∃ g : Nat, v4 = .slice (some ⟨g, 0, none⟩) 4 4 ∧ wc.cell? ⟨g, 0, none⟩ = some (.int .i64 10) ∧ wc.cell? ⟨g, 1, none⟩ = some (.int .i64 0) ∧ wc.cell? ⟨g, 2, none⟩ = some (.int .i64 2) ∧ wc.cell? ⟨g, 3, none⟩ = some (.int .i64 0) ∧ Blok wc w.heap.size 31 [.int .i64 0, .int .i64 0, .int .i64 0, .int .i64 0] ∧ Below w.heap.size w wc)
  case first =>
    go_wp2
    go_meet
    case rel =>
      refine ⟨_, rfl, by simp [go_sem], by simp [go_sem], by simp [go_sem], by simp [go_sem], ?_, ?_⟩
      · iterate 14 refine Blok.alloc ?_ _
        exact Blok.new _ _ _
      · repeat (first | with_reducible exact Below.refl _ _ | with_reducible refine balB ?_ _)
  case rest =>
    obtain ⟨g, rfl, d0, d1, d2, d3, hZ, hB⟩ := hcut
    go_wp2_with fail
    have hZd := hZ.drewN 1
    (refine wp_region_tail 13 (by kernel_rfl) (by kernel_rfl) ?_; simp only [List.take_succ_cons, List.take_zero, List.drop_succ_cons, List.drop_zero]; (repeat still_step); (try refine wpStill_nil ?_))
    go_wp2_with (refine wpList_store_blok rfl _ (.tmp 2) (.tmp 35) rfl w.heap.size 0 #[.int .i64 10, .int .i64 0, .int .i64 2, .int .i64 0] rfl rfl hZd (by simp) (by kernel_rfl) rfl ?_; intro w4 hb4 hg4 hz4)
    have r0 : w4.cell? ⟨w.heap.size, 0, none⟩ = some (.int .i64 10) := hb4.cell 0
    have r1 : w4.cell? ⟨w.heap.size, 1, none⟩ = some (.int .i64 0) := hb4.cell 1
    have r2 : w4.cell? ⟨w.heap.size, 2, none⟩ = some (.int .i64 2) := hb4.cell 2
    have r3 : w4.cell? ⟨w.heap.size, 3, none⟩ = some (.int .i64 0) := hb4.cell 3
    refine bodyPost_ret (v := .agg #[.int .i64 10, .int .i64 0, .int .i64 2, .int .i64 0]) (by simp [results, Tryd.results35, go_sem, r0, r1, r2, r3]) rfl ⟨rfl, (bdrew hB).grown hg4 hB.size (by simp)⟩
set_option maxHeartbeats 6400000 in
set_option maxRecDepth 100000 in
theorem refTuple_11 (w : World) : Calls Tryd.prog 35 #[.int .i64 11] w fun e w' => e = .returned (.agg #[.int .i64 10, .int .i64 0, .int .i64 2, .int .i64 1]) ∧ Below w.heap.size w w' := by
  go_enter Tryd.func35, Tryd.ntmps35
  go_upto_region 2 with (fail)
  go_cut [4] (fun v4 wc => ∃ g : Nat, v4 = .slice (some ⟨g, 0, none⟩) 4 4 ∧ wc.cell? ⟨g, 0, none⟩ = some (.int .i64 10) ∧ wc.cell? ⟨g, 1, none⟩ = some (.int .i64 0) ∧ wc.cell? ⟨g, 2, none⟩ = some (.int .i64 2) ∧ wc.cell? ⟨g, 3, none⟩ = some (.int .i64 1) ∧ Blok wc w.heap.size 31 [.int .i64 0, .int .i64 0, .int .i64 0, .int .i64 0] ∧ Below w.heap.size w wc)
  case first =>
    go_wp2
    go_meet
    case rel =>
      refine ⟨_, rfl, by simp [go_sem], by simp [go_sem], by simp [go_sem], by simp [go_sem], ?_, ?_⟩
      · iterate 14 refine Blok.alloc ?_ _
        exact Blok.new _ _ _
      · repeat (first | with_reducible exact Below.refl _ _ | with_reducible refine balB ?_ _)
  case rest =>
    obtain ⟨g, rfl, d0, d1, d2, d3, hZ, hB⟩ := hcut
    go_wp2_with fail
    have hZd := hZ.drewN 1
    (refine wp_region_tail 13 (by kernel_rfl) (by kernel_rfl) ?_; simp only [List.take_succ_cons, List.take_zero, List.drop_succ_cons, List.drop_zero]; (repeat still_step); (try refine wpStill_nil ?_))
    go_wp2_with (refine wpList_store_blok rfl _ (.tmp 2) (.tmp 35) rfl w.heap.size 0 #[.int .i64 10, .int .i64 0, .int .i64 2, .int .i64 1] rfl rfl hZd (by simp) (by kernel_rfl) rfl ?_; intro w4 hb4 hg4 hz4)
    have r0 : w4.cell? ⟨w.heap.size, 0, none⟩ = some (.int .i64 10) := hb4.cell 0
    have r1 : w4.cell? ⟨w.heap.size, 1, none⟩ = some (.int .i64 0) := hb4.cell 1
    have r2 : w4.cell? ⟨w.heap.size, 2, none⟩ = some (.int .i64 2) := hb4.cell 2
    have r3 : w4.cell? ⟨w.heap.size, 3, none⟩ = some (.int .i64 1) := hb4.cell 3
    refine bodyPost_ret (v := .agg #[.int .i64 10, .int .i64 0, .int .i64 2, .int .i64 1]) (by simp [results, Tryd.results35, go_sem, r0, r1, r2, r3]) rfl ⟨rfl, (bdrew hB).grown hg4 hB.size (by simp)⟩
set_option maxHeartbeats 6400000 in
set_option maxRecDepth 100000 in
theorem refTuple_12 (w : World) : Calls Tryd.prog 35 #[.int .i64 12] w fun e w' => e = .returned (.agg #[.int .i64 13, .int .i64 0, .int .i64 0, .int .i64 1]) ∧ Below w.heap.size w w' := by
  go_enter Tryd.func35, Tryd.ntmps35
  go_upto_region 2 with (fail)
  go_cut [4] (fun v4 wc => ∃ g : Nat, v4 = .slice (some ⟨g, 0, none⟩) 4 4 ∧ wc.cell? ⟨g, 0, none⟩ = some (.int .i64 13) ∧ wc.cell? ⟨g, 1, none⟩ = some (.int .i64 0) ∧ wc.cell? ⟨g, 2, none⟩ = some (.int .i64 0) ∧ wc.cell? ⟨g, 3, none⟩ = some (.int .i64 1) ∧ Blok wc w.heap.size 31 [.int .i64 0, .int .i64 0, .int .i64 0, .int .i64 0] ∧ Below w.heap.size w wc)
  case first =>
    go_wp2
    go_meet
    case rel =>
      refine ⟨_, rfl, by simp [go_sem], by simp [go_sem], by simp [go_sem], by simp [go_sem], ?_, ?_⟩
      · iterate 14 refine Blok.alloc ?_ _
        exact Blok.new _ _ _
      · repeat (first | with_reducible exact Below.refl _ _ | with_reducible refine balB ?_ _)
  case rest =>
    obtain ⟨g, rfl, d0, d1, d2, d3, hZ, hB⟩ := hcut
    go_wp2_with fail
    have hZd := hZ.drewN 1
    (refine wp_region_tail 13 (by kernel_rfl) (by kernel_rfl) ?_; simp only [List.take_succ_cons, List.take_zero, List.drop_succ_cons, List.drop_zero]; (repeat still_step); (try refine wpStill_nil ?_))
    go_wp2_with (refine wpList_store_blok rfl _ (.tmp 2) (.tmp 35) rfl w.heap.size 0 #[.int .i64 13, .int .i64 0, .int .i64 0, .int .i64 1] rfl rfl hZd (by simp) (by kernel_rfl) rfl ?_; intro w4 hb4 hg4 hz4)
    have r0 : w4.cell? ⟨w.heap.size, 0, none⟩ = some (.int .i64 13) := hb4.cell 0
    have r1 : w4.cell? ⟨w.heap.size, 1, none⟩ = some (.int .i64 0) := hb4.cell 1
    have r2 : w4.cell? ⟨w.heap.size, 2, none⟩ = some (.int .i64 0) := hb4.cell 2
    have r3 : w4.cell? ⟨w.heap.size, 3, none⟩ = some (.int .i64 1) := hb4.cell 3
    refine bodyPost_ret (v := .agg #[.int .i64 13, .int .i64 0, .int .i64 0, .int .i64 1]) (by simp [results, Tryd.results35, go_sem, r0, r1, r2, r3]) rfl ⟨rfl, (bdrew hB).grown hg4 hB.size (by simp)⟩
end Go.Proofs.YtakihcdolpocjaaDoor
