/- Layer 19: the words whose bit 27 is 1. -/
import Derived.Test.YtpfhplhamnohjaaUIscm
namespace Go.Proofs.Ytpfhplhamnohjaa
set_option maxHeartbeats 25600000
set_option maxRecDepth 100000
open Go.RowKit

theorem rest_8_true_a (w : Int) (h0 : 0 ≤ w) (h1 : w < 4294967296) (i : Ins) (W : World) (hk : fld w 27 24 = 8) (p1 : bt w 20 = true) (p2 : bt w 22 = false) :
    Calls Try.prog 44 #[.int .u32 w, (.agg (insA i))] W fun e w' => e = .returned (.agg (insCells ({ i with op := 39, pre := bt w 24, up := bt w 23, write := bt w 21, rn := fld w 19 16, list := w % 65536 } : Ins)).toArray) ∧ Below W.heap.size W w' := by
  have G := Lib.hid (fun hi lo hl hm hh W => get_any w h0 h1 hi lo hl hm hh W)
  have B := Lib.hid (fun i hl hh W => bit_any w h0 h1 i hl hh W)
  obtain ⟨hA, hZ, hB⟩ := ins_two i W
  go_enter Try.func44, Try.ntmps44
  go_upto_region 1 with fail
  generalize (W.alloc (.cells (insA i) 61)).alloc (.cells zInsA 61) = W2 at hA hZ hB ⊢
  generalize Value.agg (insA i) = vi
  obtain ⟨c0, c1, c2, c3, c4, c5, c6, c7, c8, c9, c10, c11, c12, c13, c14, c15, c16, c17, c18, c19⟩ := ins_at (hA)
  have hf := hA.frozen
  go_upto_region 23 with (first | (first | (go_at_call 38; with_reducible refine (G.out _ _ ?_ ?_ ?_ _).mono ?_; (any_goals (first | omega | decide)); rintro e w' ⟨rfl, rfl⟩) | (go_at_call 41; with_reducible refine (B.out _ ?_ ?_ _).mono ?_; (any_goals (first | omega | decide)); rintro e w' ⟨rfl, rfl⟩) | (go_at_call 76; with_reducible refine (compares_is _ _).mono ?_; rintro e w' ⟨rfl, rfl⟩) | (go_at_call 77; with_reducible refine (moves_is _ _).mono ?_; rintro e w' ⟨rfl, rfl⟩)) | (go_at_call 61; with_reducible refine (small_is _ _).mono ?_; rintro e w' ⟨rfl, rfl⟩) | (go_at_call 75; with_reducible refine (half_is _ _ ?_ ?_ _).mono ?_; (any_goals (first | omega | assumption)); rintro e w' ⟨rfl, rfl⟩))
  go_wp2_with (first | (refine wpList_load_ins rfl (.tmp 3) rfl (W.heap.size) ({ i with op := 39, pre := bt w 24, up := bt w 23, write := bt w 21, rn := fld w 19 16, list := w % 65536 } : Ins) rfl (((((((hA.set_ 1 _).set_ 1 _).set_ 12 _).set_ 13 _).set_ 14 _).set_ 5 _).set_ 15 _) ?_) | (refine wpList_store_ins rfl (.tmp 4) (.tmp 81) rfl (W.heap.size + 1) ({ i with op := 39, pre := bt w 24, up := bt w 23, write := bt w 21, rn := fld w 19 16, list := w % 65536 } : Ins) zIns rfl rfl (((((((hZ.far (by simp) _).far (by simp) _).far (by simp) _).far (by simp) _).far (by simp) _).far (by simp) _).far (by simp) _) ?_; intro w8 B8 g8))
  refine ret_ins 4 (W.heap.size + 1) ({ i with op := 39, pre := bt w 24, up := bt w 23, write := bt w 21, rn := fld w 19 16, list := w % 65536 } : Ins) rfl rfl B8 rfl ⟨rfl, ?_⟩
  exact bgrow (((((((hB.setCell (Nat.le_refl _) _).setCell (Nat.le_refl _) _).setCell (Nat.le_refl _) _).setCell (Nat.le_refl _) _).setCell (Nat.le_refl _) _).setCell (Nat.le_refl _) _).setCell (Nat.le_refl _) _) g8 (by omega)
theorem rest_8_true_b (w : Int) (h0 : 0 ≤ w) (h1 : w < 4294967296) (i : Ins) (W : World) (hk : fld w 27 24 = 8) (p1 : bt w 20 = true) (p2 : bt w 22 = true) :
    Calls Try.prog 44 #[.int .u32 w, (.agg (insA i))] W fun e w' => e = .returned (.agg (insCells zIns).toArray) ∧ Below W.heap.size W w' := by
  have G := Lib.hid (fun hi lo hl hm hh W => get_any w h0 h1 hi lo hl hm hh W)
  have B := Lib.hid (fun i hl hh W => bit_any w h0 h1 i hl hh W)
  obtain ⟨hA, hZ, hB⟩ := ins_two i W
  go_enter Try.func44, Try.ntmps44
  go_upto_region 1 with fail
  generalize (W.alloc (.cells (insA i) 61)).alloc (.cells zInsA 61) = W2 at hA hZ hB ⊢
  generalize Value.agg (insA i) = vi
  obtain ⟨c0, c1, c2, c3, c4, c5, c6, c7, c8, c9, c10, c11, c12, c13, c14, c15, c16, c17, c18, c19⟩ := ins_at (hA)
  have hf := hA.frozen
  go_upto_region 10 with (first | (first | (go_at_call 38; with_reducible refine (G.out _ _ ?_ ?_ ?_ _).mono ?_; (any_goals (first | omega | decide)); rintro e w' ⟨rfl, rfl⟩) | (go_at_call 41; with_reducible refine (B.out _ ?_ ?_ _).mono ?_; (any_goals (first | omega | decide)); rintro e w' ⟨rfl, rfl⟩) | (go_at_call 76; with_reducible refine (compares_is _ _).mono ?_; rintro e w' ⟨rfl, rfl⟩) | (go_at_call 77; with_reducible refine (moves_is _ _).mono ?_; rintro e w' ⟨rfl, rfl⟩)) | (go_at_call 61; with_reducible refine (small_is _ _).mono ?_; rintro e w' ⟨rfl, rfl⟩) | (go_at_call 75; with_reducible refine (half_is _ _ ?_ ?_ _).mono ?_; (any_goals (first | omega | assumption)); rintro e w' ⟨rfl, rfl⟩))
  go_wp2_with (refine wpList_store_ins rfl (.tmp 4) (.tmp 32) rfl (W.heap.size + 1) zIns zIns rfl rfl (((((((hZ.far (by simp) _).far (by simp) _).far (by simp) _).far (by simp) _).far (by simp) _).far (by simp) _).far (by simp) _) ?_; intro w8 B8 g8)
  refine ret_ins 4 (W.heap.size + 1) zIns rfl rfl B8 rfl ⟨rfl, ?_⟩
  exact bgrow (((((((hB.setCell (Nat.le_refl _) _).setCell (Nat.le_refl _) _).setCell (Nat.le_refl _) _).setCell (Nat.le_refl _) _).setCell (Nat.le_refl _) _).setCell (Nat.le_refl _) _).setCell (Nat.le_refl _) _) g8 (by omega)
theorem rest_8_false_a (w : Int) (h0 : 0 ≤ w) (h1 : w < 4294967296) (i : Ins) (W : World) (hk : fld w 27 24 = 8) (p1 : bt w 20 = false) (p2 : bt w 22 = false) :
    Calls Try.prog 44 #[.int .u32 w, (.agg (insA i))] W fun e w' => e = .returned (.agg (insCells ({ i with op := 40, pre := bt w 24, up := bt w 23, write := bt w 21, rn := fld w 19 16, list := w % 65536 } : Ins)).toArray) ∧ Below W.heap.size W w' := by
  have G := Lib.hid (fun hi lo hl hm hh W => get_any w h0 h1 hi lo hl hm hh W)
  have B := Lib.hid (fun i hl hh W => bit_any w h0 h1 i hl hh W)
  obtain ⟨hA, hZ, hB⟩ := ins_two i W
  go_enter Try.func44, Try.ntmps44
  go_upto_region 1 with fail
  generalize (W.alloc (.cells (insA i) 61)).alloc (.cells zInsA 61) = W2 at hA hZ hB ⊢
  generalize Value.agg (insA i) = vi
  obtain ⟨c0, c1, c2, c3, c4, c5, c6, c7, c8, c9, c10, c11, c12, c13, c14, c15, c16, c17, c18, c19⟩ := ins_at (hA)
  have hf := hA.frozen
  go_upto_region 23 with (first | (first | (go_at_call 38; with_reducible refine (G.out _ _ ?_ ?_ ?_ _).mono ?_; (any_goals (first | omega | decide)); rintro e w' ⟨rfl, rfl⟩) | (go_at_call 41; with_reducible refine (B.out _ ?_ ?_ _).mono ?_; (any_goals (first | omega | decide)); rintro e w' ⟨rfl, rfl⟩) | (go_at_call 76; with_reducible refine (compares_is _ _).mono ?_; rintro e w' ⟨rfl, rfl⟩) | (go_at_call 77; with_reducible refine (moves_is _ _).mono ?_; rintro e w' ⟨rfl, rfl⟩)) | (go_at_call 61; with_reducible refine (small_is _ _).mono ?_; rintro e w' ⟨rfl, rfl⟩) | (go_at_call 75; with_reducible refine (half_is _ _ ?_ ?_ _).mono ?_; (any_goals (first | omega | assumption)); rintro e w' ⟨rfl, rfl⟩))
  go_wp2_with (first | (refine wpList_load_ins rfl (.tmp 3) rfl (W.heap.size) ({ i with op := 40, pre := bt w 24, up := bt w 23, write := bt w 21, rn := fld w 19 16, list := w % 65536 } : Ins) rfl ((((((hA.set_ 1 _).set_ 12 _).set_ 13 _).set_ 14 _).set_ 5 _).set_ 15 _) ?_) | (refine wpList_store_ins rfl (.tmp 4) (.tmp 81) rfl (W.heap.size + 1) ({ i with op := 40, pre := bt w 24, up := bt w 23, write := bt w 21, rn := fld w 19 16, list := w % 65536 } : Ins) zIns rfl rfl ((((((hZ.far (by simp) _).far (by simp) _).far (by simp) _).far (by simp) _).far (by simp) _).far (by simp) _) ?_; intro w8 B8 g8))
  refine ret_ins 4 (W.heap.size + 1) ({ i with op := 40, pre := bt w 24, up := bt w 23, write := bt w 21, rn := fld w 19 16, list := w % 65536 } : Ins) rfl rfl B8 rfl ⟨rfl, ?_⟩
  exact bgrow ((((((hB.setCell (Nat.le_refl _) _).setCell (Nat.le_refl _) _).setCell (Nat.le_refl _) _).setCell (Nat.le_refl _) _).setCell (Nat.le_refl _) _).setCell (Nat.le_refl _) _) g8 (by omega)
theorem rest_8_false_b (w : Int) (h0 : 0 ≤ w) (h1 : w < 4294967296) (i : Ins) (W : World) (hk : fld w 27 24 = 8) (p1 : bt w 20 = false) (p2 : bt w 22 = true) :
    Calls Try.prog 44 #[.int .u32 w, (.agg (insA i))] W fun e w' => e = .returned (.agg (insCells zIns).toArray) ∧ Below W.heap.size W w' := by
  have G := Lib.hid (fun hi lo hl hm hh W => get_any w h0 h1 hi lo hl hm hh W)
  have B := Lib.hid (fun i hl hh W => bit_any w h0 h1 i hl hh W)
  obtain ⟨hA, hZ, hB⟩ := ins_two i W
  go_enter Try.func44, Try.ntmps44
  go_upto_region 1 with fail
  generalize (W.alloc (.cells (insA i) 61)).alloc (.cells zInsA 61) = W2 at hA hZ hB ⊢
  generalize Value.agg (insA i) = vi
  obtain ⟨c0, c1, c2, c3, c4, c5, c6, c7, c8, c9, c10, c11, c12, c13, c14, c15, c16, c17, c18, c19⟩ := ins_at (hA)
  have hf := hA.frozen
  go_upto_region 10 with (first | (first | (go_at_call 38; with_reducible refine (G.out _ _ ?_ ?_ ?_ _).mono ?_; (any_goals (first | omega | decide)); rintro e w' ⟨rfl, rfl⟩) | (go_at_call 41; with_reducible refine (B.out _ ?_ ?_ _).mono ?_; (any_goals (first | omega | decide)); rintro e w' ⟨rfl, rfl⟩) | (go_at_call 76; with_reducible refine (compares_is _ _).mono ?_; rintro e w' ⟨rfl, rfl⟩) | (go_at_call 77; with_reducible refine (moves_is _ _).mono ?_; rintro e w' ⟨rfl, rfl⟩)) | (go_at_call 61; with_reducible refine (small_is _ _).mono ?_; rintro e w' ⟨rfl, rfl⟩) | (go_at_call 75; with_reducible refine (half_is _ _ ?_ ?_ _).mono ?_; (any_goals (first | omega | assumption)); rintro e w' ⟨rfl, rfl⟩))
  go_wp2_with (refine wpList_store_ins rfl (.tmp 4) (.tmp 32) rfl (W.heap.size + 1) zIns zIns rfl rfl ((((((hZ.far (by simp) _).far (by simp) _).far (by simp) _).far (by simp) _).far (by simp) _).far (by simp) _) ?_; intro w8 B8 g8)
  refine ret_ins 4 (W.heap.size + 1) zIns rfl rfl B8 rfl ⟨rfl, ?_⟩
  exact bgrow ((((((hB.setCell (Nat.le_refl _) _).setCell (Nat.le_refl _) _).setCell (Nat.le_refl _) _).setCell (Nat.le_refl _) _).setCell (Nat.le_refl _) _).setCell (Nat.le_refl _) _) g8 (by omega)
theorem rest_9_true_a (w : Int) (h0 : 0 ≤ w) (h1 : w < 4294967296) (i : Ins) (W : World) (hk : fld w 27 24 = 9) (p1 : bt w 20 = true) (p2 : bt w 22 = false) :
    Calls Try.prog 44 #[.int .u32 w, (.agg (insA i))] W fun e w' => e = .returned (.agg (insCells ({ i with op := 39, pre := bt w 24, up := bt w 23, write := bt w 21, rn := fld w 19 16, list := w % 65536 } : Ins)).toArray) ∧ Below W.heap.size W w' := by
  have G := Lib.hid (fun hi lo hl hm hh W => get_any w h0 h1 hi lo hl hm hh W)
  have B := Lib.hid (fun i hl hh W => bit_any w h0 h1 i hl hh W)
  obtain ⟨hA, hZ, hB⟩ := ins_two i W
  go_enter Try.func44, Try.ntmps44
  go_upto_region 1 with fail
  generalize (W.alloc (.cells (insA i) 61)).alloc (.cells zInsA 61) = W2 at hA hZ hB ⊢
  generalize Value.agg (insA i) = vi
  obtain ⟨c0, c1, c2, c3, c4, c5, c6, c7, c8, c9, c10, c11, c12, c13, c14, c15, c16, c17, c18, c19⟩ := ins_at (hA)
  have hf := hA.frozen
  go_upto_region 23 with (first | (first | (go_at_call 38; with_reducible refine (G.out _ _ ?_ ?_ ?_ _).mono ?_; (any_goals (first | omega | decide)); rintro e w' ⟨rfl, rfl⟩) | (go_at_call 41; with_reducible refine (B.out _ ?_ ?_ _).mono ?_; (any_goals (first | omega | decide)); rintro e w' ⟨rfl, rfl⟩) | (go_at_call 76; with_reducible refine (compares_is _ _).mono ?_; rintro e w' ⟨rfl, rfl⟩) | (go_at_call 77; with_reducible refine (moves_is _ _).mono ?_; rintro e w' ⟨rfl, rfl⟩)) | (go_at_call 61; with_reducible refine (small_is _ _).mono ?_; rintro e w' ⟨rfl, rfl⟩) | (go_at_call 75; with_reducible refine (half_is _ _ ?_ ?_ _).mono ?_; (any_goals (first | omega | assumption)); rintro e w' ⟨rfl, rfl⟩))
  go_wp2_with (first | (refine wpList_load_ins rfl (.tmp 3) rfl (W.heap.size) ({ i with op := 39, pre := bt w 24, up := bt w 23, write := bt w 21, rn := fld w 19 16, list := w % 65536 } : Ins) rfl (((((((hA.set_ 1 _).set_ 1 _).set_ 12 _).set_ 13 _).set_ 14 _).set_ 5 _).set_ 15 _) ?_) | (refine wpList_store_ins rfl (.tmp 4) (.tmp 81) rfl (W.heap.size + 1) ({ i with op := 39, pre := bt w 24, up := bt w 23, write := bt w 21, rn := fld w 19 16, list := w % 65536 } : Ins) zIns rfl rfl (((((((hZ.far (by simp) _).far (by simp) _).far (by simp) _).far (by simp) _).far (by simp) _).far (by simp) _).far (by simp) _) ?_; intro w8 B8 g8))
  refine ret_ins 4 (W.heap.size + 1) ({ i with op := 39, pre := bt w 24, up := bt w 23, write := bt w 21, rn := fld w 19 16, list := w % 65536 } : Ins) rfl rfl B8 rfl ⟨rfl, ?_⟩
  exact bgrow (((((((hB.setCell (Nat.le_refl _) _).setCell (Nat.le_refl _) _).setCell (Nat.le_refl _) _).setCell (Nat.le_refl _) _).setCell (Nat.le_refl _) _).setCell (Nat.le_refl _) _).setCell (Nat.le_refl _) _) g8 (by omega)
theorem rest_9_true_b (w : Int) (h0 : 0 ≤ w) (h1 : w < 4294967296) (i : Ins) (W : World) (hk : fld w 27 24 = 9) (p1 : bt w 20 = true) (p2 : bt w 22 = true) :
    Calls Try.prog 44 #[.int .u32 w, (.agg (insA i))] W fun e w' => e = .returned (.agg (insCells zIns).toArray) ∧ Below W.heap.size W w' := by
  have G := Lib.hid (fun hi lo hl hm hh W => get_any w h0 h1 hi lo hl hm hh W)
  have B := Lib.hid (fun i hl hh W => bit_any w h0 h1 i hl hh W)
  obtain ⟨hA, hZ, hB⟩ := ins_two i W
  go_enter Try.func44, Try.ntmps44
  go_upto_region 1 with fail
  generalize (W.alloc (.cells (insA i) 61)).alloc (.cells zInsA 61) = W2 at hA hZ hB ⊢
  generalize Value.agg (insA i) = vi
  obtain ⟨c0, c1, c2, c3, c4, c5, c6, c7, c8, c9, c10, c11, c12, c13, c14, c15, c16, c17, c18, c19⟩ := ins_at (hA)
  have hf := hA.frozen
  go_upto_region 10 with (first | (first | (go_at_call 38; with_reducible refine (G.out _ _ ?_ ?_ ?_ _).mono ?_; (any_goals (first | omega | decide)); rintro e w' ⟨rfl, rfl⟩) | (go_at_call 41; with_reducible refine (B.out _ ?_ ?_ _).mono ?_; (any_goals (first | omega | decide)); rintro e w' ⟨rfl, rfl⟩) | (go_at_call 76; with_reducible refine (compares_is _ _).mono ?_; rintro e w' ⟨rfl, rfl⟩) | (go_at_call 77; with_reducible refine (moves_is _ _).mono ?_; rintro e w' ⟨rfl, rfl⟩)) | (go_at_call 61; with_reducible refine (small_is _ _).mono ?_; rintro e w' ⟨rfl, rfl⟩) | (go_at_call 75; with_reducible refine (half_is _ _ ?_ ?_ _).mono ?_; (any_goals (first | omega | assumption)); rintro e w' ⟨rfl, rfl⟩))
  go_wp2_with (refine wpList_store_ins rfl (.tmp 4) (.tmp 32) rfl (W.heap.size + 1) zIns zIns rfl rfl (((((((hZ.far (by simp) _).far (by simp) _).far (by simp) _).far (by simp) _).far (by simp) _).far (by simp) _).far (by simp) _) ?_; intro w8 B8 g8)
  refine ret_ins 4 (W.heap.size + 1) zIns rfl rfl B8 rfl ⟨rfl, ?_⟩
  exact bgrow (((((((hB.setCell (Nat.le_refl _) _).setCell (Nat.le_refl _) _).setCell (Nat.le_refl _) _).setCell (Nat.le_refl _) _).setCell (Nat.le_refl _) _).setCell (Nat.le_refl _) _).setCell (Nat.le_refl _) _) g8 (by omega)
theorem rest_9_false_a (w : Int) (h0 : 0 ≤ w) (h1 : w < 4294967296) (i : Ins) (W : World) (hk : fld w 27 24 = 9) (p1 : bt w 20 = false) (p2 : bt w 22 = false) :
    Calls Try.prog 44 #[.int .u32 w, (.agg (insA i))] W fun e w' => e = .returned (.agg (insCells ({ i with op := 40, pre := bt w 24, up := bt w 23, write := bt w 21, rn := fld w 19 16, list := w % 65536 } : Ins)).toArray) ∧ Below W.heap.size W w' := by
  have G := Lib.hid (fun hi lo hl hm hh W => get_any w h0 h1 hi lo hl hm hh W)
  have B := Lib.hid (fun i hl hh W => bit_any w h0 h1 i hl hh W)
  obtain ⟨hA, hZ, hB⟩ := ins_two i W
  go_enter Try.func44, Try.ntmps44
  go_upto_region 1 with fail
  generalize (W.alloc (.cells (insA i) 61)).alloc (.cells zInsA 61) = W2 at hA hZ hB ⊢
  generalize Value.agg (insA i) = vi
  obtain ⟨c0, c1, c2, c3, c4, c5, c6, c7, c8, c9, c10, c11, c12, c13, c14, c15, c16, c17, c18, c19⟩ := ins_at (hA)
  have hf := hA.frozen
  go_upto_region 23 with (first | (first | (go_at_call 38; with_reducible refine (G.out _ _ ?_ ?_ ?_ _).mono ?_; (any_goals (first | omega | decide)); rintro e w' ⟨rfl, rfl⟩) | (go_at_call 41; with_reducible refine (B.out _ ?_ ?_ _).mono ?_; (any_goals (first | omega | decide)); rintro e w' ⟨rfl, rfl⟩) | (go_at_call 76; with_reducible refine (compares_is _ _).mono ?_; rintro e w' ⟨rfl, rfl⟩) | (go_at_call 77; with_reducible refine (moves_is _ _).mono ?_; rintro e w' ⟨rfl, rfl⟩)) | (go_at_call 61; with_reducible refine (small_is _ _).mono ?_; rintro e w' ⟨rfl, rfl⟩) | (go_at_call 75; with_reducible refine (half_is _ _ ?_ ?_ _).mono ?_; (any_goals (first | omega | assumption)); rintro e w' ⟨rfl, rfl⟩))
  go_wp2_with (first | (refine wpList_load_ins rfl (.tmp 3) rfl (W.heap.size) ({ i with op := 40, pre := bt w 24, up := bt w 23, write := bt w 21, rn := fld w 19 16, list := w % 65536 } : Ins) rfl ((((((hA.set_ 1 _).set_ 12 _).set_ 13 _).set_ 14 _).set_ 5 _).set_ 15 _) ?_) | (refine wpList_store_ins rfl (.tmp 4) (.tmp 81) rfl (W.heap.size + 1) ({ i with op := 40, pre := bt w 24, up := bt w 23, write := bt w 21, rn := fld w 19 16, list := w % 65536 } : Ins) zIns rfl rfl ((((((hZ.far (by simp) _).far (by simp) _).far (by simp) _).far (by simp) _).far (by simp) _).far (by simp) _) ?_; intro w8 B8 g8))
  refine ret_ins 4 (W.heap.size + 1) ({ i with op := 40, pre := bt w 24, up := bt w 23, write := bt w 21, rn := fld w 19 16, list := w % 65536 } : Ins) rfl rfl B8 rfl ⟨rfl, ?_⟩
  exact bgrow ((((((hB.setCell (Nat.le_refl _) _).setCell (Nat.le_refl _) _).setCell (Nat.le_refl _) _).setCell (Nat.le_refl _) _).setCell (Nat.le_refl _) _).setCell (Nat.le_refl _) _) g8 (by omega)
theorem rest_9_false_b (w : Int) (h0 : 0 ≤ w) (h1 : w < 4294967296) (i : Ins) (W : World) (hk : fld w 27 24 = 9) (p1 : bt w 20 = false) (p2 : bt w 22 = true) :
    Calls Try.prog 44 #[.int .u32 w, (.agg (insA i))] W fun e w' => e = .returned (.agg (insCells zIns).toArray) ∧ Below W.heap.size W w' := by
  have G := Lib.hid (fun hi lo hl hm hh W => get_any w h0 h1 hi lo hl hm hh W)
  have B := Lib.hid (fun i hl hh W => bit_any w h0 h1 i hl hh W)
  obtain ⟨hA, hZ, hB⟩ := ins_two i W
  go_enter Try.func44, Try.ntmps44
  go_upto_region 1 with fail
  generalize (W.alloc (.cells (insA i) 61)).alloc (.cells zInsA 61) = W2 at hA hZ hB ⊢
  generalize Value.agg (insA i) = vi
  obtain ⟨c0, c1, c2, c3, c4, c5, c6, c7, c8, c9, c10, c11, c12, c13, c14, c15, c16, c17, c18, c19⟩ := ins_at (hA)
  have hf := hA.frozen
  go_upto_region 10 with (first | (first | (go_at_call 38; with_reducible refine (G.out _ _ ?_ ?_ ?_ _).mono ?_; (any_goals (first | omega | decide)); rintro e w' ⟨rfl, rfl⟩) | (go_at_call 41; with_reducible refine (B.out _ ?_ ?_ _).mono ?_; (any_goals (first | omega | decide)); rintro e w' ⟨rfl, rfl⟩) | (go_at_call 76; with_reducible refine (compares_is _ _).mono ?_; rintro e w' ⟨rfl, rfl⟩) | (go_at_call 77; with_reducible refine (moves_is _ _).mono ?_; rintro e w' ⟨rfl, rfl⟩)) | (go_at_call 61; with_reducible refine (small_is _ _).mono ?_; rintro e w' ⟨rfl, rfl⟩) | (go_at_call 75; with_reducible refine (half_is _ _ ?_ ?_ _).mono ?_; (any_goals (first | omega | assumption)); rintro e w' ⟨rfl, rfl⟩))
  go_wp2_with (refine wpList_store_ins rfl (.tmp 4) (.tmp 32) rfl (W.heap.size + 1) zIns zIns rfl rfl ((((((hZ.far (by simp) _).far (by simp) _).far (by simp) _).far (by simp) _).far (by simp) _).far (by simp) _) ?_; intro w8 B8 g8)
  refine ret_ins 4 (W.heap.size + 1) zIns rfl rfl B8 rfl ⟨rfl, ?_⟩
  exact bgrow ((((((hB.setCell (Nat.le_refl _) _).setCell (Nat.le_refl _) _).setCell (Nat.le_refl _) _).setCell (Nat.le_refl _) _).setCell (Nat.le_refl _) _).setCell (Nat.le_refl _) _) g8 (by omega)
theorem rest_10 (w : Int) (h0 : 0 ≤ w) (h1 : w < 4294967296) (i : Ins) (W : World) (hk : fld w 27 24 = 10) :
    Calls Try.prog 44 #[.int .u32 w, (.agg (insA i))] W fun e w' => e = .returned (.agg (insCells ({ i with op := 41 + fld w 24 24, imm := brI w } : Ins)).toArray) ∧ Below W.heap.size W w' := by
  have G := Lib.hid (fun hi lo hl hm hh W => get_any w h0 h1 hi lo hl hm hh W)
  have B := Lib.hid (fun i hl hh W => bit_any w h0 h1 i hl hh W)
  obtain ⟨hA, hZ, hB⟩ := ins_two i W
  go_enter Try.func44, Try.ntmps44
  go_upto_region 1 with fail
  generalize (W.alloc (.cells (insA i) 61)).alloc (.cells zInsA 61) = W2 at hA hZ hB ⊢
  generalize Value.agg (insA i) = vi
  obtain ⟨c0, c1, c2, c3, c4, c5, c6, c7, c8, c9, c10, c11, c12, c13, c14, c15, c16, c17, c18, c19⟩ := ins_at (hA)
  have hf := hA.frozen
  have b24 := fld_le w 24 24
  have b24a : 0 ≤ fld w 24 24 := b24.1
  have b24b : fld w 24 24 < 2 := by have := b24.2; simpa using this
  clear b24
  go_upto_region 23 with (first | (first | (go_at_call 38; with_reducible refine (G.out _ _ ?_ ?_ ?_ _).mono ?_; (any_goals (first | omega | decide)); rintro e w' ⟨rfl, rfl⟩) | (go_at_call 41; with_reducible refine (B.out _ ?_ ?_ _).mono ?_; (any_goals (first | omega | decide)); rintro e w' ⟨rfl, rfl⟩) | (go_at_call 76; with_reducible refine (compares_is _ _).mono ?_; rintro e w' ⟨rfl, rfl⟩) | (go_at_call 77; with_reducible refine (moves_is _ _).mono ?_; rintro e w' ⟨rfl, rfl⟩)) | (go_at_call 61; with_reducible refine (small_is _ _).mono ?_; rintro e w' ⟨rfl, rfl⟩) | (go_at_call 75; with_reducible refine (half_is _ _ ?_ ?_ _).mono ?_; (any_goals (first | omega | assumption)); rintro e w' ⟨rfl, rfl⟩))
  go_wp2_with (first | (refine wpList_load_ins rfl (.tmp 3) rfl (W.heap.size) ({ i with op := 41 + fld w 24 24, imm := brI w } : Ins) rfl ((hA.set_ 1 _).set_ 9 _) ?_) | (refine wpList_store_ins rfl (.tmp 4) (.tmp 81) rfl (W.heap.size + 1) ({ i with op := 41 + fld w 24 24, imm := brI w } : Ins) zIns rfl rfl ((hZ.far (by simp) _).far (by simp) _) ?_; intro w8 B8 g8))
  refine ret_ins 4 (W.heap.size + 1) ({ i with op := 41 + fld w 24 24, imm := brI w } : Ins) rfl rfl B8 rfl ⟨rfl, ?_⟩
  exact bgrow ((hB.setCell (Nat.le_refl _) _).setCell (Nat.le_refl _) _) g8 (by omega)
theorem rest_11 (w : Int) (h0 : 0 ≤ w) (h1 : w < 4294967296) (i : Ins) (W : World) (hk : fld w 27 24 = 11) :
    Calls Try.prog 44 #[.int .u32 w, (.agg (insA i))] W fun e w' => e = .returned (.agg (insCells ({ i with op := 41 + fld w 24 24, imm := brI w } : Ins)).toArray) ∧ Below W.heap.size W w' := by
  have G := Lib.hid (fun hi lo hl hm hh W => get_any w h0 h1 hi lo hl hm hh W)
  have B := Lib.hid (fun i hl hh W => bit_any w h0 h1 i hl hh W)
  obtain ⟨hA, hZ, hB⟩ := ins_two i W
  go_enter Try.func44, Try.ntmps44
  go_upto_region 1 with fail
  generalize (W.alloc (.cells (insA i) 61)).alloc (.cells zInsA 61) = W2 at hA hZ hB ⊢
  generalize Value.agg (insA i) = vi
  obtain ⟨c0, c1, c2, c3, c4, c5, c6, c7, c8, c9, c10, c11, c12, c13, c14, c15, c16, c17, c18, c19⟩ := ins_at (hA)
  have hf := hA.frozen
  have b24 := fld_le w 24 24
  have b24a : 0 ≤ fld w 24 24 := b24.1
  have b24b : fld w 24 24 < 2 := by have := b24.2; simpa using this
  clear b24
  go_upto_region 23 with (first | (first | (go_at_call 38; with_reducible refine (G.out _ _ ?_ ?_ ?_ _).mono ?_; (any_goals (first | omega | decide)); rintro e w' ⟨rfl, rfl⟩) | (go_at_call 41; with_reducible refine (B.out _ ?_ ?_ _).mono ?_; (any_goals (first | omega | decide)); rintro e w' ⟨rfl, rfl⟩) | (go_at_call 76; with_reducible refine (compares_is _ _).mono ?_; rintro e w' ⟨rfl, rfl⟩) | (go_at_call 77; with_reducible refine (moves_is _ _).mono ?_; rintro e w' ⟨rfl, rfl⟩)) | (go_at_call 61; with_reducible refine (small_is _ _).mono ?_; rintro e w' ⟨rfl, rfl⟩) | (go_at_call 75; with_reducible refine (half_is _ _ ?_ ?_ _).mono ?_; (any_goals (first | omega | assumption)); rintro e w' ⟨rfl, rfl⟩))
  go_wp2_with (first | (refine wpList_load_ins rfl (.tmp 3) rfl (W.heap.size) ({ i with op := 41 + fld w 24 24, imm := brI w } : Ins) rfl ((hA.set_ 1 _).set_ 9 _) ?_) | (refine wpList_store_ins rfl (.tmp 4) (.tmp 81) rfl (W.heap.size + 1) ({ i with op := 41 + fld w 24 24, imm := brI w } : Ins) zIns rfl rfl ((hZ.far (by simp) _).far (by simp) _) ?_; intro w8 B8 g8))
  refine ret_ins 4 (W.heap.size + 1) ({ i with op := 41 + fld w 24 24, imm := brI w } : Ins) rfl rfl B8 rfl ⟨rfl, ?_⟩
  exact bgrow ((hB.setCell (Nat.le_refl _) _).setCell (Nat.le_refl _) _) g8 (by omega)
theorem rest_14_a (w : Int) (h0 : 0 ≤ w) (h1 : w < 4294967296) (i : Ins) (W : World) (hk : fld w 27 24 = 14) (p1 : bt w 4 = false) :
    Calls Try.prog 44 #[.int .u32 w, (.agg (insA i))] W fun e w' => e = .returned (.agg (insCells zIns).toArray) ∧ Below W.heap.size W w' := by
  have G := Lib.hid (fun hi lo hl hm hh W => get_any w h0 h1 hi lo hl hm hh W)
  have B := Lib.hid (fun i hl hh W => bit_any w h0 h1 i hl hh W)
  obtain ⟨hA, hZ, hB⟩ := ins_two i W
  go_enter Try.func44, Try.ntmps44
  go_upto_region 1 with fail
  generalize (W.alloc (.cells (insA i) 61)).alloc (.cells zInsA 61) = W2 at hA hZ hB ⊢
  generalize Value.agg (insA i) = vi
  obtain ⟨c0, c1, c2, c3, c4, c5, c6, c7, c8, c9, c10, c11, c12, c13, c14, c15, c16, c17, c18, c19⟩ := ins_at (hA)
  have hf := hA.frozen
  go_upto_region 17 with (first | (first | (go_at_call 38; with_reducible refine (G.out _ _ ?_ ?_ ?_ _).mono ?_; (any_goals (first | omega | decide)); rintro e w' ⟨rfl, rfl⟩) | (go_at_call 41; with_reducible refine (B.out _ ?_ ?_ _).mono ?_; (any_goals (first | omega | decide)); rintro e w' ⟨rfl, rfl⟩) | (go_at_call 76; with_reducible refine (compares_is _ _).mono ?_; rintro e w' ⟨rfl, rfl⟩) | (go_at_call 77; with_reducible refine (moves_is _ _).mono ?_; rintro e w' ⟨rfl, rfl⟩)) | (go_at_call 61; with_reducible refine (small_is _ _).mono ?_; rintro e w' ⟨rfl, rfl⟩) | (go_at_call 75; with_reducible refine (half_is _ _ ?_ ?_ _).mono ?_; (any_goals (first | omega | assumption)); rintro e w' ⟨rfl, rfl⟩))
  go_wp2_with (refine wpList_store_ins rfl (.tmp 4) (.tmp 56) rfl (W.heap.size + 1) zIns zIns rfl rfl hZ ?_; intro w8 B8 g8)
  refine ret_ins 4 (W.heap.size + 1) zIns rfl rfl B8 rfl ⟨rfl, ?_⟩
  exact bgrow hB g8 (by omega)
theorem rest_14_b (w : Int) (h0 : 0 ≤ w) (h1 : w < 4294967296) (i : Ins) (W : World) (hk : fld w 27 24 = 14) (p1 : bt w 4 = true) (p2 : (fld w 11 8 != 15) = true) :
    Calls Try.prog 44 #[.int .u32 w, (.agg (insA i))] W fun e w' => e = .returned (.agg (insCells zIns).toArray) ∧ Below W.heap.size W w' := by
  have G := Lib.hid (fun hi lo hl hm hh W => get_any w h0 h1 hi lo hl hm hh W)
  have B := Lib.hid (fun i hl hh W => bit_any w h0 h1 i hl hh W)
  obtain ⟨hA, hZ, hB⟩ := ins_two i W
  go_enter Try.func44, Try.ntmps44
  go_upto_region 1 with fail
  generalize (W.alloc (.cells (insA i) 61)).alloc (.cells zInsA 61) = W2 at hA hZ hB ⊢
  generalize Value.agg (insA i) = vi
  obtain ⟨c0, c1, c2, c3, c4, c5, c6, c7, c8, c9, c10, c11, c12, c13, c14, c15, c16, c17, c18, c19⟩ := ins_at (hA)
  have hf := hA.frozen
  go_upto_region 17 with (first | (first | (go_at_call 38; with_reducible refine (G.out _ _ ?_ ?_ ?_ _).mono ?_; (any_goals (first | omega | decide)); rintro e w' ⟨rfl, rfl⟩) | (go_at_call 41; with_reducible refine (B.out _ ?_ ?_ _).mono ?_; (any_goals (first | omega | decide)); rintro e w' ⟨rfl, rfl⟩) | (go_at_call 76; with_reducible refine (compares_is _ _).mono ?_; rintro e w' ⟨rfl, rfl⟩) | (go_at_call 77; with_reducible refine (moves_is _ _).mono ?_; rintro e w' ⟨rfl, rfl⟩)) | (go_at_call 61; with_reducible refine (small_is _ _).mono ?_; rintro e w' ⟨rfl, rfl⟩) | (go_at_call 75; with_reducible refine (half_is _ _ ?_ ?_ _).mono ?_; (any_goals (first | omega | assumption)); rintro e w' ⟨rfl, rfl⟩))
  go_wp2_with (refine wpList_store_ins rfl (.tmp 4) (.tmp 56) rfl (W.heap.size + 1) zIns zIns rfl rfl hZ ?_; intro w8 B8 g8)
  refine ret_ins 4 (W.heap.size + 1) zIns rfl rfl B8 rfl ⟨rfl, ?_⟩
  exact bgrow hB g8 (by omega)
theorem rest_14_c (w : Int) (h0 : 0 ≤ w) (h1 : w < 4294967296) (i : Ins) (W : World) (hk : fld w 27 24 = 14) (p1 : bt w 4 = true) (p2 : (fld w 11 8 != 15) = false) :
    Calls Try.prog 44 #[.int .u32 w, (.agg (insA i))] W fun e w' => e = .returned (.agg (insCells ({ i with op := 49 + fld w 20 20, rd := fld w 15 12, crn := fld w 19 16, op1 := fld w 23 21, crm := fld w 3 0, op2 := fld w 7 5 } : Ins)).toArray) ∧ Below W.heap.size W w' := by
  have G := Lib.hid (fun hi lo hl hm hh W => get_any w h0 h1 hi lo hl hm hh W)
  have B := Lib.hid (fun i hl hh W => bit_any w h0 h1 i hl hh W)
  obtain ⟨hA, hZ, hB⟩ := ins_two i W
  go_enter Try.func44, Try.ntmps44
  go_upto_region 1 with fail
  generalize (W.alloc (.cells (insA i) 61)).alloc (.cells zInsA 61) = W2 at hA hZ hB ⊢
  generalize Value.agg (insA i) = vi
  obtain ⟨c0, c1, c2, c3, c4, c5, c6, c7, c8, c9, c10, c11, c12, c13, c14, c15, c16, c17, c18, c19⟩ := ins_at (hA)
  have hf := hA.frozen
  have b20 := fld_le w 20 20
  have b20a : 0 ≤ fld w 20 20 := b20.1
  have b20b : fld w 20 20 < 2 := by have := b20.2; simpa using this
  clear b20
  go_upto_region 23 with (first | (first | (go_at_call 38; with_reducible refine (G.out _ _ ?_ ?_ ?_ _).mono ?_; (any_goals (first | omega | decide)); rintro e w' ⟨rfl, rfl⟩) | (go_at_call 41; with_reducible refine (B.out _ ?_ ?_ _).mono ?_; (any_goals (first | omega | decide)); rintro e w' ⟨rfl, rfl⟩) | (go_at_call 76; with_reducible refine (compares_is _ _).mono ?_; rintro e w' ⟨rfl, rfl⟩) | (go_at_call 77; with_reducible refine (moves_is _ _).mono ?_; rintro e w' ⟨rfl, rfl⟩)) | (go_at_call 61; with_reducible refine (small_is _ _).mono ?_; rintro e w' ⟨rfl, rfl⟩) | (go_at_call 75; with_reducible refine (half_is _ _ ?_ ?_ _).mono ?_; (any_goals (first | omega | assumption)); rintro e w' ⟨rfl, rfl⟩))
  go_wp2_with (first | (refine wpList_load_ins rfl (.tmp 3) rfl (W.heap.size) ({ i with op := 49 + fld w 20 20, rd := fld w 15 12, crn := fld w 19 16, op1 := fld w 23 21, crm := fld w 3 0, op2 := fld w 7 5 } : Ins) rfl ((((((hA.set_ 1 _).set_ 4 _).set_ 16 _).set_ 17 _).set_ 18 _).set_ 19 _) ?_) | (refine wpList_store_ins rfl (.tmp 4) (.tmp 81) rfl (W.heap.size + 1) ({ i with op := 49 + fld w 20 20, rd := fld w 15 12, crn := fld w 19 16, op1 := fld w 23 21, crm := fld w 3 0, op2 := fld w 7 5 } : Ins) zIns rfl rfl ((((((hZ.far (by simp) _).far (by simp) _).far (by simp) _).far (by simp) _).far (by simp) _).far (by simp) _) ?_; intro w8 B8 g8))
  refine ret_ins 4 (W.heap.size + 1) ({ i with op := 49 + fld w 20 20, rd := fld w 15 12, crn := fld w 19 16, op1 := fld w 23 21, crm := fld w 3 0, op2 := fld w 7 5 } : Ins) rfl rfl B8 rfl ⟨rfl, ?_⟩
  exact bgrow ((((((hB.setCell (Nat.le_refl _) _).setCell (Nat.le_refl _) _).setCell (Nat.le_refl _) _).setCell (Nat.le_refl _) _).setCell (Nat.le_refl _) _).setCell (Nat.le_refl _) _) g8 (by omega)
theorem rest_15 (w : Int) (h0 : 0 ≤ w) (h1 : w < 4294967296) (i : Ins) (W : World) (hk : fld w 27 24 = 15) :
    Calls Try.prog 44 #[.int .u32 w, (.agg (insA i))] W fun e w' => e = .returned (.agg (insCells ({ i with op := 45, imm := fld w 23 0 } : Ins)).toArray) ∧ Below W.heap.size W w' := by
  have G := Lib.hid (fun hi lo hl hm hh W => get_any w h0 h1 hi lo hl hm hh W)
  have B := Lib.hid (fun i hl hh W => bit_any w h0 h1 i hl hh W)
  obtain ⟨hA, hZ, hB⟩ := ins_two i W
  go_enter Try.func44, Try.ntmps44
  go_upto_region 1 with fail
  generalize (W.alloc (.cells (insA i) 61)).alloc (.cells zInsA 61) = W2 at hA hZ hB ⊢
  generalize Value.agg (insA i) = vi
  obtain ⟨c0, c1, c2, c3, c4, c5, c6, c7, c8, c9, c10, c11, c12, c13, c14, c15, c16, c17, c18, c19⟩ := ins_at (hA)
  have hf := hA.frozen
  have b23 := fld_le w 23 0
  have b23a : 0 ≤ fld w 23 0 := b23.1
  have b23b : fld w 23 0 < 16777216 := by have := b23.2; simpa using this
  clear b23
  go_upto_region 23 with (first | (first | (go_at_call 38; with_reducible refine (G.out _ _ ?_ ?_ ?_ _).mono ?_; (any_goals (first | omega | decide)); rintro e w' ⟨rfl, rfl⟩) | (go_at_call 41; with_reducible refine (B.out _ ?_ ?_ _).mono ?_; (any_goals (first | omega | decide)); rintro e w' ⟨rfl, rfl⟩) | (go_at_call 76; with_reducible refine (compares_is _ _).mono ?_; rintro e w' ⟨rfl, rfl⟩) | (go_at_call 77; with_reducible refine (moves_is _ _).mono ?_; rintro e w' ⟨rfl, rfl⟩)) | (go_at_call 61; with_reducible refine (small_is _ _).mono ?_; rintro e w' ⟨rfl, rfl⟩) | (go_at_call 75; with_reducible refine (half_is _ _ ?_ ?_ _).mono ?_; (any_goals (first | omega | assumption)); rintro e w' ⟨rfl, rfl⟩))
  go_wp2_with (first | (refine wpList_load_ins rfl (.tmp 3) rfl (W.heap.size) ({ i with op := 45, imm := fld w 23 0 } : Ins) rfl ((hA.set_ 1 _).set_ 9 _) ?_) | (refine wpList_store_ins rfl (.tmp 4) (.tmp 81) rfl (W.heap.size + 1) ({ i with op := 45, imm := fld w 23 0 } : Ins) zIns rfl rfl ((hZ.far (by simp) _).far (by simp) _) ?_; intro w8 B8 g8))
  refine ret_ins 4 (W.heap.size + 1) ({ i with op := 45, imm := fld w 23 0 } : Ins) rfl rfl B8 rfl ⟨rfl, ?_⟩
  exact bgrow ((hB.setCell (Nat.le_refl _) _).setCell (Nat.le_refl _) _) g8 (by omega)
theorem rest_no (w : Int) (h0 : 0 ≤ w) (h1 : w < 4294967296) (i : Ins) (W : World) (k8 : (fld w 27 24 == 8) = false) (k9 : (fld w 27 24 == 9) = false) (k10 : (fld w 27 24 == 10) = false) (k11 : (fld w 27 24 == 11) = false) (k14 : (fld w 27 24 == 14) = false) (k15 : (fld w 27 24 == 15) = false) :
    Calls Try.prog 44 #[.int .u32 w, (.agg (insA i))] W fun e w' => e = .returned (.agg (insCells zIns).toArray) ∧ Below W.heap.size W w' := by
  have G := Lib.hid (fun hi lo hl hm hh W => get_any w h0 h1 hi lo hl hm hh W)
  have B := Lib.hid (fun i hl hh W => bit_any w h0 h1 i hl hh W)
  obtain ⟨hA, hZ, hB⟩ := ins_two i W
  go_enter Try.func44, Try.ntmps44
  go_upto_region 1 with fail
  generalize (W.alloc (.cells (insA i) 61)).alloc (.cells zInsA 61) = W2 at hA hZ hB ⊢
  generalize Value.agg (insA i) = vi
  obtain ⟨c0, c1, c2, c3, c4, c5, c6, c7, c8, c9, c10, c11, c12, c13, c14, c15, c16, c17, c18, c19⟩ := ins_at (hA)
  have hf := hA.frozen
  go_upto_region 2 with (first | (first | (go_at_call 38; with_reducible refine (G.out _ _ ?_ ?_ ?_ _).mono ?_; (any_goals (first | omega | decide)); rintro e w' ⟨rfl, rfl⟩) | (go_at_call 41; with_reducible refine (B.out _ ?_ ?_ _).mono ?_; (any_goals (first | omega | decide)); rintro e w' ⟨rfl, rfl⟩) | (go_at_call 76; with_reducible refine (compares_is _ _).mono ?_; rintro e w' ⟨rfl, rfl⟩) | (go_at_call 77; with_reducible refine (moves_is _ _).mono ?_; rintro e w' ⟨rfl, rfl⟩)) | (go_at_call 61; with_reducible refine (small_is _ _).mono ?_; rintro e w' ⟨rfl, rfl⟩) | (go_at_call 75; with_reducible refine (half_is _ _ ?_ ?_ _).mono ?_; (any_goals (first | omega | assumption)); rintro e w' ⟨rfl, rfl⟩))
  go_wp2_with (refine wpList_store_ins rfl (.tmp 4) (.tmp 7) rfl (W.heap.size + 1) zIns zIns rfl rfl hZ ?_; intro w8 B8 g8)
  refine ret_ins 4 (W.heap.size + 1) zIns rfl rfl B8 rfl ⟨rfl, ?_⟩
  exact bgrow hB g8 (by omega)
end Go.Proofs.Ytpfhplhamnohjaa
