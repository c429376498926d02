/- Layer 19: halves, single loads and stores, and what widens. -/
import Derived.Test.YtpfhplhamnohjaaUIscm
namespace Go.Proofs.Ytpfhplhamnohjaa
set_option maxHeartbeats 25600000
set_option maxRecDepth 100000
open Go.RowKit

theorem halves_1 (w : Int) (h0 : 0 ≤ w) (h1 : w < 4294967296) (i : Ins) (W : World) (p1 : bt w 22 = true) (p2 : (halfOp (bt w 20) (fld w 6 5) == 0) = false) :
    Calls Try.prog 58 #[.int .u32 w, (.agg (insA i))] W fun e w' => e = .returned (.agg (insCells ({ i with op := halfOp (bt w 20) (fld w 6 5), pre := bt w 24, up := bt w 23, write := bt w 21, rn := fld w 19 16, rd := fld w 15 12, form := 1, imm := immI w 11 8 } : Ins)).toArray) ∧ Below W.heap.size W w' := by
  have G := Lib.hid (fun hi lo hl hm hh W => get_any w h0 h1 hi lo hl hm hh W)
  have B := Lib.hid (fun i hl hh W => bit_any w h0 h1 i hl hh W)
  obtain ⟨hA, hZ, hB⟩ := ins_two i W
  go_enter Try.func58, Try.ntmps58
  go_upto_region 1 with fail
  generalize (W.alloc (.cells (insA i) 61)).alloc (.cells zInsA 61) = W2 at hA hZ hB ⊢
  generalize Value.agg (insA i) = vi
  obtain ⟨c0, c1, c2, c3, c4, c5, c6, c7, c8, c9, c10, c11, c12, c13, c14, c15, c16, c17, c18, c19⟩ := ins_at (hA)
  have hf := hA.frozen
  have b65 := fld_le w 6 5
  have b65a : 0 ≤ fld w 6 5 := b65.1
  have b65b : fld w 6 5 < 4 := by have := b65.2; simpa using this
  clear b65
  go_upto_region 13 with (first | (first | (go_at_call 38; with_reducible refine (G.out _ _ ?_ ?_ ?_ _).mono ?_; (any_goals (first | omega | decide)); rintro e w' ⟨rfl, rfl⟩) | (go_at_call 41; with_reducible refine (B.out _ ?_ ?_ _).mono ?_; (any_goals (first | omega | decide)); rintro e w' ⟨rfl, rfl⟩) | (go_at_call 76; with_reducible refine (compares_is _ _).mono ?_; rintro e w' ⟨rfl, rfl⟩) | (go_at_call 77; with_reducible refine (moves_is _ _).mono ?_; rintro e w' ⟨rfl, rfl⟩)) | (go_at_call 61; with_reducible refine (small_is _ _).mono ?_; rintro e w' ⟨rfl, rfl⟩) | (go_at_call 75; with_reducible refine (half_is _ _ ?_ ?_ _).mono ?_; (any_goals (first | omega | assumption)); rintro e w' ⟨rfl, rfl⟩))
  go_wp2_with (first | (refine wpList_load_ins rfl (.tmp 3) rfl (W.heap.size) ({ i with op := halfOp (bt w 20) (fld w 6 5), pre := bt w 24, up := bt w 23, write := bt w 21, rn := fld w 19 16, rd := fld w 15 12, form := 1, imm := immI w 11 8 } : Ins) rfl ((((((((hA.set_ 1 _).set_ 12 _).set_ 13 _).set_ 14 _).set_ 5 _).set_ 4 _).set_ 3 _).set_ 9 _) ?_) | (refine wpList_store_ins rfl (.tmp 4) (.tmp 49) rfl (W.heap.size + 1) ({ i with op := halfOp (bt w 20) (fld w 6 5), pre := bt w 24, up := bt w 23, write := bt w 21, rn := fld w 19 16, rd := fld w 15 12, form := 1, imm := immI w 11 8 } : Ins) zIns rfl rfl ((((((((hZ.far (by simp) _).far (by simp) _).far (by simp) _).far (by simp) _).far (by simp) _).far (by simp) _).far (by simp) _).far (by simp) _) ?_; intro w8 B8 g8))
  refine ret_ins 4 (W.heap.size + 1) ({ i with op := halfOp (bt w 20) (fld w 6 5), pre := bt w 24, up := bt w 23, write := bt w 21, rn := fld w 19 16, rd := fld w 15 12, form := 1, imm := immI w 11 8 } : Ins) rfl rfl B8 rfl ⟨rfl, ?_⟩
  exact bgrow ((((((((hB.setCell (Nat.le_refl _) _).setCell (Nat.le_refl _) _).setCell (Nat.le_refl _) _).setCell (Nat.le_refl _) _).setCell (Nat.le_refl _) _).setCell (Nat.le_refl _) _).setCell (Nat.le_refl _) _).setCell (Nat.le_refl _) _) g8 (by omega)
theorem halves_2 (w : Int) (h0 : 0 ≤ w) (h1 : w < 4294967296) (i : Ins) (W : World) (p1 : bt w 22 = true) (p2 : (halfOp (bt w 20) (fld w 6 5) == 0) = true) :
    Calls Try.prog 58 #[.int .u32 w, (.agg (insA i))] W fun e w' => e = .returned (.agg (insCells zIns).toArray) ∧ Below W.heap.size W w' := by
  have G := Lib.hid (fun hi lo hl hm hh W => get_any w h0 h1 hi lo hl hm hh W)
  have B := Lib.hid (fun i hl hh W => bit_any w h0 h1 i hl hh W)
  obtain ⟨hA, hZ, hB⟩ := ins_two i W
  go_enter Try.func58, Try.ntmps58
  go_upto_region 1 with fail
  generalize (W.alloc (.cells (insA i) 61)).alloc (.cells zInsA 61) = W2 at hA hZ hB ⊢
  generalize Value.agg (insA i) = vi
  obtain ⟨c0, c1, c2, c3, c4, c5, c6, c7, c8, c9, c10, c11, c12, c13, c14, c15, c16, c17, c18, c19⟩ := ins_at (hA)
  have hf := hA.frozen
  have b65 := fld_le w 6 5
  have b65a : 0 ≤ fld w 6 5 := b65.1
  have b65b : fld w 6 5 < 4 := by have := b65.2; simpa using this
  clear b65
  go_upto_region 12 with (first | (first | (go_at_call 38; with_reducible refine (G.out _ _ ?_ ?_ ?_ _).mono ?_; (any_goals (first | omega | decide)); rintro e w' ⟨rfl, rfl⟩) | (go_at_call 41; with_reducible refine (B.out _ ?_ ?_ _).mono ?_; (any_goals (first | omega | decide)); rintro e w' ⟨rfl, rfl⟩) | (go_at_call 76; with_reducible refine (compares_is _ _).mono ?_; rintro e w' ⟨rfl, rfl⟩) | (go_at_call 77; with_reducible refine (moves_is _ _).mono ?_; rintro e w' ⟨rfl, rfl⟩)) | (go_at_call 61; with_reducible refine (small_is _ _).mono ?_; rintro e w' ⟨rfl, rfl⟩) | (go_at_call 75; with_reducible refine (half_is _ _ ?_ ?_ _).mono ?_; (any_goals (first | omega | assumption)); rintro e w' ⟨rfl, rfl⟩))
  go_wp2_with (refine wpList_store_ins rfl (.tmp 4) (.tmp 48) rfl (W.heap.size + 1) zIns zIns rfl rfl ((((((((hZ.far (by simp) _).far (by simp) _).far (by simp) _).far (by simp) _).far (by simp) _).far (by simp) _).far (by simp) _).far (by simp) _) ?_; intro w8 B8 g8)
  refine ret_ins 4 (W.heap.size + 1) zIns rfl rfl B8 rfl ⟨rfl, ?_⟩
  exact bgrow ((((((((hB.setCell (Nat.le_refl _) _).setCell (Nat.le_refl _) _).setCell (Nat.le_refl _) _).setCell (Nat.le_refl _) _).setCell (Nat.le_refl _) _).setCell (Nat.le_refl _) _).setCell (Nat.le_refl _) _).setCell (Nat.le_refl _) _) g8 (by omega)
theorem halves_3 (w : Int) (h0 : 0 ≤ w) (h1 : w < 4294967296) (i : Ins) (W : World) (p1 : bt w 22 = false) (p3 : (fld w 11 8 != 0) = true) :
    Calls Try.prog 58 #[.int .u32 w, (.agg (insA i))] W fun e w' => e = .returned (.agg (insCells zIns).toArray) ∧ Below W.heap.size W w' := by
  have G := Lib.hid (fun hi lo hl hm hh W => get_any w h0 h1 hi lo hl hm hh W)
  have B := Lib.hid (fun i hl hh W => bit_any w h0 h1 i hl hh W)
  obtain ⟨hA, hZ, hB⟩ := ins_two i W
  go_enter Try.func58, Try.ntmps58
  go_upto_region 1 with fail
  generalize (W.alloc (.cells (insA i) 61)).alloc (.cells zInsA 61) = W2 at hA hZ hB ⊢
  generalize Value.agg (insA i) = vi
  obtain ⟨c0, c1, c2, c3, c4, c5, c6, c7, c8, c9, c10, c11, c12, c13, c14, c15, c16, c17, c18, c19⟩ := ins_at (hA)
  have hf := hA.frozen
  have b65 := fld_le w 6 5
  have b65a : 0 ≤ fld w 6 5 := b65.1
  have b65b : fld w 6 5 < 4 := by have := b65.2; simpa using this
  clear b65
  go_upto_region 10 with (first | (first | (go_at_call 38; with_reducible refine (G.out _ _ ?_ ?_ ?_ _).mono ?_; (any_goals (first | omega | decide)); rintro e w' ⟨rfl, rfl⟩) | (go_at_call 41; with_reducible refine (B.out _ ?_ ?_ _).mono ?_; (any_goals (first | omega | decide)); rintro e w' ⟨rfl, rfl⟩) | (go_at_call 76; with_reducible refine (compares_is _ _).mono ?_; rintro e w' ⟨rfl, rfl⟩) | (go_at_call 77; with_reducible refine (moves_is _ _).mono ?_; rintro e w' ⟨rfl, rfl⟩)) | (go_at_call 61; with_reducible refine (small_is _ _).mono ?_; rintro e w' ⟨rfl, rfl⟩) | (go_at_call 75; with_reducible refine (half_is _ _ ?_ ?_ _).mono ?_; (any_goals (first | omega | assumption)); rintro e w' ⟨rfl, rfl⟩))
  go_wp2_with (refine wpList_store_ins rfl (.tmp 4) (.tmp 44) rfl (W.heap.size + 1) zIns zIns rfl rfl ((((((((hZ.far (by simp) _).far (by simp) _).far (by simp) _).far (by simp) _).far (by simp) _).far (by simp) _).far (by simp) _).far (by simp) _) ?_; intro w8 B8 g8)
  refine ret_ins 4 (W.heap.size + 1) zIns rfl rfl B8 rfl ⟨rfl, ?_⟩
  exact bgrow ((((((((hB.setCell (Nat.le_refl _) _).setCell (Nat.le_refl _) _).setCell (Nat.le_refl _) _).setCell (Nat.le_refl _) _).setCell (Nat.le_refl _) _).setCell (Nat.le_refl _) _).setCell (Nat.le_refl _) _).setCell (Nat.le_refl _) _) g8 (by omega)
theorem halves_4 (w : Int) (h0 : 0 ≤ w) (h1 : w < 4294967296) (i : Ins) (W : World) (p1 : bt w 22 = false) (p3 : (fld w 11 8 != 0) = false) (p2 : (halfOp (bt w 20) (fld w 6 5) == 0) = true) :
    Calls Try.prog 58 #[.int .u32 w, (.agg (insA i))] W fun e w' => e = .returned (.agg (insCells zIns).toArray) ∧ Below W.heap.size W w' := by
  have G := Lib.hid (fun hi lo hl hm hh W => get_any w h0 h1 hi lo hl hm hh W)
  have B := Lib.hid (fun i hl hh W => bit_any w h0 h1 i hl hh W)
  obtain ⟨hA, hZ, hB⟩ := ins_two i W
  go_enter Try.func58, Try.ntmps58
  go_upto_region 1 with fail
  generalize (W.alloc (.cells (insA i) 61)).alloc (.cells zInsA 61) = W2 at hA hZ hB ⊢
  generalize Value.agg (insA i) = vi
  obtain ⟨c0, c1, c2, c3, c4, c5, c6, c7, c8, c9, c10, c11, c12, c13, c14, c15, c16, c17, c18, c19⟩ := ins_at (hA)
  have hf := hA.frozen
  have b65 := fld_le w 6 5
  have b65a : 0 ≤ fld w 6 5 := b65.1
  have b65b : fld w 6 5 < 4 := by have := b65.2; simpa using this
  clear b65
  go_upto_region 12 with (first | (first | (go_at_call 38; with_reducible refine (G.out _ _ ?_ ?_ ?_ _).mono ?_; (any_goals (first | omega | decide)); rintro e w' ⟨rfl, rfl⟩) | (go_at_call 41; with_reducible refine (B.out _ ?_ ?_ _).mono ?_; (any_goals (first | omega | decide)); rintro e w' ⟨rfl, rfl⟩) | (go_at_call 76; with_reducible refine (compares_is _ _).mono ?_; rintro e w' ⟨rfl, rfl⟩) | (go_at_call 77; with_reducible refine (moves_is _ _).mono ?_; rintro e w' ⟨rfl, rfl⟩)) | (go_at_call 61; with_reducible refine (small_is _ _).mono ?_; rintro e w' ⟨rfl, rfl⟩) | (go_at_call 75; with_reducible refine (half_is _ _ ?_ ?_ _).mono ?_; (any_goals (first | omega | assumption)); rintro e w' ⟨rfl, rfl⟩))
  go_wp2_with (refine wpList_store_ins rfl (.tmp 4) (.tmp 48) rfl (W.heap.size + 1) zIns zIns rfl rfl ((((((((hZ.far (by simp) _).far (by simp) _).far (by simp) _).far (by simp) _).far (by simp) _).far (by simp) _).far (by simp) _).far (by simp) _) ?_; intro w8 B8 g8)
  refine ret_ins 4 (W.heap.size + 1) zIns rfl rfl B8 rfl ⟨rfl, ?_⟩
  exact bgrow ((((((((hB.setCell (Nat.le_refl _) _).setCell (Nat.le_refl _) _).setCell (Nat.le_refl _) _).setCell (Nat.le_refl _) _).setCell (Nat.le_refl _) _).setCell (Nat.le_refl _) _).setCell (Nat.le_refl _) _).setCell (Nat.le_refl _) _) g8 (by omega)
theorem halves_5 (w : Int) (h0 : 0 ≤ w) (h1 : w < 4294967296) (i : Ins) (W : World) (p1 : bt w 22 = false) (p3 : (fld w 11 8 != 0) = false) (p2 : (halfOp (bt w 20) (fld w 6 5) == 0) = false) :
    Calls Try.prog 58 #[.int .u32 w, (.agg (insA i))] W fun e w' => e = .returned (.agg (insCells ({ i with op := halfOp (bt w 20) (fld w 6 5), pre := bt w 24, up := bt w 23, write := bt w 21, rn := fld w 19 16, rd := fld w 15 12, form := 2, rm := fld w 3 0 } : Ins)).toArray) ∧ Below W.heap.size W w' := by
  have G := Lib.hid (fun hi lo hl hm hh W => get_any w h0 h1 hi lo hl hm hh W)
  have B := Lib.hid (fun i hl hh W => bit_any w h0 h1 i hl hh W)
  obtain ⟨hA, hZ, hB⟩ := ins_two i W
  go_enter Try.func58, Try.ntmps58
  go_upto_region 1 with fail
  generalize (W.alloc (.cells (insA i) 61)).alloc (.cells zInsA 61) = W2 at hA hZ hB ⊢
  generalize Value.agg (insA i) = vi
  obtain ⟨c0, c1, c2, c3, c4, c5, c6, c7, c8, c9, c10, c11, c12, c13, c14, c15, c16, c17, c18, c19⟩ := ins_at (hA)
  have hf := hA.frozen
  have b65 := fld_le w 6 5
  have b65a : 0 ≤ fld w 6 5 := b65.1
  have b65b : fld w 6 5 < 4 := by have := b65.2; simpa using this
  clear b65
  go_upto_region 13 with (first | (first | (go_at_call 38; with_reducible refine (G.out _ _ ?_ ?_ ?_ _).mono ?_; (any_goals (first | omega | decide)); rintro e w' ⟨rfl, rfl⟩) | (go_at_call 41; with_reducible refine (B.out _ ?_ ?_ _).mono ?_; (any_goals (first | omega | decide)); rintro e w' ⟨rfl, rfl⟩) | (go_at_call 76; with_reducible refine (compares_is _ _).mono ?_; rintro e w' ⟨rfl, rfl⟩) | (go_at_call 77; with_reducible refine (moves_is _ _).mono ?_; rintro e w' ⟨rfl, rfl⟩)) | (go_at_call 61; with_reducible refine (small_is _ _).mono ?_; rintro e w' ⟨rfl, rfl⟩) | (go_at_call 75; with_reducible refine (half_is _ _ ?_ ?_ _).mono ?_; (any_goals (first | omega | assumption)); rintro e w' ⟨rfl, rfl⟩))
  go_wp2_with (first | (refine wpList_load_ins rfl (.tmp 3) rfl (W.heap.size) ({ i with op := halfOp (bt w 20) (fld w 6 5), pre := bt w 24, up := bt w 23, write := bt w 21, rn := fld w 19 16, rd := fld w 15 12, form := 2, rm := fld w 3 0 } : Ins) rfl ((((((((hA.set_ 1 _).set_ 12 _).set_ 13 _).set_ 14 _).set_ 5 _).set_ 4 _).set_ 3 _).set_ 6 _) ?_) | (refine wpList_store_ins rfl (.tmp 4) (.tmp 49) rfl (W.heap.size + 1) ({ i with op := halfOp (bt w 20) (fld w 6 5), pre := bt w 24, up := bt w 23, write := bt w 21, rn := fld w 19 16, rd := fld w 15 12, form := 2, rm := fld w 3 0 } : Ins) zIns rfl rfl ((((((((hZ.far (by simp) _).far (by simp) _).far (by simp) _).far (by simp) _).far (by simp) _).far (by simp) _).far (by simp) _).far (by simp) _) ?_; intro w8 B8 g8))
  refine ret_ins 4 (W.heap.size + 1) ({ i with op := halfOp (bt w 20) (fld w 6 5), pre := bt w 24, up := bt w 23, write := bt w 21, rn := fld w 19 16, rd := fld w 15 12, form := 2, rm := fld w 3 0 } : Ins) rfl rfl B8 rfl ⟨rfl, ?_⟩
  exact bgrow ((((((((hB.setCell (Nat.le_refl _) _).setCell (Nat.le_refl _) _).setCell (Nat.le_refl _) _).setCell (Nat.le_refl _) _).setCell (Nat.le_refl _) _).setCell (Nat.le_refl _) _).setCell (Nat.le_refl _) _).setCell (Nat.le_refl _) _) g8 (by omega)
theorem media_1 (w : Int) (h0 : 0 ≤ w) (h1 : w < 4294967296) (i : Ins) (W : World) (p1 : (bits .and .u32 w 268374000 == 113184560) = true) :
    Calls Try.prog 42 #[.int .u32 w, (.agg (insA i))] W fun e w' => e = .returned (.agg (insCells ({ i with rd := fld w 15 12, rm := fld w 3 0, op := 26 } : Ins)).toArray) ∧ Below W.heap.size W w' := by
  have G := Lib.hid (fun hi lo hl hm hh W => get_any w h0 h1 hi lo hl hm hh W)
  have B := Lib.hid (fun i hl hh W => bit_any w h0 h1 i hl hh W)
  obtain ⟨hA, hZ, hB⟩ := ins_two i W
  go_enter Try.func42, Try.ntmps42
  go_upto_region 1 with fail
  generalize (W.alloc (.cells (insA i) 61)).alloc (.cells zInsA 61) = W2 at hA hZ hB ⊢
  generalize Value.agg (insA i) = vi
  obtain ⟨c0, c1, c2, c3, c4, c5, c6, c7, c8, c9, c10, c11, c12, c13, c14, c15, c16, c17, c18, c19⟩ := ins_at (hA)
  have hf := hA.frozen
  go_upto_region 7 with (first | (first | (go_at_call 38; with_reducible refine (G.out _ _ ?_ ?_ ?_ _).mono ?_; (any_goals (first | omega | decide)); rintro e w' ⟨rfl, rfl⟩) | (go_at_call 41; with_reducible refine (B.out _ ?_ ?_ _).mono ?_; (any_goals (first | omega | decide)); rintro e w' ⟨rfl, rfl⟩) | (go_at_call 76; with_reducible refine (compares_is _ _).mono ?_; rintro e w' ⟨rfl, rfl⟩) | (go_at_call 77; with_reducible refine (moves_is _ _).mono ?_; rintro e w' ⟨rfl, rfl⟩)) | (go_at_call 61; with_reducible refine (small_is _ _).mono ?_; rintro e w' ⟨rfl, rfl⟩) | (go_at_call 75; with_reducible refine (half_is _ _ ?_ ?_ _).mono ?_; (any_goals (first | omega | assumption)); rintro e w' ⟨rfl, rfl⟩))
  go_wp2_with (first | (refine wpList_load_ins rfl (.tmp 3) rfl (W.heap.size) ({ i with rd := fld w 15 12, rm := fld w 3 0, op := 26 } : Ins) rfl (((hA.set_ 4 _).set_ 6 _).set_ 1 _) ?_) | (refine wpList_store_ins rfl (.tmp 4) (.tmp 39) rfl (W.heap.size + 1) ({ i with rd := fld w 15 12, rm := fld w 3 0, op := 26 } : Ins) zIns rfl rfl (((hZ.far (by simp) _).far (by simp) _).far (by simp) _) ?_; intro w8 B8 g8))
  refine ret_ins 4 (W.heap.size + 1) ({ i with rd := fld w 15 12, rm := fld w 3 0, op := 26 } : Ins) rfl rfl B8 rfl ⟨rfl, ?_⟩
  exact bgrow (((hB.setCell (Nat.le_refl _) _).setCell (Nat.le_refl _) _).setCell (Nat.le_refl _) _) g8 (by omega)
theorem media_2 (w : Int) (h0 : 0 ≤ w) (h1 : w < 4294967296) (i : Ins) (W : World) (p1 : (bits .and .u32 w 268374000 == 113184560) = false) (p2 : (bits .and .u32 w 261030896 == 110035056) = true) (p3 : (fld w 19 16 == 15) = true) (p4 : (smallI (fld w 22 20) != 0) = true) :
    Calls Try.prog 42 #[.int .u32 w, (.agg (insA i))] W fun e w' => e = .returned (.agg (insCells ({ i with rd := fld w 15 12, rm := fld w 3 0, op := smallI (fld w 22 20), amount := fld w 11 10 } : Ins)).toArray) ∧ Below W.heap.size W w' := by
  have G := Lib.hid (fun hi lo hl hm hh W => get_any w h0 h1 hi lo hl hm hh W)
  have B := Lib.hid (fun i hl hh W => bit_any w h0 h1 i hl hh W)
  obtain ⟨hA, hZ, hB⟩ := ins_two i W
  go_enter Try.func42, Try.ntmps42
  go_upto_region 1 with fail
  generalize (W.alloc (.cells (insA i) 61)).alloc (.cells zInsA 61) = W2 at hA hZ hB ⊢
  generalize Value.agg (insA i) = vi
  obtain ⟨c0, c1, c2, c3, c4, c5, c6, c7, c8, c9, c10, c11, c12, c13, c14, c15, c16, c17, c18, c19⟩ := ins_at (hA)
  have hf := hA.frozen
  go_upto_region 7 with (first | (first | (go_at_call 38; with_reducible refine (G.out _ _ ?_ ?_ ?_ _).mono ?_; (any_goals (first | omega | decide)); rintro e w' ⟨rfl, rfl⟩) | (go_at_call 41; with_reducible refine (B.out _ ?_ ?_ _).mono ?_; (any_goals (first | omega | decide)); rintro e w' ⟨rfl, rfl⟩) | (go_at_call 76; with_reducible refine (compares_is _ _).mono ?_; rintro e w' ⟨rfl, rfl⟩) | (go_at_call 77; with_reducible refine (moves_is _ _).mono ?_; rintro e w' ⟨rfl, rfl⟩)) | (go_at_call 61; with_reducible refine (small_is _ _).mono ?_; rintro e w' ⟨rfl, rfl⟩) | (go_at_call 75; with_reducible refine (half_is _ _ ?_ ?_ _).mono ?_; (any_goals (first | omega | assumption)); rintro e w' ⟨rfl, rfl⟩))
  go_wp2_with (first | (refine wpList_load_ins rfl (.tmp 3) rfl (W.heap.size) ({ i with rd := fld w 15 12, rm := fld w 3 0, op := smallI (fld w 22 20), amount := fld w 11 10 } : Ins) rfl ((((hA.set_ 4 _).set_ 6 _).set_ 1 _).set_ 11 _) ?_) | (refine wpList_store_ins rfl (.tmp 4) (.tmp 39) rfl (W.heap.size + 1) ({ i with rd := fld w 15 12, rm := fld w 3 0, op := smallI (fld w 22 20), amount := fld w 11 10 } : Ins) zIns rfl rfl ((((hZ.far (by simp) _).far (by simp) _).far (by simp) _).far (by simp) _) ?_; intro w8 B8 g8))
  refine ret_ins 4 (W.heap.size + 1) ({ i with rd := fld w 15 12, rm := fld w 3 0, op := smallI (fld w 22 20), amount := fld w 11 10 } : Ins) rfl rfl B8 rfl ⟨rfl, ?_⟩
  exact bgrow ((((hB.setCell (Nat.le_refl _) _).setCell (Nat.le_refl _) _).setCell (Nat.le_refl _) _).setCell (Nat.le_refl _) _) g8 (by omega)
theorem media_3a (w : Int) (h0 : 0 ≤ w) (h1 : w < 4294967296) (i : Ins) (W : World) (p1 : (bits .and .u32 w 268374000 == 113184560) = false) (p2 : (bits .and .u32 w 261030896 == 110035056) = false) :
    Calls Try.prog 42 #[.int .u32 w, (.agg (insA i))] W fun e w' => e = .returned (.agg (insCells zIns).toArray) ∧ Below W.heap.size W w' := by
  have G := Lib.hid (fun hi lo hl hm hh W => get_any w h0 h1 hi lo hl hm hh W)
  have B := Lib.hid (fun i hl hh W => bit_any w h0 h1 i hl hh W)
  obtain ⟨hA, hZ, hB⟩ := ins_two i W
  go_enter Try.func42, Try.ntmps42
  go_upto_region 1 with fail
  generalize (W.alloc (.cells (insA i) 61)).alloc (.cells zInsA 61) = W2 at hA hZ hB ⊢
  generalize Value.agg (insA i) = vi
  obtain ⟨c0, c1, c2, c3, c4, c5, c6, c7, c8, c9, c10, c11, c12, c13, c14, c15, c16, c17, c18, c19⟩ := ins_at (hA)
  have hf := hA.frozen
  go_upto_region 2 with (first | (first | (go_at_call 38; with_reducible refine (G.out _ _ ?_ ?_ ?_ _).mono ?_; (any_goals (first | omega | decide)); rintro e w' ⟨rfl, rfl⟩) | (go_at_call 41; with_reducible refine (B.out _ ?_ ?_ _).mono ?_; (any_goals (first | omega | decide)); rintro e w' ⟨rfl, rfl⟩) | (go_at_call 76; with_reducible refine (compares_is _ _).mono ?_; rintro e w' ⟨rfl, rfl⟩) | (go_at_call 77; with_reducible refine (moves_is _ _).mono ?_; rintro e w' ⟨rfl, rfl⟩)) | (go_at_call 61; with_reducible refine (small_is _ _).mono ?_; rintro e w' ⟨rfl, rfl⟩) | (go_at_call 75; with_reducible refine (half_is _ _ ?_ ?_ _).mono ?_; (any_goals (first | omega | assumption)); rintro e w' ⟨rfl, rfl⟩))
  go_wp2_with (refine wpList_store_ins rfl (.tmp 4) (.tmp 11) rfl (W.heap.size + 1) zIns zIns rfl rfl ((hZ.far (by simp) _).far (by simp) _) ?_; intro w8 B8 g8)
  refine ret_ins 4 (W.heap.size + 1) zIns rfl rfl B8 rfl ⟨rfl, ?_⟩
  exact bgrow ((hB.setCell (Nat.le_refl _) _).setCell (Nat.le_refl _) _) g8 (by omega)
theorem media_3b (w : Int) (h0 : 0 ≤ w) (h1 : w < 4294967296) (i : Ins) (W : World) (p1 : (bits .and .u32 w 268374000 == 113184560) = false) (p2 : (bits .and .u32 w 261030896 == 110035056) = true) (p3 : (fld w 19 16 == 15) = false) :
    Calls Try.prog 42 #[.int .u32 w, (.agg (insA i))] W fun e w' => e = .returned (.agg (insCells zIns).toArray) ∧ Below W.heap.size W w' := by
  have G := Lib.hid (fun hi lo hl hm hh W => get_any w h0 h1 hi lo hl hm hh W)
  have B := Lib.hid (fun i hl hh W => bit_any w h0 h1 i hl hh W)
  obtain ⟨hA, hZ, hB⟩ := ins_two i W
  go_enter Try.func42, Try.ntmps42
  go_upto_region 1 with fail
  generalize (W.alloc (.cells (insA i) 61)).alloc (.cells zInsA 61) = W2 at hA hZ hB ⊢
  generalize Value.agg (insA i) = vi
  obtain ⟨c0, c1, c2, c3, c4, c5, c6, c7, c8, c9, c10, c11, c12, c13, c14, c15, c16, c17, c18, c19⟩ := ins_at (hA)
  have hf := hA.frozen
  go_upto_region 2 with (first | (first | (go_at_call 38; with_reducible refine (G.out _ _ ?_ ?_ ?_ _).mono ?_; (any_goals (first | omega | decide)); rintro e w' ⟨rfl, rfl⟩) | (go_at_call 41; with_reducible refine (B.out _ ?_ ?_ _).mono ?_; (any_goals (first | omega | decide)); rintro e w' ⟨rfl, rfl⟩) | (go_at_call 76; with_reducible refine (compares_is _ _).mono ?_; rintro e w' ⟨rfl, rfl⟩) | (go_at_call 77; with_reducible refine (moves_is _ _).mono ?_; rintro e w' ⟨rfl, rfl⟩)) | (go_at_call 61; with_reducible refine (small_is _ _).mono ?_; rintro e w' ⟨rfl, rfl⟩) | (go_at_call 75; with_reducible refine (half_is _ _ ?_ ?_ _).mono ?_; (any_goals (first | omega | assumption)); rintro e w' ⟨rfl, rfl⟩))
  go_wp2_with (refine wpList_store_ins rfl (.tmp 4) (.tmp 11) rfl (W.heap.size + 1) zIns zIns rfl rfl ((hZ.far (by simp) _).far (by simp) _) ?_; intro w8 B8 g8)
  refine ret_ins 4 (W.heap.size + 1) zIns rfl rfl B8 rfl ⟨rfl, ?_⟩
  exact bgrow ((hB.setCell (Nat.le_refl _) _).setCell (Nat.le_refl _) _) g8 (by omega)
theorem media_3c (w : Int) (h0 : 0 ≤ w) (h1 : w < 4294967296) (i : Ins) (W : World) (p1 : (bits .and .u32 w 268374000 == 113184560) = false) (p2 : (bits .and .u32 w 261030896 == 110035056) = true) (p3 : (fld w 19 16 == 15) = true) (p4 : (smallI (fld w 22 20) != 0) = false) :
    Calls Try.prog 42 #[.int .u32 w, (.agg (insA i))] W fun e w' => e = .returned (.agg (insCells zIns).toArray) ∧ Below W.heap.size W w' := by
  have G := Lib.hid (fun hi lo hl hm hh W => get_any w h0 h1 hi lo hl hm hh W)
  have B := Lib.hid (fun i hl hh W => bit_any w h0 h1 i hl hh W)
  obtain ⟨hA, hZ, hB⟩ := ins_two i W
  go_enter Try.func42, Try.ntmps42
  go_upto_region 1 with fail
  generalize (W.alloc (.cells (insA i) 61)).alloc (.cells zInsA 61) = W2 at hA hZ hB ⊢
  generalize Value.agg (insA i) = vi
  obtain ⟨c0, c1, c2, c3, c4, c5, c6, c7, c8, c9, c10, c11, c12, c13, c14, c15, c16, c17, c18, c19⟩ := ins_at (hA)
  have hf := hA.frozen
  go_upto_region 2 with (first | (first | (go_at_call 38; with_reducible refine (G.out _ _ ?_ ?_ ?_ _).mono ?_; (any_goals (first | omega | decide)); rintro e w' ⟨rfl, rfl⟩) | (go_at_call 41; with_reducible refine (B.out _ ?_ ?_ _).mono ?_; (any_goals (first | omega | decide)); rintro e w' ⟨rfl, rfl⟩) | (go_at_call 76; with_reducible refine (compares_is _ _).mono ?_; rintro e w' ⟨rfl, rfl⟩) | (go_at_call 77; with_reducible refine (moves_is _ _).mono ?_; rintro e w' ⟨rfl, rfl⟩)) | (go_at_call 61; with_reducible refine (small_is _ _).mono ?_; rintro e w' ⟨rfl, rfl⟩) | (go_at_call 75; with_reducible refine (half_is _ _ ?_ ?_ _).mono ?_; (any_goals (first | omega | assumption)); rintro e w' ⟨rfl, rfl⟩))
  go_wp2_with (refine wpList_store_ins rfl (.tmp 4) (.tmp 11) rfl (W.heap.size + 1) zIns zIns rfl rfl ((hZ.far (by simp) _).far (by simp) _) ?_; intro w8 B8 g8)
  refine ret_ins 4 (W.heap.size + 1) zIns rfl rfl B8 rfl ⟨rfl, ?_⟩
  exact bgrow ((hB.setCell (Nat.le_refl _) _).setCell (Nat.le_refl _) _) g8 (by omega)
end Go.Proofs.Ytpfhplhamnohjaa
