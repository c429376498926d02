/- Layer 19: the words whose bits 27 to 25 are 1, single loads and stores, and the rest. -/
import Derived.Test.YtpfhplhamnohjaaUIscm
namespace Go.Proofs.Ytpfhplhamnohjaa
set_option maxHeartbeats 25600000
set_option maxRecDepth 100000
open Go.RowKit

theorem second_1a (w : Int) (h0 : 0 ≤ w) (h1 : w < 4294967296) (i : Ins) (W : World) (p1 : (fld w 24 23 != 2) = true) :
    Calls Try.prog 40 #[.int .u32 w, (.agg (insA i))] W fun e w' => e = .returned (.agg (insCells (dataI w ({ i with imm := fld w 11 0, form := 1 } : Ins))).toArray) ∧ Below W.heap.size W w' := by
  have G := Lib.hid (fun hi lo hl hm hh W => get_any w h0 h1 hi lo hl hm hh W)
  have B := Lib.hid (fun i hl hh W => bit_any w h0 h1 i hl hh W)
  obtain ⟨hA, hZ, hB⟩ := ins_two i W
  go_enter Try.func40, Try.ntmps40
  go_upto_region 1 with fail
  generalize (W.alloc (.cells (insA i) 61)).alloc (.cells zInsA 61) = W2 at hA hZ hB ⊢
  generalize Value.agg (insA i) = vi
  obtain ⟨c0, c1, c2, c3, c4, c5, c6, c7, c8, c9, c10, c11, c12, c13, c14, c15, c16, c17, c18, c19⟩ := ins_at (hA)
  have hf := hA.frozen
  have b11 := fld_le w 11 0
  have b11a : 0 ≤ fld w 11 0 := b11.1
  have b11b : fld w 11 0 < 4096 := by have := b11.2; simpa using this
  have b19 := fld_le w 19 16
  have b19a : 0 ≤ fld w 19 16 := b19.1
  have b19b : fld w 19 16 < 16 := by have := b19.2; simpa using this
  clear b11 b19
  go_upto_region 5 with (first | (first | (go_at_call 38; with_reducible refine (G.out _ _ ?_ ?_ ?_ _).mono ?_; (any_goals (first | omega | decide)); rintro e w' ⟨rfl, rfl⟩) | (go_at_call 41; with_reducible refine (B.out _ ?_ ?_ _).mono ?_; (any_goals (first | omega | decide)); rintro e w' ⟨rfl, rfl⟩) | (go_at_call 76; with_reducible refine (compares_is _ _).mono ?_; rintro e w' ⟨rfl, rfl⟩) | (go_at_call 77; with_reducible refine (moves_is _ _).mono ?_; rintro e w' ⟨rfl, rfl⟩)) | (go_at_call 61; with_reducible refine (small_is _ _).mono ?_; rintro e w' ⟨rfl, rfl⟩) | (go_at_call 75; with_reducible refine (half_is _ _ ?_ ?_ _).mono ?_; (any_goals (first | omega | assumption)); rintro e w' ⟨rfl, rfl⟩))
  go_wp2_with (refine wpList_load_ins rfl (.tmp 3) rfl (W.heap.size) ({ i with imm := fld w 11 0, form := 1 } : Ins) rfl ((hA.set_ 9 _).set_ 3 _) ?_)
  refine (data_is w h0 h1 ({ i with imm := fld w 11 0, form := 1 } : Ins) _).mono ?_
  rintro e w7 ⟨rfl, b7⟩
  have hZ7 : Blok w7 (W.heap.size + 1) 61 (insCells zIns) := Blok.below ((hZ.far (by simp) _).far (by simp) _) b7 (Blok.lt ((hZ.far (by simp) _).far (by simp) _))
  have hB7 : Below W.heap.size W w7 := bthen ((hB.setCell (Nat.le_refl _) _).setCell (Nat.le_refl _) _) b7
  go_wp2_with (refine wpList_store_ins rfl (.tmp 4) (.tmp 21) rfl (W.heap.size + 1) (dataI w ({ i with imm := fld w 11 0, form := 1 } : Ins)) zIns rfl rfl hZ7 ?_; intro w8 B8 g8)
  refine ret_ins 4 (W.heap.size + 1) (dataI w ({ i with imm := fld w 11 0, form := 1 } : Ins)) rfl rfl B8 rfl ⟨rfl, ?_⟩
  exact bgrow hB7 g8 (by omega)
theorem second_1b (w : Int) (h0 : 0 ≤ w) (h1 : w < 4294967296) (i : Ins) (W : World) (p1 : (fld w 24 23 != 2) = false) (p2 : bt w 20 = true) :
    Calls Try.prog 40 #[.int .u32 w, (.agg (insA i))] W fun e w' => e = .returned (.agg (insCells (dataI w ({ i with imm := fld w 11 0, form := 1 } : Ins))).toArray) ∧ Below W.heap.size W w' := by
  have G := Lib.hid (fun hi lo hl hm hh W => get_any w h0 h1 hi lo hl hm hh W)
  have B := Lib.hid (fun i hl hh W => bit_any w h0 h1 i hl hh W)
  obtain ⟨hA, hZ, hB⟩ := ins_two i W
  go_enter Try.func40, Try.ntmps40
  go_upto_region 1 with fail
  generalize (W.alloc (.cells (insA i) 61)).alloc (.cells zInsA 61) = W2 at hA hZ hB ⊢
  generalize Value.agg (insA i) = vi
  obtain ⟨c0, c1, c2, c3, c4, c5, c6, c7, c8, c9, c10, c11, c12, c13, c14, c15, c16, c17, c18, c19⟩ := ins_at (hA)
  have hf := hA.frozen
  have b11 := fld_le w 11 0
  have b11a : 0 ≤ fld w 11 0 := b11.1
  have b11b : fld w 11 0 < 4096 := by have := b11.2; simpa using this
  have b19 := fld_le w 19 16
  have b19a : 0 ≤ fld w 19 16 := b19.1
  have b19b : fld w 19 16 < 16 := by have := b19.2; simpa using this
  clear b11 b19
  go_upto_region 5 with (first | (first | (go_at_call 38; with_reducible refine (G.out _ _ ?_ ?_ ?_ _).mono ?_; (any_goals (first | omega | decide)); rintro e w' ⟨rfl, rfl⟩) | (go_at_call 41; with_reducible refine (B.out _ ?_ ?_ _).mono ?_; (any_goals (first | omega | decide)); rintro e w' ⟨rfl, rfl⟩) | (go_at_call 76; with_reducible refine (compares_is _ _).mono ?_; rintro e w' ⟨rfl, rfl⟩) | (go_at_call 77; with_reducible refine (moves_is _ _).mono ?_; rintro e w' ⟨rfl, rfl⟩)) | (go_at_call 61; with_reducible refine (small_is _ _).mono ?_; rintro e w' ⟨rfl, rfl⟩) | (go_at_call 75; with_reducible refine (half_is _ _ ?_ ?_ _).mono ?_; (any_goals (first | omega | assumption)); rintro e w' ⟨rfl, rfl⟩))
  go_wp2_with (refine wpList_load_ins rfl (.tmp 3) rfl (W.heap.size) ({ i with imm := fld w 11 0, form := 1 } : Ins) rfl ((hA.set_ 9 _).set_ 3 _) ?_)
  refine (data_is w h0 h1 ({ i with imm := fld w 11 0, form := 1 } : Ins) _).mono ?_
  rintro e w7 ⟨rfl, b7⟩
  have hZ7 : Blok w7 (W.heap.size + 1) 61 (insCells zIns) := Blok.below ((hZ.far (by simp) _).far (by simp) _) b7 (Blok.lt ((hZ.far (by simp) _).far (by simp) _))
  have hB7 : Below W.heap.size W w7 := bthen ((hB.setCell (Nat.le_refl _) _).setCell (Nat.le_refl _) _) b7
  go_wp2_with (refine wpList_store_ins rfl (.tmp 4) (.tmp 21) rfl (W.heap.size + 1) (dataI w ({ i with imm := fld w 11 0, form := 1 } : Ins)) zIns rfl rfl hZ7 ?_; intro w8 B8 g8)
  refine ret_ins 4 (W.heap.size + 1) (dataI w ({ i with imm := fld w 11 0, form := 1 } : Ins)) rfl rfl B8 rfl ⟨rfl, ?_⟩
  exact bgrow hB7 g8 (by omega)
theorem second_2 (w : Int) (h0 : 0 ≤ w) (h1 : w < 4294967296) (i : Ins) (W : World) (p1 : (fld w 24 23 != 2) = false) (p2 : bt w 20 = false) (p3 : (fld w 22 20 == 0) = true) :
    Calls Try.prog 40 #[.int .u32 w, (.agg (insA i))] W fun e w' => e = .returned (.agg (insCells ({ i with imm := bits .or .u32 (fld w 11 0) (fld w 19 16 * 4096), op := 17, rd := fld w 15 12 } : Ins)).toArray) ∧ Below W.heap.size W w' := by
  have G := Lib.hid (fun hi lo hl hm hh W => get_any w h0 h1 hi lo hl hm hh W)
  have B := Lib.hid (fun i hl hh W => bit_any w h0 h1 i hl hh W)
  obtain ⟨hA, hZ, hB⟩ := ins_two i W
  go_enter Try.func40, Try.ntmps40
  go_upto_region 1 with fail
  generalize (W.alloc (.cells (insA i) 61)).alloc (.cells zInsA 61) = W2 at hA hZ hB ⊢
  generalize Value.agg (insA i) = vi
  obtain ⟨c0, c1, c2, c3, c4, c5, c6, c7, c8, c9, c10, c11, c12, c13, c14, c15, c16, c17, c18, c19⟩ := ins_at (hA)
  have hf := hA.frozen
  have b11 := fld_le w 11 0
  have b11a : 0 ≤ fld w 11 0 := b11.1
  have b11b : fld w 11 0 < 4096 := by have := b11.2; simpa using this
  have b19 := fld_le w 19 16
  have b19a : 0 ≤ fld w 19 16 := b19.1
  have b19b : fld w 19 16 < 16 := by have := b19.2; simpa using this
  clear b11 b19
  go_upto_region 8 with (first | (first | (go_at_call 38; with_reducible refine (G.out _ _ ?_ ?_ ?_ _).mono ?_; (any_goals (first | omega | decide)); rintro e w' ⟨rfl, rfl⟩) | (go_at_call 41; with_reducible refine (B.out _ ?_ ?_ _).mono ?_; (any_goals (first | omega | decide)); rintro e w' ⟨rfl, rfl⟩) | (go_at_call 76; with_reducible refine (compares_is _ _).mono ?_; rintro e w' ⟨rfl, rfl⟩) | (go_at_call 77; with_reducible refine (moves_is _ _).mono ?_; rintro e w' ⟨rfl, rfl⟩)) | (go_at_call 61; with_reducible refine (small_is _ _).mono ?_; rintro e w' ⟨rfl, rfl⟩) | (go_at_call 75; with_reducible refine (half_is _ _ ?_ ?_ _).mono ?_; (any_goals (first | omega | assumption)); rintro e w' ⟨rfl, rfl⟩))
  (refine wp_region_tail 8 (by kernel_rfl) (by kernel_rfl) ?_; simp only [List.take_succ_cons, List.take_zero, List.drop_succ_cons, List.drop_zero]; (repeat still_step); (try refine wpStill_nil ?_))
  still_call (still (G.out 19 16 (by omega) (by omega) (by omega) _))
  (repeat still_step)
  (try refine wpStill_nil ?_)
  go_upto_region 19 with (first | (first | (go_at_call 38; with_reducible refine (G.out _ _ ?_ ?_ ?_ _).mono ?_; (any_goals (first | omega | decide)); rintro e w' ⟨rfl, rfl⟩) | (go_at_call 41; with_reducible refine (B.out _ ?_ ?_ _).mono ?_; (any_goals (first | omega | decide)); rintro e w' ⟨rfl, rfl⟩) | (go_at_call 76; with_reducible refine (compares_is _ _).mono ?_; rintro e w' ⟨rfl, rfl⟩) | (go_at_call 77; with_reducible refine (moves_is _ _).mono ?_; rintro e w' ⟨rfl, rfl⟩)) | (go_at_call 61; with_reducible refine (small_is _ _).mono ?_; rintro e w' ⟨rfl, rfl⟩) | (go_at_call 75; with_reducible refine (half_is _ _ ?_ ?_ _).mono ?_; (any_goals (first | omega | assumption)); rintro e w' ⟨rfl, rfl⟩))
  go_wp2_with (first | (refine wpList_load_ins rfl (.tmp 3) rfl (W.heap.size) ({ i with imm := bits .or .u32 (fld w 11 0) (fld w 19 16 * 4096), op := 17, rd := fld w 15 12 } : Ins) rfl ((((hA.set_ 9 _).set_ 1 _).set_ 4 _).set_ 9 _) ?_) | (refine wpList_store_ins rfl (.tmp 4) (.tmp 77) rfl (W.heap.size + 1) ({ i with imm := bits .or .u32 (fld w 11 0) (fld w 19 16 * 4096), op := 17, rd := fld w 15 12 } : Ins) zIns rfl rfl ((((hZ.far (by simp) _).far (by simp) _).far (by simp) _).far (by simp) _) ?_; intro w8 B8 g8))
  refine ret_ins 4 (W.heap.size + 1) ({ i with imm := bits .or .u32 (fld w 11 0) (fld w 19 16 * 4096), op := 17, rd := fld w 15 12 } : Ins) rfl rfl B8 rfl ⟨rfl, ?_⟩
  exact bgrow (bdrew ((((hB.setCell (Nat.le_refl _) _).setCell (Nat.le_refl _) _).setCell (Nat.le_refl _) _).setCell (Nat.le_refl _) _)) g8 (by omega)
theorem second_3 (w : Int) (h0 : 0 ≤ w) (h1 : w < 4294967296) (i : Ins) (W : World) (p1 : (fld w 24 23 != 2) = false) (p2 : bt w 20 = false) (p3 : (fld w 22 20 == 0) = false) (p4 : (fld w 22 20 == 4) = true) :
    Calls Try.prog 40 #[.int .u32 w, (.agg (insA i))] W fun e w' => e = .returned (.agg (insCells ({ i with imm := bits .or .u32 (fld w 11 0) (fld w 19 16 * 4096), op := 18, rd := fld w 15 12 } : Ins)).toArray) ∧ Below W.heap.size W w' := by
  have G := Lib.hid (fun hi lo hl hm hh W => get_any w h0 h1 hi lo hl hm hh W)
  have B := Lib.hid (fun i hl hh W => bit_any w h0 h1 i hl hh W)
  obtain ⟨hA, hZ, hB⟩ := ins_two i W
  go_enter Try.func40, Try.ntmps40
  go_upto_region 1 with fail
  generalize (W.alloc (.cells (insA i) 61)).alloc (.cells zInsA 61) = W2 at hA hZ hB ⊢
  generalize Value.agg (insA i) = vi
  obtain ⟨c0, c1, c2, c3, c4, c5, c6, c7, c8, c9, c10, c11, c12, c13, c14, c15, c16, c17, c18, c19⟩ := ins_at (hA)
  have hf := hA.frozen
  have b11 := fld_le w 11 0
  have b11a : 0 ≤ fld w 11 0 := b11.1
  have b11b : fld w 11 0 < 4096 := by have := b11.2; simpa using this
  have b19 := fld_le w 19 16
  have b19a : 0 ≤ fld w 19 16 := b19.1
  have b19b : fld w 19 16 < 16 := by have := b19.2; simpa using this
  clear b11 b19
  go_upto_region 11 with (first | (first | (go_at_call 38; with_reducible refine (G.out _ _ ?_ ?_ ?_ _).mono ?_; (any_goals (first | omega | decide)); rintro e w' ⟨rfl, rfl⟩) | (go_at_call 41; with_reducible refine (B.out _ ?_ ?_ _).mono ?_; (any_goals (first | omega | decide)); rintro e w' ⟨rfl, rfl⟩) | (go_at_call 76; with_reducible refine (compares_is _ _).mono ?_; rintro e w' ⟨rfl, rfl⟩) | (go_at_call 77; with_reducible refine (moves_is _ _).mono ?_; rintro e w' ⟨rfl, rfl⟩)) | (go_at_call 61; with_reducible refine (small_is _ _).mono ?_; rintro e w' ⟨rfl, rfl⟩) | (go_at_call 75; with_reducible refine (half_is _ _ ?_ ?_ _).mono ?_; (any_goals (first | omega | assumption)); rintro e w' ⟨rfl, rfl⟩))
  (refine wp_region_tail 8 (by kernel_rfl) (by kernel_rfl) ?_; simp only [List.take_succ_cons, List.take_zero, List.drop_succ_cons, List.drop_zero]; (repeat still_step); (try refine wpStill_nil ?_))
  still_call (still (G.out 19 16 (by omega) (by omega) (by omega) _))
  (repeat still_step)
  (try refine wpStill_nil ?_)
  go_upto_region 19 with (first | (first | (go_at_call 38; with_reducible refine (G.out _ _ ?_ ?_ ?_ _).mono ?_; (any_goals (first | omega | decide)); rintro e w' ⟨rfl, rfl⟩) | (go_at_call 41; with_reducible refine (B.out _ ?_ ?_ _).mono ?_; (any_goals (first | omega | decide)); rintro e w' ⟨rfl, rfl⟩) | (go_at_call 76; with_reducible refine (compares_is _ _).mono ?_; rintro e w' ⟨rfl, rfl⟩) | (go_at_call 77; with_reducible refine (moves_is _ _).mono ?_; rintro e w' ⟨rfl, rfl⟩)) | (go_at_call 61; with_reducible refine (small_is _ _).mono ?_; rintro e w' ⟨rfl, rfl⟩) | (go_at_call 75; with_reducible refine (half_is _ _ ?_ ?_ _).mono ?_; (any_goals (first | omega | assumption)); rintro e w' ⟨rfl, rfl⟩))
  go_wp2_with (first | (refine wpList_load_ins rfl (.tmp 3) rfl (W.heap.size) ({ i with imm := bits .or .u32 (fld w 11 0) (fld w 19 16 * 4096), op := 18, rd := fld w 15 12 } : Ins) rfl ((((hA.set_ 9 _).set_ 1 _).set_ 4 _).set_ 9 _) ?_) | (refine wpList_store_ins rfl (.tmp 4) (.tmp 77) rfl (W.heap.size + 1) ({ i with imm := bits .or .u32 (fld w 11 0) (fld w 19 16 * 4096), op := 18, rd := fld w 15 12 } : Ins) zIns rfl rfl ((((hZ.far (by simp) _).far (by simp) _).far (by simp) _).far (by simp) _) ?_; intro w8 B8 g8))
  refine ret_ins 4 (W.heap.size + 1) ({ i with imm := bits .or .u32 (fld w 11 0) (fld w 19 16 * 4096), op := 18, rd := fld w 15 12 } : Ins) rfl rfl B8 rfl ⟨rfl, ?_⟩
  exact bgrow (bdrew ((((hB.setCell (Nat.le_refl _) _).setCell (Nat.le_refl _) _).setCell (Nat.le_refl _) _).setCell (Nat.le_refl _) _)) g8 (by omega)
theorem second_4 (w : Int) (h0 : 0 ≤ w) (h1 : w < 4294967296) (i : Ins) (W : World) (p1 : (fld w 24 23 != 2) = false) (p2 : bt w 20 = false) (p3 : (fld w 22 20 == 0) = false) (p4 : (fld w 22 20 == 4) = false) (d1 : (bits .and .u32 w 268435455 == 52490240) = true) :
    Calls Try.prog 40 #[.int .u32 w, (.agg (insA i))] W fun e w' => e = .returned (.agg (insCells ({ i with imm := fld w 11 0, op := 51 } : Ins)).toArray) ∧ Below W.heap.size W w' := by
  have G := Lib.hid (fun hi lo hl hm hh W => get_any w h0 h1 hi lo hl hm hh W)
  have B := Lib.hid (fun i hl hh W => bit_any w h0 h1 i hl hh W)
  obtain ⟨hA, hZ, hB⟩ := ins_two i W
  go_enter Try.func40, Try.ntmps40
  go_upto_region 1 with fail
  generalize (W.alloc (.cells (insA i) 61)).alloc (.cells zInsA 61) = W2 at hA hZ hB ⊢
  generalize Value.agg (insA i) = vi
  obtain ⟨c0, c1, c2, c3, c4, c5, c6, c7, c8, c9, c10, c11, c12, c13, c14, c15, c16, c17, c18, c19⟩ := ins_at (hA)
  have hf := hA.frozen
  have b11 := fld_le w 11 0
  have b11a : 0 ≤ fld w 11 0 := b11.1
  have b11b : fld w 11 0 < 4096 := by have := b11.2; simpa using this
  have b19 := fld_le w 19 16
  have b19a : 0 ≤ fld w 19 16 := b19.1
  have b19b : fld w 19 16 < 16 := by have := b19.2; simpa using this
  clear b11 b19
  go_upto_region 19 with (first | (first | (go_at_call 38; with_reducible refine (G.out _ _ ?_ ?_ ?_ _).mono ?_; (any_goals (first | omega | decide)); rintro e w' ⟨rfl, rfl⟩) | (go_at_call 41; with_reducible refine (B.out _ ?_ ?_ _).mono ?_; (any_goals (first | omega | decide)); rintro e w' ⟨rfl, rfl⟩) | (go_at_call 76; with_reducible refine (compares_is _ _).mono ?_; rintro e w' ⟨rfl, rfl⟩) | (go_at_call 77; with_reducible refine (moves_is _ _).mono ?_; rintro e w' ⟨rfl, rfl⟩)) | (go_at_call 61; with_reducible refine (small_is _ _).mono ?_; rintro e w' ⟨rfl, rfl⟩) | (go_at_call 75; with_reducible refine (half_is _ _ ?_ ?_ _).mono ?_; (any_goals (first | omega | assumption)); rintro e w' ⟨rfl, rfl⟩))
  go_wp2_with (first | (refine wpList_load_ins rfl (.tmp 3) rfl (W.heap.size) ({ i with imm := fld w 11 0, op := 51 } : Ins) rfl ((hA.set_ 9 _).set_ 1 _) ?_) | (refine wpList_store_ins rfl (.tmp 4) (.tmp 77) rfl (W.heap.size + 1) ({ i with imm := fld w 11 0, op := 51 } : Ins) zIns rfl rfl ((hZ.far (by simp) _).far (by simp) _) ?_; intro w8 B8 g8))
  refine ret_ins 4 (W.heap.size + 1) ({ i with imm := fld w 11 0, op := 51 } : Ins) rfl rfl B8 rfl ⟨rfl, ?_⟩
  exact bgrow ((hB.setCell (Nat.le_refl _) _).setCell (Nat.le_refl _) _) g8 (by omega)
theorem second_5 (w : Int) (h0 : 0 ≤ w) (h1 : w < 4294967296) (i : Ins) (W : World) (p1 : (fld w 24 23 != 2) = false) (p2 : bt w 20 = false) (p3 : (fld w 22 20 == 0) = false) (p4 : (fld w 22 20 == 4) = false) (d1 : (bits .and .u32 w 268435455 == 52490240) = false) (d2 : (bits .and .u32 w 268435455 == 52490243) = true) :
    Calls Try.prog 40 #[.int .u32 w, (.agg (insA i))] W fun e w' => e = .returned (.agg (insCells ({ i with op := 52, imm := 0 } : Ins)).toArray) ∧ Below W.heap.size W w' := by
  have G := Lib.hid (fun hi lo hl hm hh W => get_any w h0 h1 hi lo hl hm hh W)
  have B := Lib.hid (fun i hl hh W => bit_any w h0 h1 i hl hh W)
  obtain ⟨hA, hZ, hB⟩ := ins_two i W
  go_enter Try.func40, Try.ntmps40
  go_upto_region 1 with fail
  generalize (W.alloc (.cells (insA i) 61)).alloc (.cells zInsA 61) = W2 at hA hZ hB ⊢
  generalize Value.agg (insA i) = vi
  obtain ⟨c0, c1, c2, c3, c4, c5, c6, c7, c8, c9, c10, c11, c12, c13, c14, c15, c16, c17, c18, c19⟩ := ins_at (hA)
  have hf := hA.frozen
  have b11 := fld_le w 11 0
  have b11a : 0 ≤ fld w 11 0 := b11.1
  have b11b : fld w 11 0 < 4096 := by have := b11.2; simpa using this
  have b19 := fld_le w 19 16
  have b19a : 0 ≤ fld w 19 16 := b19.1
  have b19b : fld w 19 16 < 16 := by have := b19.2; simpa using this
  clear b11 b19
  go_upto_region 19 with (first | (first | (go_at_call 38; with_reducible refine (G.out _ _ ?_ ?_ ?_ _).mono ?_; (any_goals (first | omega | decide)); rintro e w' ⟨rfl, rfl⟩) | (go_at_call 41; with_reducible refine (B.out _ ?_ ?_ _).mono ?_; (any_goals (first | omega | decide)); rintro e w' ⟨rfl, rfl⟩) | (go_at_call 76; with_reducible refine (compares_is _ _).mono ?_; rintro e w' ⟨rfl, rfl⟩) | (go_at_call 77; with_reducible refine (moves_is _ _).mono ?_; rintro e w' ⟨rfl, rfl⟩)) | (go_at_call 61; with_reducible refine (small_is _ _).mono ?_; rintro e w' ⟨rfl, rfl⟩) | (go_at_call 75; with_reducible refine (half_is _ _ ?_ ?_ _).mono ?_; (any_goals (first | omega | assumption)); rintro e w' ⟨rfl, rfl⟩))
  go_wp2_with (first | (refine wpList_load_ins rfl (.tmp 3) rfl (W.heap.size) ({ i with op := 52, imm := 0 } : Ins) rfl (((hA.set_ 9 _).set_ 1 _).set_ 9 _) ?_) | (refine wpList_store_ins rfl (.tmp 4) (.tmp 77) rfl (W.heap.size + 1) ({ i with op := 52, imm := 0 } : Ins) zIns rfl rfl (((hZ.far (by simp) _).far (by simp) _).far (by simp) _) ?_; intro w8 B8 g8))
  refine ret_ins 4 (W.heap.size + 1) ({ i with op := 52, imm := 0 } : Ins) rfl rfl B8 rfl ⟨rfl, ?_⟩
  exact bgrow (((hB.setCell (Nat.le_refl _) _).setCell (Nat.le_refl _) _).setCell (Nat.le_refl _) _) g8 (by omega)
theorem second_6 (w : Int) (h0 : 0 ≤ w) (h1 : w < 4294967296) (i : Ins) (W : World) (p1 : (fld w 24 23 != 2) = false) (p2 : bt w 20 = false) (p3 : (fld w 22 20 == 0) = false) (p4 : (fld w 22 20 == 4) = false) (d1 : (bits .and .u32 w 268435455 == 52490240) = false) (d2 : (bits .and .u32 w 268435455 == 52490243) = false) (p5 : (fld w 15 12 == 15) = true) :
    Calls Try.prog 40 #[.int .u32 w, (.agg (insA i))] W fun e w' => e = .returned (.agg (insCells ({ i with imm := fld w 11 0, op := 48, s := bt w 22, form := 1, amount := fld w 19 16 } : Ins)).toArray) ∧ Below W.heap.size W w' := by
  have G := Lib.hid (fun hi lo hl hm hh W => get_any w h0 h1 hi lo hl hm hh W)
  have B := Lib.hid (fun i hl hh W => bit_any w h0 h1 i hl hh W)
  obtain ⟨hA, hZ, hB⟩ := ins_two i W
  go_enter Try.func40, Try.ntmps40
  go_upto_region 1 with fail
  generalize (W.alloc (.cells (insA i) 61)).alloc (.cells zInsA 61) = W2 at hA hZ hB ⊢
  generalize Value.agg (insA i) = vi
  obtain ⟨c0, c1, c2, c3, c4, c5, c6, c7, c8, c9, c10, c11, c12, c13, c14, c15, c16, c17, c18, c19⟩ := ins_at (hA)
  have hf := hA.frozen
  have b11 := fld_le w 11 0
  have b11a : 0 ≤ fld w 11 0 := b11.1
  have b11b : fld w 11 0 < 4096 := by have := b11.2; simpa using this
  have b19 := fld_le w 19 16
  have b19a : 0 ≤ fld w 19 16 := b19.1
  have b19b : fld w 19 16 < 16 := by have := b19.2; simpa using this
  clear b11 b19
  go_upto_region 19 with (first | (first | (go_at_call 38; with_reducible refine (G.out _ _ ?_ ?_ ?_ _).mono ?_; (any_goals (first | omega | decide)); rintro e w' ⟨rfl, rfl⟩) | (go_at_call 41; with_reducible refine (B.out _ ?_ ?_ _).mono ?_; (any_goals (first | omega | decide)); rintro e w' ⟨rfl, rfl⟩) | (go_at_call 76; with_reducible refine (compares_is _ _).mono ?_; rintro e w' ⟨rfl, rfl⟩) | (go_at_call 77; with_reducible refine (moves_is _ _).mono ?_; rintro e w' ⟨rfl, rfl⟩)) | (go_at_call 61; with_reducible refine (small_is _ _).mono ?_; rintro e w' ⟨rfl, rfl⟩) | (go_at_call 75; with_reducible refine (half_is _ _ ?_ ?_ _).mono ?_; (any_goals (first | omega | assumption)); rintro e w' ⟨rfl, rfl⟩))
  go_wp2_with (first | (refine wpList_load_ins rfl (.tmp 3) rfl (W.heap.size) ({ i with imm := fld w 11 0, op := 48, s := bt w 22, form := 1, amount := fld w 19 16 } : Ins) rfl (((((hA.set_ 9 _).set_ 1 _).set_ 2 _).set_ 3 _).set_ 11 _) ?_) | (refine wpList_store_ins rfl (.tmp 4) (.tmp 77) rfl (W.heap.size + 1) ({ i with imm := fld w 11 0, op := 48, s := bt w 22, form := 1, amount := fld w 19 16 } : Ins) zIns rfl rfl (((((hZ.far (by simp) _).far (by simp) _).far (by simp) _).far (by simp) _).far (by simp) _) ?_; intro w8 B8 g8))
  refine ret_ins 4 (W.heap.size + 1) ({ i with imm := fld w 11 0, op := 48, s := bt w 22, form := 1, amount := fld w 19 16 } : Ins) rfl rfl B8 rfl ⟨rfl, ?_⟩
  exact bgrow (((((hB.setCell (Nat.le_refl _) _).setCell (Nat.le_refl _) _).setCell (Nat.le_refl _) _).setCell (Nat.le_refl _) _).setCell (Nat.le_refl _) _) g8 (by omega)
theorem second_7 (w : Int) (h0 : 0 ≤ w) (h1 : w < 4294967296) (i : Ins) (W : World) (p1 : (fld w 24 23 != 2) = false) (p2 : bt w 20 = false) (p3 : (fld w 22 20 == 0) = false) (p4 : (fld w 22 20 == 4) = false) (d1 : (bits .and .u32 w 268435455 == 52490240) = false) (d2 : (bits .and .u32 w 268435455 == 52490243) = false) (p5 : (fld w 15 12 == 15) = false) :
    Calls Try.prog 40 #[.int .u32 w, (.agg (insA i))] W fun e w' => e = .returned (.agg (insCells zIns).toArray) ∧ Below W.heap.size W w' := by
  have G := Lib.hid (fun hi lo hl hm hh W => get_any w h0 h1 hi lo hl hm hh W)
  have B := Lib.hid (fun i hl hh W => bit_any w h0 h1 i hl hh W)
  obtain ⟨hA, hZ, hB⟩ := ins_two i W
  go_enter Try.func40, Try.ntmps40
  go_upto_region 1 with fail
  generalize (W.alloc (.cells (insA i) 61)).alloc (.cells zInsA 61) = W2 at hA hZ hB ⊢
  generalize Value.agg (insA i) = vi
  obtain ⟨c0, c1, c2, c3, c4, c5, c6, c7, c8, c9, c10, c11, c12, c13, c14, c15, c16, c17, c18, c19⟩ := ins_at (hA)
  have hf := hA.frozen
  have b11 := fld_le w 11 0
  have b11a : 0 ≤ fld w 11 0 := b11.1
  have b11b : fld w 11 0 < 4096 := by have := b11.2; simpa using this
  have b19 := fld_le w 19 16
  have b19a : 0 ≤ fld w 19 16 := b19.1
  have b19b : fld w 19 16 < 16 := by have := b19.2; simpa using this
  clear b11 b19
  go_upto_region 2 with (first | (first | (go_at_call 38; with_reducible refine (G.out _ _ ?_ ?_ ?_ _).mono ?_; (any_goals (first | omega | decide)); rintro e w' ⟨rfl, rfl⟩) | (go_at_call 41; with_reducible refine (B.out _ ?_ ?_ _).mono ?_; (any_goals (first | omega | decide)); rintro e w' ⟨rfl, rfl⟩) | (go_at_call 76; with_reducible refine (compares_is _ _).mono ?_; rintro e w' ⟨rfl, rfl⟩) | (go_at_call 77; with_reducible refine (moves_is _ _).mono ?_; rintro e w' ⟨rfl, rfl⟩)) | (go_at_call 61; with_reducible refine (small_is _ _).mono ?_; rintro e w' ⟨rfl, rfl⟩) | (go_at_call 75; with_reducible refine (half_is _ _ ?_ ?_ _).mono ?_; (any_goals (first | omega | assumption)); rintro e w' ⟨rfl, rfl⟩))
  go_wp2_with (refine wpList_store_ins rfl (.tmp 4) (.tmp 9) rfl (W.heap.size + 1) zIns zIns rfl rfl (hZ.far (by simp) _) ?_; intro w8 B8 g8)
  refine ret_ins 4 (W.heap.size + 1) zIns rfl rfl B8 rfl ⟨rfl, ?_⟩
  exact bgrow (hB.setCell (Nat.le_refl _) _) g8 (by omega)
end Go.Proofs.Ytpfhplhamnohjaa
