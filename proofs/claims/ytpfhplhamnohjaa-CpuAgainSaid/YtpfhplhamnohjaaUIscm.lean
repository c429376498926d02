/- Layer 19: what stands where comparisons without flags would. -/
import Derived.Test.YtpfhplhamnohjaaG01
namespace Go.Proofs.Ytpfhplhamnohjaa
set_option maxHeartbeats 25600000
set_option maxRecDepth 100000
open Go.RowKit

theorem still {P : Program} {f : FuncId} {args : Array Value} {w : World} {v : Value} (h : Calls P f args w fun e w' => e = .returned v ∧ w = w') : Calls P f args w fun e w' => e = .returned v ∧ w' = w :=
  h.mono fun _ _ ⟨a, b⟩ => ⟨a, b.symm⟩
theorem half_is (load : Bool) (n : Int) (h0 : 0 ≤ n) (h3 : n < 4) (W : World) : Calls Try.prog 75 #[.bool load, .int .i64 n] W fun e w' => e = .returned (.int .i64 (halfOp load n)) ∧ W = w' := by
  obtain rfl | rfl | rfl | rfl : n = 0 ∨ n = 1 ∨ n = 2 ∨ n = 3 := by omega
  all_goals
    have i1 : ∀ w, (Instr.index 123 (.agg #[.int .i64 0, .int .i64 35, .int .i64 37, .int .i64 38]) (.int .i64 1)).run Try.prog w = .ok (.int .i64 35) w := fun _ => by kernel_rfl
    have i2 : ∀ w, (Instr.index 123 (.agg #[.int .i64 0, .int .i64 35, .int .i64 37, .int .i64 38]) (.int .i64 2)).run Try.prog w = .ok (.int .i64 37) w := fun _ => by kernel_rfl
    have i3 : ∀ w, (Instr.index 123 (.agg #[.int .i64 0, .int .i64 35, .int .i64 37, .int .i64 38]) (.int .i64 3)).run Try.prog w = .ok (.int .i64 38) w := fun _ => by kernel_rfl
    cases load
    all_goals
      go_enter Try.func75, Try.ntmps75
      go_wp2
      go_ret
      exact ⟨rfl, rfl⟩
theorem special_1 (w : Int) (h0 : 0 ≤ w) (h1 : w < 4294967296) (i : Ins) (W : World) (p1 : (bits .and .u32 w 263196656 == 16777216) = true) (p2 : (fld w 19 16 == 15) = true) (p3 : (fld w 3 0 == 0) = true) :
    Calls Try.prog 59 #[.int .u32 w, (.agg (insA i))] W fun e w' => e = .returned (.agg (insCells ({ i with op := 47, s := bt w 22, rd := fld w 15 12 } : Ins)).toArray) ∧ Below W.heap.size W w' := by
  have G := Lib.hid (fun hi lo hl hm hh W => get_any w h0 h1 hi lo hl hm hh W)
  have B := Lib.hid (fun i hl hh W => bit_any w h0 h1 i hl hh W)
  obtain ⟨hA, hZ, hB⟩ := ins_two i W
  go_enter Try.func59, Try.ntmps59
  go_upto_region 1 with fail
  generalize (W.alloc (.cells (insA i) 61)).alloc (.cells zInsA 61) = W2 at hA hZ hB ⊢
  generalize Value.agg (insA i) = vi
  obtain ⟨c0, c1, c2, c3, c4, c5, c6, c7, c8, c9, c10, c11, c12, c13, c14, c15, c16, c17, c18, c19⟩ := ins_at (hA)
  have hf := hA.frozen
  go_upto_region 14 with (first | (first | (go_at_call 38; with_reducible refine (G.out _ _ ?_ ?_ ?_ _).mono ?_; (any_goals (first | omega | decide)); rintro e w' ⟨rfl, rfl⟩) | (go_at_call 41; with_reducible refine (B.out _ ?_ ?_ _).mono ?_; (any_goals (first | omega | decide)); rintro e w' ⟨rfl, rfl⟩) | (go_at_call 76; with_reducible refine (compares_is _ _).mono ?_; rintro e w' ⟨rfl, rfl⟩) | (go_at_call 77; with_reducible refine (moves_is _ _).mono ?_; rintro e w' ⟨rfl, rfl⟩)) | (go_at_call 61; with_reducible refine (small_is _ _).mono ?_; rintro e w' ⟨rfl, rfl⟩) | (go_at_call 75; with_reducible refine (half_is _ _ ?_ ?_ _).mono ?_; (any_goals (first | omega | assumption)); rintro e w' ⟨rfl, rfl⟩))
  go_wp2_with (first | (refine wpList_load_ins rfl (.tmp 3) rfl (W.heap.size) ({ i with op := 47, s := bt w 22, rd := fld w 15 12 } : Ins) rfl (((hA.set_ 1 _).set_ 2 _).set_ 4 _) ?_) | (refine wpList_store_ins rfl (.tmp 4) (.tmp 82) rfl (W.heap.size + 1) ({ i with op := 47, s := bt w 22, rd := fld w 15 12 } : Ins) zIns rfl rfl (((hZ.far (by simp) _).far (by simp) _).far (by simp) _) ?_; intro w8 B8 g8))
  refine ret_ins 4 (W.heap.size + 1) ({ i with op := 47, s := bt w 22, rd := fld w 15 12 } : Ins) rfl rfl B8 rfl ⟨rfl, ?_⟩
  exact bgrow (((hB.setCell (Nat.le_refl _) _).setCell (Nat.le_refl _) _).setCell (Nat.le_refl _) _) g8 (by omega)
theorem special_2a (w : Int) (h0 : 0 ≤ w) (h1 : w < 4294967296) (i : Ins) (W : World) (p1 : (bits .and .u32 w 263196656 == 16777216) = false) (e1 : (bits .and .u32 w 263258096 == 18935808) = true) :
    Calls Try.prog 59 #[.int .u32 w, (.agg (insA i))] W fun e w' => e = .returned (.agg (insCells ({ i with op := 48, s := bt w 22, form := 2, amount := fld w 19 16, rm := fld w 3 0 } : Ins)).toArray) ∧ Below W.heap.size W w' := by
  have G := Lib.hid (fun hi lo hl hm hh W => get_any w h0 h1 hi lo hl hm hh W)
  have B := Lib.hid (fun i hl hh W => bit_any w h0 h1 i hl hh W)
  obtain ⟨hA, hZ, hB⟩ := ins_two i W
  go_enter Try.func59, Try.ntmps59
  go_upto_region 1 with fail
  generalize (W.alloc (.cells (insA i) 61)).alloc (.cells zInsA 61) = W2 at hA hZ hB ⊢
  generalize Value.agg (insA i) = vi
  obtain ⟨c0, c1, c2, c3, c4, c5, c6, c7, c8, c9, c10, c11, c12, c13, c14, c15, c16, c17, c18, c19⟩ := ins_at (hA)
  have hf := hA.frozen
  go_upto_region 14 with (first | (first | (go_at_call 38; with_reducible refine (G.out _ _ ?_ ?_ ?_ _).mono ?_; (any_goals (first | omega | decide)); rintro e w' ⟨rfl, rfl⟩) | (go_at_call 41; with_reducible refine (B.out _ ?_ ?_ _).mono ?_; (any_goals (first | omega | decide)); rintro e w' ⟨rfl, rfl⟩) | (go_at_call 76; with_reducible refine (compares_is _ _).mono ?_; rintro e w' ⟨rfl, rfl⟩) | (go_at_call 77; with_reducible refine (moves_is _ _).mono ?_; rintro e w' ⟨rfl, rfl⟩)) | (go_at_call 61; with_reducible refine (small_is _ _).mono ?_; rintro e w' ⟨rfl, rfl⟩) | (go_at_call 75; with_reducible refine (half_is _ _ ?_ ?_ _).mono ?_; (any_goals (first | omega | assumption)); rintro e w' ⟨rfl, rfl⟩))
  go_wp2_with (first | (refine wpList_load_ins rfl (.tmp 3) rfl (W.heap.size) ({ i with op := 48, s := bt w 22, form := 2, amount := fld w 19 16, rm := fld w 3 0 } : Ins) rfl (((((hA.set_ 1 _).set_ 2 _).set_ 3 _).set_ 11 _).set_ 6 _) ?_) | (refine wpList_store_ins rfl (.tmp 4) (.tmp 82) rfl (W.heap.size + 1) ({ i with op := 48, s := bt w 22, form := 2, amount := fld w 19 16, rm := fld w 3 0 } : Ins) zIns rfl rfl (((((hZ.far (by simp) _).far (by simp) _).far (by simp) _).far (by simp) _).far (by simp) _) ?_; intro w8 B8 g8))
  refine ret_ins 4 (W.heap.size + 1) ({ i with op := 48, s := bt w 22, form := 2, amount := fld w 19 16, rm := fld w 3 0 } : Ins) rfl rfl B8 rfl ⟨rfl, ?_⟩
  exact bgrow (((((hB.setCell (Nat.le_refl _) _).setCell (Nat.le_refl _) _).setCell (Nat.le_refl _) _).setCell (Nat.le_refl _) _).setCell (Nat.le_refl _) _) g8 (by omega)
theorem special_3a (w : Int) (h0 : 0 ≤ w) (h1 : w < 4294967296) (i : Ins) (W : World) (p1 : (bits .and .u32 w 263196656 == 16777216) = false) (e1 : (bits .and .u32 w 263258096 == 18935808) = false) (e2 : (bits .and .u32 w 268435440 == 19922704) = true) :
    Calls Try.prog 59 #[.int .u32 w, (.agg (insA i))] W fun e w' => e = .returned (.agg (insCells ({ i with op := 43, rm := fld w 3 0 } : Ins)).toArray) ∧ Below W.heap.size W w' := by
  have G := Lib.hid (fun hi lo hl hm hh W => get_any w h0 h1 hi lo hl hm hh W)
  have B := Lib.hid (fun i hl hh W => bit_any w h0 h1 i hl hh W)
  obtain ⟨hA, hZ, hB⟩ := ins_two i W
  go_enter Try.func59, Try.ntmps59
  go_upto_region 1 with fail
  generalize (W.alloc (.cells (insA i) 61)).alloc (.cells zInsA 61) = W2 at hA hZ hB ⊢
  generalize Value.agg (insA i) = vi
  obtain ⟨c0, c1, c2, c3, c4, c5, c6, c7, c8, c9, c10, c11, c12, c13, c14, c15, c16, c17, c18, c19⟩ := ins_at (hA)
  have hf := hA.frozen
  go_upto_region 14 with (first | (first | (go_at_call 38; with_reducible refine (G.out _ _ ?_ ?_ ?_ _).mono ?_; (any_goals (first | omega | decide)); rintro e w' ⟨rfl, rfl⟩) | (go_at_call 41; with_reducible refine (B.out _ ?_ ?_ _).mono ?_; (any_goals (first | omega | decide)); rintro e w' ⟨rfl, rfl⟩) | (go_at_call 76; with_reducible refine (compares_is _ _).mono ?_; rintro e w' ⟨rfl, rfl⟩) | (go_at_call 77; with_reducible refine (moves_is _ _).mono ?_; rintro e w' ⟨rfl, rfl⟩)) | (go_at_call 61; with_reducible refine (small_is _ _).mono ?_; rintro e w' ⟨rfl, rfl⟩) | (go_at_call 75; with_reducible refine (half_is _ _ ?_ ?_ _).mono ?_; (any_goals (first | omega | assumption)); rintro e w' ⟨rfl, rfl⟩))
  go_wp2_with (first | (refine wpList_load_ins rfl (.tmp 3) rfl (W.heap.size) ({ i with op := 43, rm := fld w 3 0 } : Ins) rfl ((hA.set_ 1 _).set_ 6 _) ?_) | (refine wpList_store_ins rfl (.tmp 4) (.tmp 82) rfl (W.heap.size + 1) ({ i with op := 43, rm := fld w 3 0 } : Ins) zIns rfl rfl ((hZ.far (by simp) _).far (by simp) _) ?_; intro w8 B8 g8))
  refine ret_ins 4 (W.heap.size + 1) ({ i with op := 43, rm := fld w 3 0 } : Ins) rfl rfl B8 rfl ⟨rfl, ?_⟩
  exact bgrow ((hB.setCell (Nat.le_refl _) _).setCell (Nat.le_refl _) _) g8 (by omega)
theorem special_4a (w : Int) (h0 : 0 ≤ w) (h1 : w < 4294967296) (i : Ins) (W : World) (p1 : (bits .and .u32 w 263196656 == 16777216) = false) (e1 : (bits .and .u32 w 263258096 == 18935808) = false) (e2 : (bits .and .u32 w 268435440 == 19922704) = false) (e3 : (bits .and .u32 w 268435440 == 19922736) = true) :
    Calls Try.prog 59 #[.int .u32 w, (.agg (insA i))] W fun e w' => e = .returned (.agg (insCells ({ i with op := 44, rm := fld w 3 0 } : Ins)).toArray) ∧ Below W.heap.size W w' := by
  have G := Lib.hid (fun hi lo hl hm hh W => get_any w h0 h1 hi lo hl hm hh W)
  have B := Lib.hid (fun i hl hh W => bit_any w h0 h1 i hl hh W)
  obtain ⟨hA, hZ, hB⟩ := ins_two i W
  go_enter Try.func59, Try.ntmps59
  go_upto_region 1 with fail
  generalize (W.alloc (.cells (insA i) 61)).alloc (.cells zInsA 61) = W2 at hA hZ hB ⊢
  generalize Value.agg (insA i) = vi
  obtain ⟨c0, c1, c2, c3, c4, c5, c6, c7, c8, c9, c10, c11, c12, c13, c14, c15, c16, c17, c18, c19⟩ := ins_at (hA)
  have hf := hA.frozen
  go_upto_region 14 with (first | (first | (go_at_call 38; with_reducible refine (G.out _ _ ?_ ?_ ?_ _).mono ?_; (any_goals (first | omega | decide)); rintro e w' ⟨rfl, rfl⟩) | (go_at_call 41; with_reducible refine (B.out _ ?_ ?_ _).mono ?_; (any_goals (first | omega | decide)); rintro e w' ⟨rfl, rfl⟩) | (go_at_call 76; with_reducible refine (compares_is _ _).mono ?_; rintro e w' ⟨rfl, rfl⟩) | (go_at_call 77; with_reducible refine (moves_is _ _).mono ?_; rintro e w' ⟨rfl, rfl⟩)) | (go_at_call 61; with_reducible refine (small_is _ _).mono ?_; rintro e w' ⟨rfl, rfl⟩) | (go_at_call 75; with_reducible refine (half_is _ _ ?_ ?_ _).mono ?_; (any_goals (first | omega | assumption)); rintro e w' ⟨rfl, rfl⟩))
  go_wp2_with (first | (refine wpList_load_ins rfl (.tmp 3) rfl (W.heap.size) ({ i with op := 44, rm := fld w 3 0 } : Ins) rfl ((hA.set_ 1 _).set_ 6 _) ?_) | (refine wpList_store_ins rfl (.tmp 4) (.tmp 82) rfl (W.heap.size + 1) ({ i with op := 44, rm := fld w 3 0 } : Ins) zIns rfl rfl ((hZ.far (by simp) _).far (by simp) _) ?_; intro w8 B8 g8))
  refine ret_ins 4 (W.heap.size + 1) ({ i with op := 44, rm := fld w 3 0 } : Ins) rfl rfl B8 rfl ⟨rfl, ?_⟩
  exact bgrow ((hB.setCell (Nat.le_refl _) _).setCell (Nat.le_refl _) _) g8 (by omega)
theorem special_5a (w : Int) (h0 : 0 ≤ w) (h1 : w < 4294967296) (i : Ins) (W : World) (p1 : (bits .and .u32 w 263196656 == 16777216) = false) (e1 : (bits .and .u32 w 263258096 == 18935808) = false) (e2 : (bits .and .u32 w 268435440 == 19922704) = false) (e3 : (bits .and .u32 w 268435440 == 19922736) = false) (e4 : (bits .and .u32 w 267387120 == 18874480) = true) :
    Calls Try.prog 59 #[.int .u32 w, (.agg (insA i))] W fun e w' => e = .returned (.agg (insCells ({ i with op := 46, imm := immI w 19 8 } : Ins)).toArray) ∧ Below W.heap.size W w' := by
  have G := Lib.hid (fun hi lo hl hm hh W => get_any w h0 h1 hi lo hl hm hh W)
  have B := Lib.hid (fun i hl hh W => bit_any w h0 h1 i hl hh W)
  obtain ⟨hA, hZ, hB⟩ := ins_two i W
  go_enter Try.func59, Try.ntmps59
  go_upto_region 1 with fail
  generalize (W.alloc (.cells (insA i) 61)).alloc (.cells zInsA 61) = W2 at hA hZ hB ⊢
  generalize Value.agg (insA i) = vi
  obtain ⟨c0, c1, c2, c3, c4, c5, c6, c7, c8, c9, c10, c11, c12, c13, c14, c15, c16, c17, c18, c19⟩ := ins_at (hA)
  have hf := hA.frozen
  go_upto_region 14 with (first | (first | (go_at_call 38; with_reducible refine (G.out _ _ ?_ ?_ ?_ _).mono ?_; (any_goals (first | omega | decide)); rintro e w' ⟨rfl, rfl⟩) | (go_at_call 41; with_reducible refine (B.out _ ?_ ?_ _).mono ?_; (any_goals (first | omega | decide)); rintro e w' ⟨rfl, rfl⟩) | (go_at_call 76; with_reducible refine (compares_is _ _).mono ?_; rintro e w' ⟨rfl, rfl⟩) | (go_at_call 77; with_reducible refine (moves_is _ _).mono ?_; rintro e w' ⟨rfl, rfl⟩)) | (go_at_call 61; with_reducible refine (small_is _ _).mono ?_; rintro e w' ⟨rfl, rfl⟩) | (go_at_call 75; with_reducible refine (half_is _ _ ?_ ?_ _).mono ?_; (any_goals (first | omega | assumption)); rintro e w' ⟨rfl, rfl⟩))
  go_wp2_with (first | (refine wpList_load_ins rfl (.tmp 3) rfl (W.heap.size) ({ i with op := 46, imm := immI w 19 8 } : Ins) rfl ((hA.set_ 1 _).set_ 9 _) ?_) | (refine wpList_store_ins rfl (.tmp 4) (.tmp 82) rfl (W.heap.size + 1) ({ i with op := 46, imm := immI w 19 8 } : Ins) zIns rfl rfl ((hZ.far (by simp) _).far (by simp) _) ?_; intro w8 B8 g8))
  refine ret_ins 4 (W.heap.size + 1) ({ i with op := 46, imm := immI w 19 8 } : Ins) rfl rfl B8 rfl ⟨rfl, ?_⟩
  exact bgrow ((hB.setCell (Nat.le_refl _) _).setCell (Nat.le_refl _) _) g8 (by omega)
theorem special_6a (w : Int) (h0 : 0 ≤ w) (h1 : w < 4294967296) (i : Ins) (W : World) (p1 : (bits .and .u32 w 263196656 == 16777216) = false) (e1 : (bits .and .u32 w 263258096 == 18935808) = false) (e2 : (bits .and .u32 w 268435440 == 19922704) = false) (e3 : (bits .and .u32 w 268435440 == 19922736) = false) (e4 : (bits .and .u32 w 267387120 == 18874480) = false) (e5 : (bits .and .u32 w 268374000 == 24055568) = true) :
    Calls Try.prog 59 #[.int .u32 w, (.agg (insA i))] W fun e w' => e = .returned (.agg (insCells ({ i with op := 25, rd := fld w 15 12, rm := fld w 3 0 } : Ins)).toArray) ∧ Below W.heap.size W w' := by
  have G := Lib.hid (fun hi lo hl hm hh W => get_any w h0 h1 hi lo hl hm hh W)
  have B := Lib.hid (fun i hl hh W => bit_any w h0 h1 i hl hh W)
  obtain ⟨hA, hZ, hB⟩ := ins_two i W
  go_enter Try.func59, Try.ntmps59
  go_upto_region 1 with fail
  generalize (W.alloc (.cells (insA i) 61)).alloc (.cells zInsA 61) = W2 at hA hZ hB ⊢
  generalize Value.agg (insA i) = vi
  obtain ⟨c0, c1, c2, c3, c4, c5, c6, c7, c8, c9, c10, c11, c12, c13, c14, c15, c16, c17, c18, c19⟩ := ins_at (hA)
  have hf := hA.frozen
  go_upto_region 14 with (first | (first | (go_at_call 38; with_reducible refine (G.out _ _ ?_ ?_ ?_ _).mono ?_; (any_goals (first | omega | decide)); rintro e w' ⟨rfl, rfl⟩) | (go_at_call 41; with_reducible refine (B.out _ ?_ ?_ _).mono ?_; (any_goals (first | omega | decide)); rintro e w' ⟨rfl, rfl⟩) | (go_at_call 76; with_reducible refine (compares_is _ _).mono ?_; rintro e w' ⟨rfl, rfl⟩) | (go_at_call 77; with_reducible refine (moves_is _ _).mono ?_; rintro e w' ⟨rfl, rfl⟩)) | (go_at_call 61; with_reducible refine (small_is _ _).mono ?_; rintro e w' ⟨rfl, rfl⟩) | (go_at_call 75; with_reducible refine (half_is _ _ ?_ ?_ _).mono ?_; (any_goals (first | omega | assumption)); rintro e w' ⟨rfl, rfl⟩))
  go_wp2_with (first | (refine wpList_load_ins rfl (.tmp 3) rfl (W.heap.size) ({ i with op := 25, rd := fld w 15 12, rm := fld w 3 0 } : Ins) rfl (((hA.set_ 1 _).set_ 4 _).set_ 6 _) ?_) | (refine wpList_store_ins rfl (.tmp 4) (.tmp 82) rfl (W.heap.size + 1) ({ i with op := 25, rd := fld w 15 12, rm := fld w 3 0 } : Ins) zIns rfl rfl (((hZ.far (by simp) _).far (by simp) _).far (by simp) _) ?_; intro w8 B8 g8))
  refine ret_ins 4 (W.heap.size + 1) ({ i with op := 25, rd := fld w 15 12, rm := fld w 3 0 } : Ins) rfl rfl B8 rfl ⟨rfl, ?_⟩
  exact bgrow (((hB.setCell (Nat.le_refl _) _).setCell (Nat.le_refl _) _).setCell (Nat.le_refl _) _) g8 (by omega)
theorem special_7a (w : Int) (h0 : 0 ≤ w) (h1 : w < 4294967296) (i : Ins) (W : World) (p1 : (bits .and .u32 w 263196656 == 16777216) = false) (e1 : (bits .and .u32 w 263258096 == 18935808) = false) (e2 : (bits .and .u32 w 268435440 == 19922704) = false) (e3 : (bits .and .u32 w 268435440 == 19922736) = false) (e4 : (bits .and .u32 w 267387120 == 18874480) = false) (e5 : (bits .and .u32 w 268374000 == 24055568) = false) :
    Calls Try.prog 59 #[.int .u32 w, (.agg (insA i))] W fun e w' => e = .returned (.agg (insCells zIns).toArray) ∧ Below W.heap.size W w' := by
  have G := Lib.hid (fun hi lo hl hm hh W => get_any w h0 h1 hi lo hl hm hh W)
  have B := Lib.hid (fun i hl hh W => bit_any w h0 h1 i hl hh W)
  obtain ⟨hA, hZ, hB⟩ := ins_two i W
  go_enter Try.func59, Try.ntmps59
  go_upto_region 1 with fail
  generalize (W.alloc (.cells (insA i) 61)).alloc (.cells zInsA 61) = W2 at hA hZ hB ⊢
  generalize Value.agg (insA i) = vi
  obtain ⟨c0, c1, c2, c3, c4, c5, c6, c7, c8, c9, c10, c11, c12, c13, c14, c15, c16, c17, c18, c19⟩ := ins_at (hA)
  have hf := hA.frozen
  go_upto_region 1 with (first | (first | (go_at_call 38; with_reducible refine (G.out _ _ ?_ ?_ ?_ _).mono ?_; (any_goals (first | omega | decide)); rintro e w' ⟨rfl, rfl⟩) | (go_at_call 41; with_reducible refine (B.out _ ?_ ?_ _).mono ?_; (any_goals (first | omega | decide)); rintro e w' ⟨rfl, rfl⟩) | (go_at_call 76; with_reducible refine (compares_is _ _).mono ?_; rintro e w' ⟨rfl, rfl⟩) | (go_at_call 77; with_reducible refine (moves_is _ _).mono ?_; rintro e w' ⟨rfl, rfl⟩)) | (go_at_call 61; with_reducible refine (small_is _ _).mono ?_; rintro e w' ⟨rfl, rfl⟩) | (go_at_call 75; with_reducible refine (half_is _ _ ?_ ?_ _).mono ?_; (any_goals (first | omega | assumption)); rintro e w' ⟨rfl, rfl⟩))
  go_wp2_with (refine wpList_store_ins rfl (.tmp 4) (.tmp 5) rfl (W.heap.size + 1) zIns zIns rfl rfl hZ ?_; intro w8 B8 g8)
  refine ret_ins 4 (W.heap.size + 1) zIns rfl rfl B8 rfl ⟨rfl, ?_⟩
  exact bgrow hB g8 (by omega)
theorem special_2b (w : Int) (h0 : 0 ≤ w) (h1 : w < 4294967296) (i : Ins) (W : World) (p1 : (bits .and .u32 w 263196656 == 16777216) = true) (p2 : (fld w 19 16 == 15) = false) (e1 : (bits .and .u32 w 263258096 == 18935808) = true) :
    Calls Try.prog 59 #[.int .u32 w, (.agg (insA i))] W fun e w' => e = .returned (.agg (insCells ({ i with op := 48, s := bt w 22, form := 2, amount := fld w 19 16, rm := fld w 3 0 } : Ins)).toArray) ∧ Below W.heap.size W w' := by
  have G := Lib.hid (fun hi lo hl hm hh W => get_any w h0 h1 hi lo hl hm hh W)
  have B := Lib.hid (fun i hl hh W => bit_any w h0 h1 i hl hh W)
  obtain ⟨hA, hZ, hB⟩ := ins_two i W
  go_enter Try.func59, Try.ntmps59
  go_upto_region 1 with fail
  generalize (W.alloc (.cells (insA i) 61)).alloc (.cells zInsA 61) = W2 at hA hZ hB ⊢
  generalize Value.agg (insA i) = vi
  obtain ⟨c0, c1, c2, c3, c4, c5, c6, c7, c8, c9, c10, c11, c12, c13, c14, c15, c16, c17, c18, c19⟩ := ins_at (hA)
  have hf := hA.frozen
  go_upto_region 14 with (first | (first | (go_at_call 38; with_reducible refine (G.out _ _ ?_ ?_ ?_ _).mono ?_; (any_goals (first | omega | decide)); rintro e w' ⟨rfl, rfl⟩) | (go_at_call 41; with_reducible refine (B.out _ ?_ ?_ _).mono ?_; (any_goals (first | omega | decide)); rintro e w' ⟨rfl, rfl⟩) | (go_at_call 76; with_reducible refine (compares_is _ _).mono ?_; rintro e w' ⟨rfl, rfl⟩) | (go_at_call 77; with_reducible refine (moves_is _ _).mono ?_; rintro e w' ⟨rfl, rfl⟩)) | (go_at_call 61; with_reducible refine (small_is _ _).mono ?_; rintro e w' ⟨rfl, rfl⟩) | (go_at_call 75; with_reducible refine (half_is _ _ ?_ ?_ _).mono ?_; (any_goals (first | omega | assumption)); rintro e w' ⟨rfl, rfl⟩))
  go_wp2_with (first | (refine wpList_load_ins rfl (.tmp 3) rfl (W.heap.size) ({ i with op := 48, s := bt w 22, form := 2, amount := fld w 19 16, rm := fld w 3 0 } : Ins) rfl (((((hA.set_ 1 _).set_ 2 _).set_ 3 _).set_ 11 _).set_ 6 _) ?_) | (refine wpList_store_ins rfl (.tmp 4) (.tmp 82) rfl (W.heap.size + 1) ({ i with op := 48, s := bt w 22, form := 2, amount := fld w 19 16, rm := fld w 3 0 } : Ins) zIns rfl rfl (((((hZ.far (by simp) _).far (by simp) _).far (by simp) _).far (by simp) _).far (by simp) _) ?_; intro w8 B8 g8))
  refine ret_ins 4 (W.heap.size + 1) ({ i with op := 48, s := bt w 22, form := 2, amount := fld w 19 16, rm := fld w 3 0 } : Ins) rfl rfl B8 rfl ⟨rfl, ?_⟩
  exact bgrow (((((hB.setCell (Nat.le_refl _) _).setCell (Nat.le_refl _) _).setCell (Nat.le_refl _) _).setCell (Nat.le_refl _) _).setCell (Nat.le_refl _) _) g8 (by omega)
theorem special_3b (w : Int) (h0 : 0 ≤ w) (h1 : w < 4294967296) (i : Ins) (W : World) (p1 : (bits .and .u32 w 263196656 == 16777216) = true) (p2 : (fld w 19 16 == 15) = false) (e1 : (bits .and .u32 w 263258096 == 18935808) = false) (e2 : (bits .and .u32 w 268435440 == 19922704) = true) :
    Calls Try.prog 59 #[.int .u32 w, (.agg (insA i))] W fun e w' => e = .returned (.agg (insCells ({ i with op := 43, rm := fld w 3 0 } : Ins)).toArray) ∧ Below W.heap.size W w' := by
  have G := Lib.hid (fun hi lo hl hm hh W => get_any w h0 h1 hi lo hl hm hh W)
  have B := Lib.hid (fun i hl hh W => bit_any w h0 h1 i hl hh W)
  obtain ⟨hA, hZ, hB⟩ := ins_two i W
  go_enter Try.func59, Try.ntmps59
  go_upto_region 1 with fail
  generalize (W.alloc (.cells (insA i) 61)).alloc (.cells zInsA 61) = W2 at hA hZ hB ⊢
  generalize Value.agg (insA i) = vi
  obtain ⟨c0, c1, c2, c3, c4, c5, c6, c7, c8, c9, c10, c11, c12, c13, c14, c15, c16, c17, c18, c19⟩ := ins_at (hA)
  have hf := hA.frozen
  go_upto_region 14 with (first | (first | (go_at_call 38; with_reducible refine (G.out _ _ ?_ ?_ ?_ _).mono ?_; (any_goals (first | omega | decide)); rintro e w' ⟨rfl, rfl⟩) | (go_at_call 41; with_reducible refine (B.out _ ?_ ?_ _).mono ?_; (any_goals (first | omega | decide)); rintro e w' ⟨rfl, rfl⟩) | (go_at_call 76; with_reducible refine (compares_is _ _).mono ?_; rintro e w' ⟨rfl, rfl⟩) | (go_at_call 77; with_reducible refine (moves_is _ _).mono ?_; rintro e w' ⟨rfl, rfl⟩)) | (go_at_call 61; with_reducible refine (small_is _ _).mono ?_; rintro e w' ⟨rfl, rfl⟩) | (go_at_call 75; with_reducible refine (half_is _ _ ?_ ?_ _).mono ?_; (any_goals (first | omega | assumption)); rintro e w' ⟨rfl, rfl⟩))
  go_wp2_with (first | (refine wpList_load_ins rfl (.tmp 3) rfl (W.heap.size) ({ i with op := 43, rm := fld w 3 0 } : Ins) rfl ((hA.set_ 1 _).set_ 6 _) ?_) | (refine wpList_store_ins rfl (.tmp 4) (.tmp 82) rfl (W.heap.size + 1) ({ i with op := 43, rm := fld w 3 0 } : Ins) zIns rfl rfl ((hZ.far (by simp) _).far (by simp) _) ?_; intro w8 B8 g8))
  refine ret_ins 4 (W.heap.size + 1) ({ i with op := 43, rm := fld w 3 0 } : Ins) rfl rfl B8 rfl ⟨rfl, ?_⟩
  exact bgrow ((hB.setCell (Nat.le_refl _) _).setCell (Nat.le_refl _) _) g8 (by omega)
theorem special_4b (w : Int) (h0 : 0 ≤ w) (h1 : w < 4294967296) (i : Ins) (W : World) (p1 : (bits .and .u32 w 263196656 == 16777216) = true) (p2 : (fld w 19 16 == 15) = false) (e1 : (bits .and .u32 w 263258096 == 18935808) = false) (e2 : (bits .and .u32 w 268435440 == 19922704) = false) (e3 : (bits .and .u32 w 268435440 == 19922736) = true) :
    Calls Try.prog 59 #[.int .u32 w, (.agg (insA i))] W fun e w' => e = .returned (.agg (insCells ({ i with op := 44, rm := fld w 3 0 } : Ins)).toArray) ∧ Below W.heap.size W w' := by
  have G := Lib.hid (fun hi lo hl hm hh W => get_any w h0 h1 hi lo hl hm hh W)
  have B := Lib.hid (fun i hl hh W => bit_any w h0 h1 i hl hh W)
  obtain ⟨hA, hZ, hB⟩ := ins_two i W
  go_enter Try.func59, Try.ntmps59
  go_upto_region 1 with fail
  generalize (W.alloc (.cells (insA i) 61)).alloc (.cells zInsA 61) = W2 at hA hZ hB ⊢
  generalize Value.agg (insA i) = vi
  obtain ⟨c0, c1, c2, c3, c4, c5, c6, c7, c8, c9, c10, c11, c12, c13, c14, c15, c16, c17, c18, c19⟩ := ins_at (hA)
  have hf := hA.frozen
  go_upto_region 14 with (first | (first | (go_at_call 38; with_reducible refine (G.out _ _ ?_ ?_ ?_ _).mono ?_; (any_goals (first | omega | decide)); rintro e w' ⟨rfl, rfl⟩) | (go_at_call 41; with_reducible refine (B.out _ ?_ ?_ _).mono ?_; (any_goals (first | omega | decide)); rintro e w' ⟨rfl, rfl⟩) | (go_at_call 76; with_reducible refine (compares_is _ _).mono ?_; rintro e w' ⟨rfl, rfl⟩) | (go_at_call 77; with_reducible refine (moves_is _ _).mono ?_; rintro e w' ⟨rfl, rfl⟩)) | (go_at_call 61; with_reducible refine (small_is _ _).mono ?_; rintro e w' ⟨rfl, rfl⟩) | (go_at_call 75; with_reducible refine (half_is _ _ ?_ ?_ _).mono ?_; (any_goals (first | omega | assumption)); rintro e w' ⟨rfl, rfl⟩))
  go_wp2_with (first | (refine wpList_load_ins rfl (.tmp 3) rfl (W.heap.size) ({ i with op := 44, rm := fld w 3 0 } : Ins) rfl ((hA.set_ 1 _).set_ 6 _) ?_) | (refine wpList_store_ins rfl (.tmp 4) (.tmp 82) rfl (W.heap.size + 1) ({ i with op := 44, rm := fld w 3 0 } : Ins) zIns rfl rfl ((hZ.far (by simp) _).far (by simp) _) ?_; intro w8 B8 g8))
  refine ret_ins 4 (W.heap.size + 1) ({ i with op := 44, rm := fld w 3 0 } : Ins) rfl rfl B8 rfl ⟨rfl, ?_⟩
  exact bgrow ((hB.setCell (Nat.le_refl _) _).setCell (Nat.le_refl _) _) g8 (by omega)
theorem special_5b (w : Int) (h0 : 0 ≤ w) (h1 : w < 4294967296) (i : Ins) (W : World) (p1 : (bits .and .u32 w 263196656 == 16777216) = true) (p2 : (fld w 19 16 == 15) = false) (e1 : (bits .and .u32 w 263258096 == 18935808) = false) (e2 : (bits .and .u32 w 268435440 == 19922704) = false) (e3 : (bits .and .u32 w 268435440 == 19922736) = false) (e4 : (bits .and .u32 w 267387120 == 18874480) = true) :
    Calls Try.prog 59 #[.int .u32 w, (.agg (insA i))] W fun e w' => e = .returned (.agg (insCells ({ i with op := 46, imm := immI w 19 8 } : Ins)).toArray) ∧ Below W.heap.size W w' := by
  have G := Lib.hid (fun hi lo hl hm hh W => get_any w h0 h1 hi lo hl hm hh W)
  have B := Lib.hid (fun i hl hh W => bit_any w h0 h1 i hl hh W)
  obtain ⟨hA, hZ, hB⟩ := ins_two i W
  go_enter Try.func59, Try.ntmps59
  go_upto_region 1 with fail
  generalize (W.alloc (.cells (insA i) 61)).alloc (.cells zInsA 61) = W2 at hA hZ hB ⊢
  generalize Value.agg (insA i) = vi
  obtain ⟨c0, c1, c2, c3, c4, c5, c6, c7, c8, c9, c10, c11, c12, c13, c14, c15, c16, c17, c18, c19⟩ := ins_at (hA)
  have hf := hA.frozen
  go_upto_region 14 with (first | (first | (go_at_call 38; with_reducible refine (G.out _ _ ?_ ?_ ?_ _).mono ?_; (any_goals (first | omega | decide)); rintro e w' ⟨rfl, rfl⟩) | (go_at_call 41; with_reducible refine (B.out _ ?_ ?_ _).mono ?_; (any_goals (first | omega | decide)); rintro e w' ⟨rfl, rfl⟩) | (go_at_call 76; with_reducible refine (compares_is _ _).mono ?_; rintro e w' ⟨rfl, rfl⟩) | (go_at_call 77; with_reducible refine (moves_is _ _).mono ?_; rintro e w' ⟨rfl, rfl⟩)) | (go_at_call 61; with_reducible refine (small_is _ _).mono ?_; rintro e w' ⟨rfl, rfl⟩) | (go_at_call 75; with_reducible refine (half_is _ _ ?_ ?_ _).mono ?_; (any_goals (first | omega | assumption)); rintro e w' ⟨rfl, rfl⟩))
  go_wp2_with (first | (refine wpList_load_ins rfl (.tmp 3) rfl (W.heap.size) ({ i with op := 46, imm := immI w 19 8 } : Ins) rfl ((hA.set_ 1 _).set_ 9 _) ?_) | (refine wpList_store_ins rfl (.tmp 4) (.tmp 82) rfl (W.heap.size + 1) ({ i with op := 46, imm := immI w 19 8 } : Ins) zIns rfl rfl ((hZ.far (by simp) _).far (by simp) _) ?_; intro w8 B8 g8))
  refine ret_ins 4 (W.heap.size + 1) ({ i with op := 46, imm := immI w 19 8 } : Ins) rfl rfl B8 rfl ⟨rfl, ?_⟩
  exact bgrow ((hB.setCell (Nat.le_refl _) _).setCell (Nat.le_refl _) _) g8 (by omega)
theorem special_6b (w : Int) (h0 : 0 ≤ w) (h1 : w < 4294967296) (i : Ins) (W : World) (p1 : (bits .and .u32 w 263196656 == 16777216) = true) (p2 : (fld w 19 16 == 15) = false) (e1 : (bits .and .u32 w 263258096 == 18935808) = false) (e2 : (bits .and .u32 w 268435440 == 19922704) = false) (e3 : (bits .and .u32 w 268435440 == 19922736) = false) (e4 : (bits .and .u32 w 267387120 == 18874480) = false) (e5 : (bits .and .u32 w 268374000 == 24055568) = true) :
    Calls Try.prog 59 #[.int .u32 w, (.agg (insA i))] W fun e w' => e = .returned (.agg (insCells ({ i with op := 25, rd := fld w 15 12, rm := fld w 3 0 } : Ins)).toArray) ∧ Below W.heap.size W w' := by
  have G := Lib.hid (fun hi lo hl hm hh W => get_any w h0 h1 hi lo hl hm hh W)
  have B := Lib.hid (fun i hl hh W => bit_any w h0 h1 i hl hh W)
  obtain ⟨hA, hZ, hB⟩ := ins_two i W
  go_enter Try.func59, Try.ntmps59
  go_upto_region 1 with fail
  generalize (W.alloc (.cells (insA i) 61)).alloc (.cells zInsA 61) = W2 at hA hZ hB ⊢
  generalize Value.agg (insA i) = vi
  obtain ⟨c0, c1, c2, c3, c4, c5, c6, c7, c8, c9, c10, c11, c12, c13, c14, c15, c16, c17, c18, c19⟩ := ins_at (hA)
  have hf := hA.frozen
  go_upto_region 14 with (first | (first | (go_at_call 38; with_reducible refine (G.out _ _ ?_ ?_ ?_ _).mono ?_; (any_goals (first | omega | decide)); rintro e w' ⟨rfl, rfl⟩) | (go_at_call 41; with_reducible refine (B.out _ ?_ ?_ _).mono ?_; (any_goals (first | omega | decide)); rintro e w' ⟨rfl, rfl⟩) | (go_at_call 76; with_reducible refine (compares_is _ _).mono ?_; rintro e w' ⟨rfl, rfl⟩) | (go_at_call 77; with_reducible refine (moves_is _ _).mono ?_; rintro e w' ⟨rfl, rfl⟩)) | (go_at_call 61; with_reducible refine (small_is _ _).mono ?_; rintro e w' ⟨rfl, rfl⟩) | (go_at_call 75; with_reducible refine (half_is _ _ ?_ ?_ _).mono ?_; (any_goals (first | omega | assumption)); rintro e w' ⟨rfl, rfl⟩))
  go_wp2_with (first | (refine wpList_load_ins rfl (.tmp 3) rfl (W.heap.size) ({ i with op := 25, rd := fld w 15 12, rm := fld w 3 0 } : Ins) rfl (((hA.set_ 1 _).set_ 4 _).set_ 6 _) ?_) | (refine wpList_store_ins rfl (.tmp 4) (.tmp 82) rfl (W.heap.size + 1) ({ i with op := 25, rd := fld w 15 12, rm := fld w 3 0 } : Ins) zIns rfl rfl (((hZ.far (by simp) _).far (by simp) _).far (by simp) _) ?_; intro w8 B8 g8))
  refine ret_ins 4 (W.heap.size + 1) ({ i with op := 25, rd := fld w 15 12, rm := fld w 3 0 } : Ins) rfl rfl B8 rfl ⟨rfl, ?_⟩
  exact bgrow (((hB.setCell (Nat.le_refl _) _).setCell (Nat.le_refl _) _).setCell (Nat.le_refl _) _) g8 (by omega)
theorem special_7b (w : Int) (h0 : 0 ≤ w) (h1 : w < 4294967296) (i : Ins) (W : World) (p1 : (bits .and .u32 w 263196656 == 16777216) = true) (p2 : (fld w 19 16 == 15) = false) (e1 : (bits .and .u32 w 263258096 == 18935808) = false) (e2 : (bits .and .u32 w 268435440 == 19922704) = false) (e3 : (bits .and .u32 w 268435440 == 19922736) = false) (e4 : (bits .and .u32 w 267387120 == 18874480) = false) (e5 : (bits .and .u32 w 268374000 == 24055568) = false) :
    Calls Try.prog 59 #[.int .u32 w, (.agg (insA i))] W fun e w' => e = .returned (.agg (insCells zIns).toArray) ∧ Below W.heap.size W w' := by
  have G := Lib.hid (fun hi lo hl hm hh W => get_any w h0 h1 hi lo hl hm hh W)
  have B := Lib.hid (fun i hl hh W => bit_any w h0 h1 i hl hh W)
  obtain ⟨hA, hZ, hB⟩ := ins_two i W
  go_enter Try.func59, Try.ntmps59
  go_upto_region 1 with fail
  generalize (W.alloc (.cells (insA i) 61)).alloc (.cells zInsA 61) = W2 at hA hZ hB ⊢
  generalize Value.agg (insA i) = vi
  obtain ⟨c0, c1, c2, c3, c4, c5, c6, c7, c8, c9, c10, c11, c12, c13, c14, c15, c16, c17, c18, c19⟩ := ins_at (hA)
  have hf := hA.frozen
  go_upto_region 1 with (first | (first | (go_at_call 38; with_reducible refine (G.out _ _ ?_ ?_ ?_ _).mono ?_; (any_goals (first | omega | decide)); rintro e w' ⟨rfl, rfl⟩) | (go_at_call 41; with_reducible refine (B.out _ ?_ ?_ _).mono ?_; (any_goals (first | omega | decide)); rintro e w' ⟨rfl, rfl⟩) | (go_at_call 76; with_reducible refine (compares_is _ _).mono ?_; rintro e w' ⟨rfl, rfl⟩) | (go_at_call 77; with_reducible refine (moves_is _ _).mono ?_; rintro e w' ⟨rfl, rfl⟩)) | (go_at_call 61; with_reducible refine (small_is _ _).mono ?_; rintro e w' ⟨rfl, rfl⟩) | (go_at_call 75; with_reducible refine (half_is _ _ ?_ ?_ _).mono ?_; (any_goals (first | omega | assumption)); rintro e w' ⟨rfl, rfl⟩))
  go_wp2_with (refine wpList_store_ins rfl (.tmp 4) (.tmp 5) rfl (W.heap.size + 1) zIns zIns rfl rfl hZ ?_; intro w8 B8 g8)
  refine ret_ins 4 (W.heap.size + 1) zIns rfl rfl B8 rfl ⟨rfl, ?_⟩
  exact bgrow hB g8 (by omega)
theorem special_2c (w : Int) (h0 : 0 ≤ w) (h1 : w < 4294967296) (i : Ins) (W : World) (p1 : (bits .and .u32 w 263196656 == 16777216) = true) (p2 : (fld w 19 16 == 15) = true) (p3 : (fld w 3 0 == 0) = false) (e1 : (bits .and .u32 w 263258096 == 18935808) = true) :
    Calls Try.prog 59 #[.int .u32 w, (.agg (insA i))] W fun e w' => e = .returned (.agg (insCells ({ i with op := 48, s := bt w 22, form := 2, amount := fld w 19 16, rm := fld w 3 0 } : Ins)).toArray) ∧ Below W.heap.size W w' := by
  have G := Lib.hid (fun hi lo hl hm hh W => get_any w h0 h1 hi lo hl hm hh W)
  have B := Lib.hid (fun i hl hh W => bit_any w h0 h1 i hl hh W)
  obtain ⟨hA, hZ, hB⟩ := ins_two i W
  go_enter Try.func59, Try.ntmps59
  go_upto_region 1 with fail
  generalize (W.alloc (.cells (insA i) 61)).alloc (.cells zInsA 61) = W2 at hA hZ hB ⊢
  generalize Value.agg (insA i) = vi
  obtain ⟨c0, c1, c2, c3, c4, c5, c6, c7, c8, c9, c10, c11, c12, c13, c14, c15, c16, c17, c18, c19⟩ := ins_at (hA)
  have hf := hA.frozen
  go_upto_region 14 with (first | (first | (go_at_call 38; with_reducible refine (G.out _ _ ?_ ?_ ?_ _).mono ?_; (any_goals (first | omega | decide)); rintro e w' ⟨rfl, rfl⟩) | (go_at_call 41; with_reducible refine (B.out _ ?_ ?_ _).mono ?_; (any_goals (first | omega | decide)); rintro e w' ⟨rfl, rfl⟩) | (go_at_call 76; with_reducible refine (compares_is _ _).mono ?_; rintro e w' ⟨rfl, rfl⟩) | (go_at_call 77; with_reducible refine (moves_is _ _).mono ?_; rintro e w' ⟨rfl, rfl⟩)) | (go_at_call 61; with_reducible refine (small_is _ _).mono ?_; rintro e w' ⟨rfl, rfl⟩) | (go_at_call 75; with_reducible refine (half_is _ _ ?_ ?_ _).mono ?_; (any_goals (first | omega | assumption)); rintro e w' ⟨rfl, rfl⟩))
  go_wp2_with (first | (refine wpList_load_ins rfl (.tmp 3) rfl (W.heap.size) ({ i with op := 48, s := bt w 22, form := 2, amount := fld w 19 16, rm := fld w 3 0 } : Ins) rfl (((((hA.set_ 1 _).set_ 2 _).set_ 3 _).set_ 11 _).set_ 6 _) ?_) | (refine wpList_store_ins rfl (.tmp 4) (.tmp 82) rfl (W.heap.size + 1) ({ i with op := 48, s := bt w 22, form := 2, amount := fld w 19 16, rm := fld w 3 0 } : Ins) zIns rfl rfl (((((hZ.far (by simp) _).far (by simp) _).far (by simp) _).far (by simp) _).far (by simp) _) ?_; intro w8 B8 g8))
  refine ret_ins 4 (W.heap.size + 1) ({ i with op := 48, s := bt w 22, form := 2, amount := fld w 19 16, rm := fld w 3 0 } : Ins) rfl rfl B8 rfl ⟨rfl, ?_⟩
  exact bgrow (((((hB.setCell (Nat.le_refl _) _).setCell (Nat.le_refl _) _).setCell (Nat.le_refl _) _).setCell (Nat.le_refl _) _).setCell (Nat.le_refl _) _) g8 (by omega)
theorem special_3c (w : Int) (h0 : 0 ≤ w) (h1 : w < 4294967296) (i : Ins) (W : World) (p1 : (bits .and .u32 w 263196656 == 16777216) = true) (p2 : (fld w 19 16 == 15) = true) (p3 : (fld w 3 0 == 0) = false) (e1 : (bits .and .u32 w 263258096 == 18935808) = false) (e2 : (bits .and .u32 w 268435440 == 19922704) = true) :
    Calls Try.prog 59 #[.int .u32 w, (.agg (insA i))] W fun e w' => e = .returned (.agg (insCells ({ i with op := 43, rm := fld w 3 0 } : Ins)).toArray) ∧ Below W.heap.size W w' := by
  have G := Lib.hid (fun hi lo hl hm hh W => get_any w h0 h1 hi lo hl hm hh W)
  have B := Lib.hid (fun i hl hh W => bit_any w h0 h1 i hl hh W)
  obtain ⟨hA, hZ, hB⟩ := ins_two i W
  go_enter Try.func59, Try.ntmps59
  go_upto_region 1 with fail
  generalize (W.alloc (.cells (insA i) 61)).alloc (.cells zInsA 61) = W2 at hA hZ hB ⊢
  generalize Value.agg (insA i) = vi
  obtain ⟨c0, c1, c2, c3, c4, c5, c6, c7, c8, c9, c10, c11, c12, c13, c14, c15, c16, c17, c18, c19⟩ := ins_at (hA)
  have hf := hA.frozen
  go_upto_region 14 with (first | (first | (go_at_call 38; with_reducible refine (G.out _ _ ?_ ?_ ?_ _).mono ?_; (any_goals (first | omega | decide)); rintro e w' ⟨rfl, rfl⟩) | (go_at_call 41; with_reducible refine (B.out _ ?_ ?_ _).mono ?_; (any_goals (first | omega | decide)); rintro e w' ⟨rfl, rfl⟩) | (go_at_call 76; with_reducible refine (compares_is _ _).mono ?_; rintro e w' ⟨rfl, rfl⟩) | (go_at_call 77; with_reducible refine (moves_is _ _).mono ?_; rintro e w' ⟨rfl, rfl⟩)) | (go_at_call 61; with_reducible refine (small_is _ _).mono ?_; rintro e w' ⟨rfl, rfl⟩) | (go_at_call 75; with_reducible refine (half_is _ _ ?_ ?_ _).mono ?_; (any_goals (first | omega | assumption)); rintro e w' ⟨rfl, rfl⟩))
  go_wp2_with (first | (refine wpList_load_ins rfl (.tmp 3) rfl (W.heap.size) ({ i with op := 43, rm := fld w 3 0 } : Ins) rfl ((hA.set_ 1 _).set_ 6 _) ?_) | (refine wpList_store_ins rfl (.tmp 4) (.tmp 82) rfl (W.heap.size + 1) ({ i with op := 43, rm := fld w 3 0 } : Ins) zIns rfl rfl ((hZ.far (by simp) _).far (by simp) _) ?_; intro w8 B8 g8))
  refine ret_ins 4 (W.heap.size + 1) ({ i with op := 43, rm := fld w 3 0 } : Ins) rfl rfl B8 rfl ⟨rfl, ?_⟩
  exact bgrow ((hB.setCell (Nat.le_refl _) _).setCell (Nat.le_refl _) _) g8 (by omega)
theorem special_4c (w : Int) (h0 : 0 ≤ w) (h1 : w < 4294967296) (i : Ins) (W : World) (p1 : (bits .and .u32 w 263196656 == 16777216) = true) (p2 : (fld w 19 16 == 15) = true) (p3 : (fld w 3 0 == 0) = false) (e1 : (bits .and .u32 w 263258096 == 18935808) = false) (e2 : (bits .and .u32 w 268435440 == 19922704) = false) (e3 : (bits .and .u32 w 268435440 == 19922736) = true) :
    Calls Try.prog 59 #[.int .u32 w, (.agg (insA i))] W fun e w' => e = .returned (.agg (insCells ({ i with op := 44, rm := fld w 3 0 } : Ins)).toArray) ∧ Below W.heap.size W w' := by
  have G := Lib.hid (fun hi lo hl hm hh W => get_any w h0 h1 hi lo hl hm hh W)
  have B := Lib.hid (fun i hl hh W => bit_any w h0 h1 i hl hh W)
  obtain ⟨hA, hZ, hB⟩ := ins_two i W
  go_enter Try.func59, Try.ntmps59
  go_upto_region 1 with fail
  generalize (W.alloc (.cells (insA i) 61)).alloc (.cells zInsA 61) = W2 at hA hZ hB ⊢
  generalize Value.agg (insA i) = vi
  obtain ⟨c0, c1, c2, c3, c4, c5, c6, c7, c8, c9, c10, c11, c12, c13, c14, c15, c16, c17, c18, c19⟩ := ins_at (hA)
  have hf := hA.frozen
  go_upto_region 14 with (first | (first | (go_at_call 38; with_reducible refine (G.out _ _ ?_ ?_ ?_ _).mono ?_; (any_goals (first | omega | decide)); rintro e w' ⟨rfl, rfl⟩) | (go_at_call 41; with_reducible refine (B.out _ ?_ ?_ _).mono ?_; (any_goals (first | omega | decide)); rintro e w' ⟨rfl, rfl⟩) | (go_at_call 76; with_reducible refine (compares_is _ _).mono ?_; rintro e w' ⟨rfl, rfl⟩) | (go_at_call 77; with_reducible refine (moves_is _ _).mono ?_; rintro e w' ⟨rfl, rfl⟩)) | (go_at_call 61; with_reducible refine (small_is _ _).mono ?_; rintro e w' ⟨rfl, rfl⟩) | (go_at_call 75; with_reducible refine (half_is _ _ ?_ ?_ _).mono ?_; (any_goals (first | omega | assumption)); rintro e w' ⟨rfl, rfl⟩))
  go_wp2_with (first | (refine wpList_load_ins rfl (.tmp 3) rfl (W.heap.size) ({ i with op := 44, rm := fld w 3 0 } : Ins) rfl ((hA.set_ 1 _).set_ 6 _) ?_) | (refine wpList_store_ins rfl (.tmp 4) (.tmp 82) rfl (W.heap.size + 1) ({ i with op := 44, rm := fld w 3 0 } : Ins) zIns rfl rfl ((hZ.far (by simp) _).far (by simp) _) ?_; intro w8 B8 g8))
  refine ret_ins 4 (W.heap.size + 1) ({ i with op := 44, rm := fld w 3 0 } : Ins) rfl rfl B8 rfl ⟨rfl, ?_⟩
  exact bgrow ((hB.setCell (Nat.le_refl _) _).setCell (Nat.le_refl _) _) g8 (by omega)
theorem special_5c (w : Int) (h0 : 0 ≤ w) (h1 : w < 4294967296) (i : Ins) (W : World) (p1 : (bits .and .u32 w 263196656 == 16777216) = true) (p2 : (fld w 19 16 == 15) = true) (p3 : (fld w 3 0 == 0) = false) (e1 : (bits .and .u32 w 263258096 == 18935808) = false) (e2 : (bits .and .u32 w 268435440 == 19922704) = false) (e3 : (bits .and .u32 w 268435440 == 19922736) = false) (e4 : (bits .and .u32 w 267387120 == 18874480) = true) :
    Calls Try.prog 59 #[.int .u32 w, (.agg (insA i))] W fun e w' => e = .returned (.agg (insCells ({ i with op := 46, imm := immI w 19 8 } : Ins)).toArray) ∧ Below W.heap.size W w' := by
  have G := Lib.hid (fun hi lo hl hm hh W => get_any w h0 h1 hi lo hl hm hh W)
  have B := Lib.hid (fun i hl hh W => bit_any w h0 h1 i hl hh W)
  obtain ⟨hA, hZ, hB⟩ := ins_two i W
  go_enter Try.func59, Try.ntmps59
  go_upto_region 1 with fail
  generalize (W.alloc (.cells (insA i) 61)).alloc (.cells zInsA 61) = W2 at hA hZ hB ⊢
  generalize Value.agg (insA i) = vi
  obtain ⟨c0, c1, c2, c3, c4, c5, c6, c7, c8, c9, c10, c11, c12, c13, c14, c15, c16, c17, c18, c19⟩ := ins_at (hA)
  have hf := hA.frozen
  go_upto_region 14 with (first | (first | (go_at_call 38; with_reducible refine (G.out _ _ ?_ ?_ ?_ _).mono ?_; (any_goals (first | omega | decide)); rintro e w' ⟨rfl, rfl⟩) | (go_at_call 41; with_reducible refine (B.out _ ?_ ?_ _).mono ?_; (any_goals (first | omega | decide)); rintro e w' ⟨rfl, rfl⟩) | (go_at_call 76; with_reducible refine (compares_is _ _).mono ?_; rintro e w' ⟨rfl, rfl⟩) | (go_at_call 77; with_reducible refine (moves_is _ _).mono ?_; rintro e w' ⟨rfl, rfl⟩)) | (go_at_call 61; with_reducible refine (small_is _ _).mono ?_; rintro e w' ⟨rfl, rfl⟩) | (go_at_call 75; with_reducible refine (half_is _ _ ?_ ?_ _).mono ?_; (any_goals (first | omega | assumption)); rintro e w' ⟨rfl, rfl⟩))
  go_wp2_with (first | (refine wpList_load_ins rfl (.tmp 3) rfl (W.heap.size) ({ i with op := 46, imm := immI w 19 8 } : Ins) rfl ((hA.set_ 1 _).set_ 9 _) ?_) | (refine wpList_store_ins rfl (.tmp 4) (.tmp 82) rfl (W.heap.size + 1) ({ i with op := 46, imm := immI w 19 8 } : Ins) zIns rfl rfl ((hZ.far (by simp) _).far (by simp) _) ?_; intro w8 B8 g8))
  refine ret_ins 4 (W.heap.size + 1) ({ i with op := 46, imm := immI w 19 8 } : Ins) rfl rfl B8 rfl ⟨rfl, ?_⟩
  exact bgrow ((hB.setCell (Nat.le_refl _) _).setCell (Nat.le_refl _) _) g8 (by omega)
theorem special_6c (w : Int) (h0 : 0 ≤ w) (h1 : w < 4294967296) (i : Ins) (W : World) (p1 : (bits .and .u32 w 263196656 == 16777216) = true) (p2 : (fld w 19 16 == 15) = true) (p3 : (fld w 3 0 == 0) = false) (e1 : (bits .and .u32 w 263258096 == 18935808) = false) (e2 : (bits .and .u32 w 268435440 == 19922704) = false) (e3 : (bits .and .u32 w 268435440 == 19922736) = false) (e4 : (bits .and .u32 w 267387120 == 18874480) = false) (e5 : (bits .and .u32 w 268374000 == 24055568) = true) :
    Calls Try.prog 59 #[.int .u32 w, (.agg (insA i))] W fun e w' => e = .returned (.agg (insCells ({ i with op := 25, rd := fld w 15 12, rm := fld w 3 0 } : Ins)).toArray) ∧ Below W.heap.size W w' := by
  have G := Lib.hid (fun hi lo hl hm hh W => get_any w h0 h1 hi lo hl hm hh W)
  have B := Lib.hid (fun i hl hh W => bit_any w h0 h1 i hl hh W)
  obtain ⟨hA, hZ, hB⟩ := ins_two i W
  go_enter Try.func59, Try.ntmps59
  go_upto_region 1 with fail
  generalize (W.alloc (.cells (insA i) 61)).alloc (.cells zInsA 61) = W2 at hA hZ hB ⊢
  generalize Value.agg (insA i) = vi
  obtain ⟨c0, c1, c2, c3, c4, c5, c6, c7, c8, c9, c10, c11, c12, c13, c14, c15, c16, c17, c18, c19⟩ := ins_at (hA)
  have hf := hA.frozen
  go_upto_region 14 with (first | (first | (go_at_call 38; with_reducible refine (G.out _ _ ?_ ?_ ?_ _).mono ?_; (any_goals (first | omega | decide)); rintro e w' ⟨rfl, rfl⟩) | (go_at_call 41; with_reducible refine (B.out _ ?_ ?_ _).mono ?_; (any_goals (first | omega | decide)); rintro e w' ⟨rfl, rfl⟩) | (go_at_call 76; with_reducible refine (compares_is _ _).mono ?_; rintro e w' ⟨rfl, rfl⟩) | (go_at_call 77; with_reducible refine (moves_is _ _).mono ?_; rintro e w' ⟨rfl, rfl⟩)) | (go_at_call 61; with_reducible refine (small_is _ _).mono ?_; rintro e w' ⟨rfl, rfl⟩) | (go_at_call 75; with_reducible refine (half_is _ _ ?_ ?_ _).mono ?_; (any_goals (first | omega | assumption)); rintro e w' ⟨rfl, rfl⟩))
  go_wp2_with (first | (refine wpList_load_ins rfl (.tmp 3) rfl (W.heap.size) ({ i with op := 25, rd := fld w 15 12, rm := fld w 3 0 } : Ins) rfl (((hA.set_ 1 _).set_ 4 _).set_ 6 _) ?_) | (refine wpList_store_ins rfl (.tmp 4) (.tmp 82) rfl (W.heap.size + 1) ({ i with op := 25, rd := fld w 15 12, rm := fld w 3 0 } : Ins) zIns rfl rfl (((hZ.far (by simp) _).far (by simp) _).far (by simp) _) ?_; intro w8 B8 g8))
  refine ret_ins 4 (W.heap.size + 1) ({ i with op := 25, rd := fld w 15 12, rm := fld w 3 0 } : Ins) rfl rfl B8 rfl ⟨rfl, ?_⟩
  exact bgrow (((hB.setCell (Nat.le_refl _) _).setCell (Nat.le_refl _) _).setCell (Nat.le_refl _) _) g8 (by omega)
theorem special_7c (w : Int) (h0 : 0 ≤ w) (h1 : w < 4294967296) (i : Ins) (W : World) (p1 : (bits .and .u32 w 263196656 == 16777216) = true) (p2 : (fld w 19 16 == 15) = true) (p3 : (fld w 3 0 == 0) = false) (e1 : (bits .and .u32 w 263258096 == 18935808) = false) (e2 : (bits .and .u32 w 268435440 == 19922704) = false) (e3 : (bits .and .u32 w 268435440 == 19922736) = false) (e4 : (bits .and .u32 w 267387120 == 18874480) = false) (e5 : (bits .and .u32 w 268374000 == 24055568) = false) :
    Calls Try.prog 59 #[.int .u32 w, (.agg (insA i))] W fun e w' => e = .returned (.agg (insCells zIns).toArray) ∧ Below W.heap.size W w' := by
  have G := Lib.hid (fun hi lo hl hm hh W => get_any w h0 h1 hi lo hl hm hh W)
  have B := Lib.hid (fun i hl hh W => bit_any w h0 h1 i hl hh W)
  obtain ⟨hA, hZ, hB⟩ := ins_two i W
  go_enter Try.func59, Try.ntmps59
  go_upto_region 1 with fail
  generalize (W.alloc (.cells (insA i) 61)).alloc (.cells zInsA 61) = W2 at hA hZ hB ⊢
  generalize Value.agg (insA i) = vi
  obtain ⟨c0, c1, c2, c3, c4, c5, c6, c7, c8, c9, c10, c11, c12, c13, c14, c15, c16, c17, c18, c19⟩ := ins_at (hA)
  have hf := hA.frozen
  go_upto_region 1 with (first | (first | (go_at_call 38; with_reducible refine (G.out _ _ ?_ ?_ ?_ _).mono ?_; (any_goals (first | omega | decide)); rintro e w' ⟨rfl, rfl⟩) | (go_at_call 41; with_reducible refine (B.out _ ?_ ?_ _).mono ?_; (any_goals (first | omega | decide)); rintro e w' ⟨rfl, rfl⟩) | (go_at_call 76; with_reducible refine (compares_is _ _).mono ?_; rintro e w' ⟨rfl, rfl⟩) | (go_at_call 77; with_reducible refine (moves_is _ _).mono ?_; rintro e w' ⟨rfl, rfl⟩)) | (go_at_call 61; with_reducible refine (small_is _ _).mono ?_; rintro e w' ⟨rfl, rfl⟩) | (go_at_call 75; with_reducible refine (half_is _ _ ?_ ?_ _).mono ?_; (any_goals (first | omega | assumption)); rintro e w' ⟨rfl, rfl⟩))
  go_wp2_with (refine wpList_store_ins rfl (.tmp 4) (.tmp 5) rfl (W.heap.size + 1) zIns zIns rfl rfl hZ ?_; intro w8 B8 g8)
  refine ret_ins 4 (W.heap.size + 1) zIns rfl rfl B8 rfl ⟨rfl, ?_⟩
  exact bgrow hB g8 (by omega)
end Go.Proofs.Ytpfhplhamnohjaa
