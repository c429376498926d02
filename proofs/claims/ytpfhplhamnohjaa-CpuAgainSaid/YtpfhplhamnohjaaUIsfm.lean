/- Layer 19: single loads and stores, products. -/
import Derived.Test.YtpfhplhamnohjaaUIscm
namespace Go.Proofs.Ytpfhplhamnohjaa
set_option maxHeartbeats 25600000
set_option maxRecDepth 100000
open Go.RowKit

theorem single_0_a (w : Int) (h0 : 0 ≤ w) (h1 : w < 4294967296) (i : Ins) (W : World) (n1 : fld w 22 22 = 0) (n2 : fld w 20 20 = 0) (p1 : bt w 25 = false) :
    Calls Try.prog 43 #[.int .u32 w, (.agg (insA i))] W fun e w' => e = .returned (.agg (insCells ({ i with op := 32, pre := bt w 24, up := bt w 23, write := bt w 21, rn := fld w 19 16, rd := fld w 15 12, form := 1, imm := fld w 11 0 } : Ins)).toArray) ∧ Below W.heap.size W w' := by
  have G := Lib.hid (fun hi lo hl hm hh W => get_any w h0 h1 hi lo hl hm hh W)
  have B := Lib.hid (fun i hl hh W => bit_any w h0 h1 i hl hh W)
  obtain ⟨hA, hZ, hB⟩ := ins_two i W
  go_enter Try.func43, Try.ntmps43
  go_upto_region 1 with fail
  generalize (W.alloc (.cells (insA i) 61)).alloc (.cells zInsA 61) = W2 at hA hZ hB ⊢
  generalize Value.agg (insA i) = vi
  obtain ⟨c0, c1, c2, c3, c4, c5, c6, c7, c8, c9, c10, c11, c12, c13, c14, c15, c16, c17, c18, c19⟩ := ins_at (hA)
  have hf := hA.frozen
  have b11 := fld_le w 11 0
  have b11a : 0 ≤ fld w 11 0 := b11.1
  have b11b : fld w 11 0 < 4096 := by have := b11.2; simpa using this
  have b19 := fld_le w 19 16
  have b19a : 0 ≤ fld w 19 16 := b19.1
  have b19b : fld w 19 16 < 16 := by have := b19.2; simpa using this
  clear b11 b19
  go_upto_region 2 with (first | (first | (go_at_call 38; with_reducible refine (G.out _ _ ?_ ?_ ?_ _).mono ?_; (any_goals (first | omega | decide)); rintro e w' ⟨rfl, rfl⟩) | (go_at_call 41; with_reducible refine (B.out _ ?_ ?_ _).mono ?_; (any_goals (first | omega | decide)); rintro e w' ⟨rfl, rfl⟩) | (go_at_call 76; with_reducible refine (compares_is _ _).mono ?_; rintro e w' ⟨rfl, rfl⟩) | (go_at_call 77; with_reducible refine (moves_is _ _).mono ?_; rintro e w' ⟨rfl, rfl⟩)) | (go_at_call 61; with_reducible refine (small_is _ _).mono ?_; rintro e w' ⟨rfl, rfl⟩) | (go_at_call 75; with_reducible refine (half_is _ _ ?_ ?_ _).mono ?_; (any_goals (first | omega | assumption)); rintro e w' ⟨rfl, rfl⟩))
  have hN : Blok (W2.alloc (.cells #[.int .i64 32, .int .i64 31, .int .i64 34, .int .i64 33] 123)) W2.heap.size 123 [.int .i64 32, .int .i64 31, .int .i64 34, .int .i64 33] := Blok.new W2 _ _
  have hA' := hA.alloc (.cells #[.int .i64 32, .int .i64 31, .int .i64 34, .int .i64 33] 123)
  have hZ' := hZ.alloc (.cells #[.int .i64 32, .int .i64 31, .int .i64 34, .int .i64 33] 123)
  have hB' := hB.alloc hB.size (.cells #[.int .i64 32, .int .i64 31, .int .i64 34, .int .i64 33] 123)
  have hlt : W.heap.size + 1 < W2.heap.size := hZ.lt
  clear hA hZ hB c0 c1 c2 c3 c4 c5 c6 c7 c8 c9 c10 c11 c12 c13 c14 c15 c16 c17 c18 c19 hf
  generalize W2.alloc (.cells #[.int .i64 32, .int .i64 31, .int .i64 34, .int .i64 33] 123) = W3 at hA' hZ' hB' hN ⊢
  generalize W2.heap.size = b3 at hN hlt ⊢
  rename Blok W3 W.heap.size _ _ => hA
  rename Blok W3 (W.heap.size + 1) _ _ => hZ
  rename Below W.heap.size W W3 => hB
  obtain ⟨c0, c1, c2, c3, c4, c5, c6, c7, c8, c9, c10, c11, c12, c13, c14, c15, c16, c17, c18, c19⟩ := ins_at (hA)
  have hf := hA.frozen
  have hn : W3.cell? ⟨b3, 0, none⟩ = some (.int .i64 32) := hN.cell 0
  have hne : ¬ b3 = W.heap.size := by omega
  have hne2 : ¬ W.heap.size = b3 := by omega
  go_upto_region 7 with (first | (first | (go_at_call 38; with_reducible refine (G.out _ _ ?_ ?_ ?_ _).mono ?_; (any_goals (first | omega | decide)); rintro e w' ⟨rfl, rfl⟩) | (go_at_call 41; with_reducible refine (B.out _ ?_ ?_ _).mono ?_; (any_goals (first | omega | decide)); rintro e w' ⟨rfl, rfl⟩) | (go_at_call 76; with_reducible refine (compares_is _ _).mono ?_; rintro e w' ⟨rfl, rfl⟩) | (go_at_call 77; with_reducible refine (moves_is _ _).mono ?_; rintro e w' ⟨rfl, rfl⟩)) | (go_at_call 61; with_reducible refine (small_is _ _).mono ?_; rintro e w' ⟨rfl, rfl⟩) | (go_at_call 75; with_reducible refine (half_is _ _ ?_ ?_ _).mono ?_; (any_goals (first | omega | assumption)); rintro e w' ⟨rfl, rfl⟩))
  go_wp2_with (first | (refine wpList_load_ins rfl (.tmp 3) rfl (W.heap.size) ({ i with op := 32, pre := bt w 24, up := bt w 23, write := bt w 21, rn := fld w 19 16, rd := fld w 15 12, form := 1, imm := fld w 11 0 } : Ins) rfl ((((((((hA.set_ 1 _).set_ 12 _).set_ 13 _).set_ 14 _).set_ 5 _).set_ 4 _).set_ 3 _).set_ 9 _) ?_) | (refine wpList_store_ins rfl (.tmp 4) (.tmp 39) rfl (W.heap.size + 1) ({ i with op := 32, pre := bt w 24, up := bt w 23, write := bt w 21, rn := fld w 19 16, rd := fld w 15 12, form := 1, imm := fld w 11 0 } : Ins) zIns rfl rfl ((((((((hZ.far (by simp) _).far (by simp) _).far (by simp) _).far (by simp) _).far (by simp) _).far (by simp) _).far (by simp) _).far (by simp) _) ?_; intro w8 B8 g8))
  refine ret_ins 4 (W.heap.size + 1) ({ i with op := 32, pre := bt w 24, up := bt w 23, write := bt w 21, rn := fld w 19 16, rd := fld w 15 12, form := 1, imm := fld w 11 0 } : Ins) rfl rfl B8 rfl ⟨rfl, ?_⟩
  exact bgrow ((((((((hB.setCell (Nat.le_refl _) _).setCell (Nat.le_refl _) _).setCell (Nat.le_refl _) _).setCell (Nat.le_refl _) _).setCell (Nat.le_refl _) _).setCell (Nat.le_refl _) _).setCell (Nat.le_refl _) _).setCell (Nat.le_refl _) _) g8 (by omega)
theorem single_0_b (w : Int) (h0 : 0 ≤ w) (h1 : w < 4294967296) (i : Ins) (W : World) (n1 : fld w 22 22 = 0) (n2 : fld w 20 20 = 0) (p1 : bt w 25 = true) :
    Calls Try.prog 43 #[.int .u32 w, (.agg (insA i))] W fun e w' => e = .returned (.agg (insCells ({ i with op := 32, pre := bt w 24, up := bt w 23, write := bt w 21, rn := fld w 19 16, rd := fld w 15 12, form := 2, amount := fld w 11 7, shift := fld w 6 5, rm := fld w 3 0 } : Ins)).toArray) ∧ Below W.heap.size W w' := by
  have G := Lib.hid (fun hi lo hl hm hh W => get_any w h0 h1 hi lo hl hm hh W)
  have B := Lib.hid (fun i hl hh W => bit_any w h0 h1 i hl hh W)
  obtain ⟨hA, hZ, hB⟩ := ins_two i W
  go_enter Try.func43, Try.ntmps43
  go_upto_region 1 with fail
  generalize (W.alloc (.cells (insA i) 61)).alloc (.cells zInsA 61) = W2 at hA hZ hB ⊢
  generalize Value.agg (insA i) = vi
  obtain ⟨c0, c1, c2, c3, c4, c5, c6, c7, c8, c9, c10, c11, c12, c13, c14, c15, c16, c17, c18, c19⟩ := ins_at (hA)
  have hf := hA.frozen
  go_upto_region 2 with (first | (first | (go_at_call 38; with_reducible refine (G.out _ _ ?_ ?_ ?_ _).mono ?_; (any_goals (first | omega | decide)); rintro e w' ⟨rfl, rfl⟩) | (go_at_call 41; with_reducible refine (B.out _ ?_ ?_ _).mono ?_; (any_goals (first | omega | decide)); rintro e w' ⟨rfl, rfl⟩) | (go_at_call 76; with_reducible refine (compares_is _ _).mono ?_; rintro e w' ⟨rfl, rfl⟩) | (go_at_call 77; with_reducible refine (moves_is _ _).mono ?_; rintro e w' ⟨rfl, rfl⟩)) | (go_at_call 61; with_reducible refine (small_is _ _).mono ?_; rintro e w' ⟨rfl, rfl⟩) | (go_at_call 75; with_reducible refine (half_is _ _ ?_ ?_ _).mono ?_; (any_goals (first | omega | assumption)); rintro e w' ⟨rfl, rfl⟩))
  have hN : Blok (W2.alloc (.cells #[.int .i64 32, .int .i64 31, .int .i64 34, .int .i64 33] 123)) W2.heap.size 123 [.int .i64 32, .int .i64 31, .int .i64 34, .int .i64 33] := Blok.new W2 _ _
  have hA' := hA.alloc (.cells #[.int .i64 32, .int .i64 31, .int .i64 34, .int .i64 33] 123)
  have hZ' := hZ.alloc (.cells #[.int .i64 32, .int .i64 31, .int .i64 34, .int .i64 33] 123)
  have hB' := hB.alloc hB.size (.cells #[.int .i64 32, .int .i64 31, .int .i64 34, .int .i64 33] 123)
  have hlt : W.heap.size + 1 < W2.heap.size := hZ.lt
  clear hA hZ hB c0 c1 c2 c3 c4 c5 c6 c7 c8 c9 c10 c11 c12 c13 c14 c15 c16 c17 c18 c19 hf
  generalize W2.alloc (.cells #[.int .i64 32, .int .i64 31, .int .i64 34, .int .i64 33] 123) = W3 at hA' hZ' hB' hN ⊢
  generalize W2.heap.size = b3 at hN hlt ⊢
  rename Blok W3 W.heap.size _ _ => hA
  rename Blok W3 (W.heap.size + 1) _ _ => hZ
  rename Below W.heap.size W W3 => hB
  obtain ⟨c0, c1, c2, c3, c4, c5, c6, c7, c8, c9, c10, c11, c12, c13, c14, c15, c16, c17, c18, c19⟩ := ins_at (hA)
  have hf := hA.frozen
  have hn : W3.cell? ⟨b3, 0, none⟩ = some (.int .i64 32) := hN.cell 0
  have hne : ¬ b3 = W.heap.size := by omega
  have hne2 : ¬ W.heap.size = b3 := by omega
  go_upto_region 9 with (first | (first | (go_at_call 38; with_reducible refine (G.out _ _ ?_ ?_ ?_ _).mono ?_; (any_goals (first | omega | decide)); rintro e w' ⟨rfl, rfl⟩) | (go_at_call 41; with_reducible refine (B.out _ ?_ ?_ _).mono ?_; (any_goals (first | omega | decide)); rintro e w' ⟨rfl, rfl⟩) | (go_at_call 76; with_reducible refine (compares_is _ _).mono ?_; rintro e w' ⟨rfl, rfl⟩) | (go_at_call 77; with_reducible refine (moves_is _ _).mono ?_; rintro e w' ⟨rfl, rfl⟩)) | (go_at_call 61; with_reducible refine (small_is _ _).mono ?_; rintro e w' ⟨rfl, rfl⟩) | (go_at_call 75; with_reducible refine (half_is _ _ ?_ ?_ _).mono ?_; (any_goals (first | omega | assumption)); rintro e w' ⟨rfl, rfl⟩))
  go_wp2_with (first | (refine wpList_load_ins rfl (.tmp 3) rfl (W.heap.size) ({ i with op := 32, pre := bt w 24, up := bt w 23, write := bt w 21, rn := fld w 19 16, rd := fld w 15 12, form := 2, amount := fld w 11 7, shift := fld w 6 5, rm := fld w 3 0 } : Ins) rfl ((((((((((hA.set_ 1 _).set_ 12 _).set_ 13 _).set_ 14 _).set_ 5 _).set_ 4 _).set_ 3 _).set_ 11 _).set_ 10 _).set_ 6 _) ?_) | (refine wpList_store_ins rfl (.tmp 4) (.tmp 50) rfl (W.heap.size + 1) ({ i with op := 32, pre := bt w 24, up := bt w 23, write := bt w 21, rn := fld w 19 16, rd := fld w 15 12, form := 2, amount := fld w 11 7, shift := fld w 6 5, rm := fld w 3 0 } : Ins) zIns rfl rfl ((((((((((hZ.far (by simp) _).far (by simp) _).far (by simp) _).far (by simp) _).far (by simp) _).far (by simp) _).far (by simp) _).far (by simp) _).far (by simp) _).far (by simp) _) ?_; intro w8 B8 g8))
  refine ret_ins 4 (W.heap.size + 1) ({ i with op := 32, pre := bt w 24, up := bt w 23, write := bt w 21, rn := fld w 19 16, rd := fld w 15 12, form := 2, amount := fld w 11 7, shift := fld w 6 5, rm := fld w 3 0 } : Ins) rfl rfl B8 rfl ⟨rfl, ?_⟩
  exact bgrow ((((((((((hB.setCell (Nat.le_refl _) _).setCell (Nat.le_refl _) _).setCell (Nat.le_refl _) _).setCell (Nat.le_refl _) _).setCell (Nat.le_refl _) _).setCell (Nat.le_refl _) _).setCell (Nat.le_refl _) _).setCell (Nat.le_refl _) _).setCell (Nat.le_refl _) _).setCell (Nat.le_refl _) _) g8 (by omega)
theorem single_1_a (w : Int) (h0 : 0 ≤ w) (h1 : w < 4294967296) (i : Ins) (W : World) (n1 : fld w 22 22 = 0) (n2 : fld w 20 20 = 1) (p1 : bt w 25 = false) :
    Calls Try.prog 43 #[.int .u32 w, (.agg (insA i))] W fun e w' => e = .returned (.agg (insCells ({ i with op := 31, pre := bt w 24, up := bt w 23, write := bt w 21, rn := fld w 19 16, rd := fld w 15 12, form := 1, imm := fld w 11 0 } : Ins)).toArray) ∧ Below W.heap.size W w' := by
  have G := Lib.hid (fun hi lo hl hm hh W => get_any w h0 h1 hi lo hl hm hh W)
  have B := Lib.hid (fun i hl hh W => bit_any w h0 h1 i hl hh W)
  obtain ⟨hA, hZ, hB⟩ := ins_two i W
  go_enter Try.func43, Try.ntmps43
  go_upto_region 1 with fail
  generalize (W.alloc (.cells (insA i) 61)).alloc (.cells zInsA 61) = W2 at hA hZ hB ⊢
  generalize Value.agg (insA i) = vi
  obtain ⟨c0, c1, c2, c3, c4, c5, c6, c7, c8, c9, c10, c11, c12, c13, c14, c15, c16, c17, c18, c19⟩ := ins_at (hA)
  have hf := hA.frozen
  have b11 := fld_le w 11 0
  have b11a : 0 ≤ fld w 11 0 := b11.1
  have b11b : fld w 11 0 < 4096 := by have := b11.2; simpa using this
  have b19 := fld_le w 19 16
  have b19a : 0 ≤ fld w 19 16 := b19.1
  have b19b : fld w 19 16 < 16 := by have := b19.2; simpa using this
  clear b11 b19
  go_upto_region 2 with (first | (first | (go_at_call 38; with_reducible refine (G.out _ _ ?_ ?_ ?_ _).mono ?_; (any_goals (first | omega | decide)); rintro e w' ⟨rfl, rfl⟩) | (go_at_call 41; with_reducible refine (B.out _ ?_ ?_ _).mono ?_; (any_goals (first | omega | decide)); rintro e w' ⟨rfl, rfl⟩) | (go_at_call 76; with_reducible refine (compares_is _ _).mono ?_; rintro e w' ⟨rfl, rfl⟩) | (go_at_call 77; with_reducible refine (moves_is _ _).mono ?_; rintro e w' ⟨rfl, rfl⟩)) | (go_at_call 61; with_reducible refine (small_is _ _).mono ?_; rintro e w' ⟨rfl, rfl⟩) | (go_at_call 75; with_reducible refine (half_is _ _ ?_ ?_ _).mono ?_; (any_goals (first | omega | assumption)); rintro e w' ⟨rfl, rfl⟩))
  have hN : Blok (W2.alloc (.cells #[.int .i64 32, .int .i64 31, .int .i64 34, .int .i64 33] 123)) W2.heap.size 123 [.int .i64 32, .int .i64 31, .int .i64 34, .int .i64 33] := Blok.new W2 _ _
  have hA' := hA.alloc (.cells #[.int .i64 32, .int .i64 31, .int .i64 34, .int .i64 33] 123)
  have hZ' := hZ.alloc (.cells #[.int .i64 32, .int .i64 31, .int .i64 34, .int .i64 33] 123)
  have hB' := hB.alloc hB.size (.cells #[.int .i64 32, .int .i64 31, .int .i64 34, .int .i64 33] 123)
  have hlt : W.heap.size + 1 < W2.heap.size := hZ.lt
  clear hA hZ hB c0 c1 c2 c3 c4 c5 c6 c7 c8 c9 c10 c11 c12 c13 c14 c15 c16 c17 c18 c19 hf
  generalize W2.alloc (.cells #[.int .i64 32, .int .i64 31, .int .i64 34, .int .i64 33] 123) = W3 at hA' hZ' hB' hN ⊢
  generalize W2.heap.size = b3 at hN hlt ⊢
  rename Blok W3 W.heap.size _ _ => hA
  rename Blok W3 (W.heap.size + 1) _ _ => hZ
  rename Below W.heap.size W W3 => hB
  obtain ⟨c0, c1, c2, c3, c4, c5, c6, c7, c8, c9, c10, c11, c12, c13, c14, c15, c16, c17, c18, c19⟩ := ins_at (hA)
  have hf := hA.frozen
  have hn : W3.cell? ⟨b3, 1, none⟩ = some (.int .i64 31) := hN.cell 1
  have hne : ¬ b3 = W.heap.size := by omega
  have hne2 : ¬ W.heap.size = b3 := by omega
  go_upto_region 7 with (first | (first | (go_at_call 38; with_reducible refine (G.out _ _ ?_ ?_ ?_ _).mono ?_; (any_goals (first | omega | decide)); rintro e w' ⟨rfl, rfl⟩) | (go_at_call 41; with_reducible refine (B.out _ ?_ ?_ _).mono ?_; (any_goals (first | omega | decide)); rintro e w' ⟨rfl, rfl⟩) | (go_at_call 76; with_reducible refine (compares_is _ _).mono ?_; rintro e w' ⟨rfl, rfl⟩) | (go_at_call 77; with_reducible refine (moves_is _ _).mono ?_; rintro e w' ⟨rfl, rfl⟩)) | (go_at_call 61; with_reducible refine (small_is _ _).mono ?_; rintro e w' ⟨rfl, rfl⟩) | (go_at_call 75; with_reducible refine (half_is _ _ ?_ ?_ _).mono ?_; (any_goals (first | omega | assumption)); rintro e w' ⟨rfl, rfl⟩))
  go_wp2_with (first | (refine wpList_load_ins rfl (.tmp 3) rfl (W.heap.size) ({ i with op := 31, pre := bt w 24, up := bt w 23, write := bt w 21, rn := fld w 19 16, rd := fld w 15 12, form := 1, imm := fld w 11 0 } : Ins) rfl ((((((((hA.set_ 1 _).set_ 12 _).set_ 13 _).set_ 14 _).set_ 5 _).set_ 4 _).set_ 3 _).set_ 9 _) ?_) | (refine wpList_store_ins rfl (.tmp 4) (.tmp 39) rfl (W.heap.size + 1) ({ i with op := 31, pre := bt w 24, up := bt w 23, write := bt w 21, rn := fld w 19 16, rd := fld w 15 12, form := 1, imm := fld w 11 0 } : Ins) zIns rfl rfl ((((((((hZ.far (by simp) _).far (by simp) _).far (by simp) _).far (by simp) _).far (by simp) _).far (by simp) _).far (by simp) _).far (by simp) _) ?_; intro w8 B8 g8))
  refine ret_ins 4 (W.heap.size + 1) ({ i with op := 31, pre := bt w 24, up := bt w 23, write := bt w 21, rn := fld w 19 16, rd := fld w 15 12, form := 1, imm := fld w 11 0 } : Ins) rfl rfl B8 rfl ⟨rfl, ?_⟩
  exact bgrow ((((((((hB.setCell (Nat.le_refl _) _).setCell (Nat.le_refl _) _).setCell (Nat.le_refl _) _).setCell (Nat.le_refl _) _).setCell (Nat.le_refl _) _).setCell (Nat.le_refl _) _).setCell (Nat.le_refl _) _).setCell (Nat.le_refl _) _) g8 (by omega)
theorem single_1_b (w : Int) (h0 : 0 ≤ w) (h1 : w < 4294967296) (i : Ins) (W : World) (n1 : fld w 22 22 = 0) (n2 : fld w 20 20 = 1) (p1 : bt w 25 = true) :
    Calls Try.prog 43 #[.int .u32 w, (.agg (insA i))] W fun e w' => e = .returned (.agg (insCells ({ i with op := 31, pre := bt w 24, up := bt w 23, write := bt w 21, rn := fld w 19 16, rd := fld w 15 12, form := 2, amount := fld w 11 7, shift := fld w 6 5, rm := fld w 3 0 } : Ins)).toArray) ∧ Below W.heap.size W w' := by
  have G := Lib.hid (fun hi lo hl hm hh W => get_any w h0 h1 hi lo hl hm hh W)
  have B := Lib.hid (fun i hl hh W => bit_any w h0 h1 i hl hh W)
  obtain ⟨hA, hZ, hB⟩ := ins_two i W
  go_enter Try.func43, Try.ntmps43
  go_upto_region 1 with fail
  generalize (W.alloc (.cells (insA i) 61)).alloc (.cells zInsA 61) = W2 at hA hZ hB ⊢
  generalize Value.agg (insA i) = vi
  obtain ⟨c0, c1, c2, c3, c4, c5, c6, c7, c8, c9, c10, c11, c12, c13, c14, c15, c16, c17, c18, c19⟩ := ins_at (hA)
  have hf := hA.frozen
  go_upto_region 2 with (first | (first | (go_at_call 38; with_reducible refine (G.out _ _ ?_ ?_ ?_ _).mono ?_; (any_goals (first | omega | decide)); rintro e w' ⟨rfl, rfl⟩) | (go_at_call 41; with_reducible refine (B.out _ ?_ ?_ _).mono ?_; (any_goals (first | omega | decide)); rintro e w' ⟨rfl, rfl⟩) | (go_at_call 76; with_reducible refine (compares_is _ _).mono ?_; rintro e w' ⟨rfl, rfl⟩) | (go_at_call 77; with_reducible refine (moves_is _ _).mono ?_; rintro e w' ⟨rfl, rfl⟩)) | (go_at_call 61; with_reducible refine (small_is _ _).mono ?_; rintro e w' ⟨rfl, rfl⟩) | (go_at_call 75; with_reducible refine (half_is _ _ ?_ ?_ _).mono ?_; (any_goals (first | omega | assumption)); rintro e w' ⟨rfl, rfl⟩))
  have hN : Blok (W2.alloc (.cells #[.int .i64 32, .int .i64 31, .int .i64 34, .int .i64 33] 123)) W2.heap.size 123 [.int .i64 32, .int .i64 31, .int .i64 34, .int .i64 33] := Blok.new W2 _ _
  have hA' := hA.alloc (.cells #[.int .i64 32, .int .i64 31, .int .i64 34, .int .i64 33] 123)
  have hZ' := hZ.alloc (.cells #[.int .i64 32, .int .i64 31, .int .i64 34, .int .i64 33] 123)
  have hB' := hB.alloc hB.size (.cells #[.int .i64 32, .int .i64 31, .int .i64 34, .int .i64 33] 123)
  have hlt : W.heap.size + 1 < W2.heap.size := hZ.lt
  clear hA hZ hB c0 c1 c2 c3 c4 c5 c6 c7 c8 c9 c10 c11 c12 c13 c14 c15 c16 c17 c18 c19 hf
  generalize W2.alloc (.cells #[.int .i64 32, .int .i64 31, .int .i64 34, .int .i64 33] 123) = W3 at hA' hZ' hB' hN ⊢
  generalize W2.heap.size = b3 at hN hlt ⊢
  rename Blok W3 W.heap.size _ _ => hA
  rename Blok W3 (W.heap.size + 1) _ _ => hZ
  rename Below W.heap.size W W3 => hB
  obtain ⟨c0, c1, c2, c3, c4, c5, c6, c7, c8, c9, c10, c11, c12, c13, c14, c15, c16, c17, c18, c19⟩ := ins_at (hA)
  have hf := hA.frozen
  have hn : W3.cell? ⟨b3, 1, none⟩ = some (.int .i64 31) := hN.cell 1
  have hne : ¬ b3 = W.heap.size := by omega
  have hne2 : ¬ W.heap.size = b3 := by omega
  go_upto_region 9 with (first | (first | (go_at_call 38; with_reducible refine (G.out _ _ ?_ ?_ ?_ _).mono ?_; (any_goals (first | omega | decide)); rintro e w' ⟨rfl, rfl⟩) | (go_at_call 41; with_reducible refine (B.out _ ?_ ?_ _).mono ?_; (any_goals (first | omega | decide)); rintro e w' ⟨rfl, rfl⟩) | (go_at_call 76; with_reducible refine (compares_is _ _).mono ?_; rintro e w' ⟨rfl, rfl⟩) | (go_at_call 77; with_reducible refine (moves_is _ _).mono ?_; rintro e w' ⟨rfl, rfl⟩)) | (go_at_call 61; with_reducible refine (small_is _ _).mono ?_; rintro e w' ⟨rfl, rfl⟩) | (go_at_call 75; with_reducible refine (half_is _ _ ?_ ?_ _).mono ?_; (any_goals (first | omega | assumption)); rintro e w' ⟨rfl, rfl⟩))
  go_wp2_with (first | (refine wpList_load_ins rfl (.tmp 3) rfl (W.heap.size) ({ i with op := 31, pre := bt w 24, up := bt w 23, write := bt w 21, rn := fld w 19 16, rd := fld w 15 12, form := 2, amount := fld w 11 7, shift := fld w 6 5, rm := fld w 3 0 } : Ins) rfl ((((((((((hA.set_ 1 _).set_ 12 _).set_ 13 _).set_ 14 _).set_ 5 _).set_ 4 _).set_ 3 _).set_ 11 _).set_ 10 _).set_ 6 _) ?_) | (refine wpList_store_ins rfl (.tmp 4) (.tmp 50) rfl (W.heap.size + 1) ({ i with op := 31, pre := bt w 24, up := bt w 23, write := bt w 21, rn := fld w 19 16, rd := fld w 15 12, form := 2, amount := fld w 11 7, shift := fld w 6 5, rm := fld w 3 0 } : Ins) zIns rfl rfl ((((((((((hZ.far (by simp) _).far (by simp) _).far (by simp) _).far (by simp) _).far (by simp) _).far (by simp) _).far (by simp) _).far (by simp) _).far (by simp) _).far (by simp) _) ?_; intro w8 B8 g8))
  refine ret_ins 4 (W.heap.size + 1) ({ i with op := 31, pre := bt w 24, up := bt w 23, write := bt w 21, rn := fld w 19 16, rd := fld w 15 12, form := 2, amount := fld w 11 7, shift := fld w 6 5, rm := fld w 3 0 } : Ins) rfl rfl B8 rfl ⟨rfl, ?_⟩
  exact bgrow ((((((((((hB.setCell (Nat.le_refl _) _).setCell (Nat.le_refl _) _).setCell (Nat.le_refl _) _).setCell (Nat.le_refl _) _).setCell (Nat.le_refl _) _).setCell (Nat.le_refl _) _).setCell (Nat.le_refl _) _).setCell (Nat.le_refl _) _).setCell (Nat.le_refl _) _).setCell (Nat.le_refl _) _) g8 (by omega)
theorem single_2_a (w : Int) (h0 : 0 ≤ w) (h1 : w < 4294967296) (i : Ins) (W : World) (n1 : fld w 22 22 = 1) (n2 : fld w 20 20 = 0) (p1 : bt w 25 = false) :
    Calls Try.prog 43 #[.int .u32 w, (.agg (insA i))] W fun e w' => e = .returned (.agg (insCells ({ i with op := 34, pre := bt w 24, up := bt w 23, write := bt w 21, rn := fld w 19 16, rd := fld w 15 12, form := 1, imm := fld w 11 0 } : Ins)).toArray) ∧ Below W.heap.size W w' := by
  have G := Lib.hid (fun hi lo hl hm hh W => get_any w h0 h1 hi lo hl hm hh W)
  have B := Lib.hid (fun i hl hh W => bit_any w h0 h1 i hl hh W)
  obtain ⟨hA, hZ, hB⟩ := ins_two i W
  go_enter Try.func43, Try.ntmps43
  go_upto_region 1 with fail
  generalize (W.alloc (.cells (insA i) 61)).alloc (.cells zInsA 61) = W2 at hA hZ hB ⊢
  generalize Value.agg (insA i) = vi
  obtain ⟨c0, c1, c2, c3, c4, c5, c6, c7, c8, c9, c10, c11, c12, c13, c14, c15, c16, c17, c18, c19⟩ := ins_at (hA)
  have hf := hA.frozen
  have b11 := fld_le w 11 0
  have b11a : 0 ≤ fld w 11 0 := b11.1
  have b11b : fld w 11 0 < 4096 := by have := b11.2; simpa using this
  have b19 := fld_le w 19 16
  have b19a : 0 ≤ fld w 19 16 := b19.1
  have b19b : fld w 19 16 < 16 := by have := b19.2; simpa using this
  clear b11 b19
  go_upto_region 2 with (first | (first | (go_at_call 38; with_reducible refine (G.out _ _ ?_ ?_ ?_ _).mono ?_; (any_goals (first | omega | decide)); rintro e w' ⟨rfl, rfl⟩) | (go_at_call 41; with_reducible refine (B.out _ ?_ ?_ _).mono ?_; (any_goals (first | omega | decide)); rintro e w' ⟨rfl, rfl⟩) | (go_at_call 76; with_reducible refine (compares_is _ _).mono ?_; rintro e w' ⟨rfl, rfl⟩) | (go_at_call 77; with_reducible refine (moves_is _ _).mono ?_; rintro e w' ⟨rfl, rfl⟩)) | (go_at_call 61; with_reducible refine (small_is _ _).mono ?_; rintro e w' ⟨rfl, rfl⟩) | (go_at_call 75; with_reducible refine (half_is _ _ ?_ ?_ _).mono ?_; (any_goals (first | omega | assumption)); rintro e w' ⟨rfl, rfl⟩))
  have hN : Blok (W2.alloc (.cells #[.int .i64 32, .int .i64 31, .int .i64 34, .int .i64 33] 123)) W2.heap.size 123 [.int .i64 32, .int .i64 31, .int .i64 34, .int .i64 33] := Blok.new W2 _ _
  have hA' := hA.alloc (.cells #[.int .i64 32, .int .i64 31, .int .i64 34, .int .i64 33] 123)
  have hZ' := hZ.alloc (.cells #[.int .i64 32, .int .i64 31, .int .i64 34, .int .i64 33] 123)
  have hB' := hB.alloc hB.size (.cells #[.int .i64 32, .int .i64 31, .int .i64 34, .int .i64 33] 123)
  have hlt : W.heap.size + 1 < W2.heap.size := hZ.lt
  clear hA hZ hB c0 c1 c2 c3 c4 c5 c6 c7 c8 c9 c10 c11 c12 c13 c14 c15 c16 c17 c18 c19 hf
  generalize W2.alloc (.cells #[.int .i64 32, .int .i64 31, .int .i64 34, .int .i64 33] 123) = W3 at hA' hZ' hB' hN ⊢
  generalize W2.heap.size = b3 at hN hlt ⊢
  rename Blok W3 W.heap.size _ _ => hA
  rename Blok W3 (W.heap.size + 1) _ _ => hZ
  rename Below W.heap.size W W3 => hB
  obtain ⟨c0, c1, c2, c3, c4, c5, c6, c7, c8, c9, c10, c11, c12, c13, c14, c15, c16, c17, c18, c19⟩ := ins_at (hA)
  have hf := hA.frozen
  have hn : W3.cell? ⟨b3, 2, none⟩ = some (.int .i64 34) := hN.cell 2
  have hne : ¬ b3 = W.heap.size := by omega
  have hne2 : ¬ W.heap.size = b3 := by omega
  go_upto_region 7 with (first | (first | (go_at_call 38; with_reducible refine (G.out _ _ ?_ ?_ ?_ _).mono ?_; (any_goals (first | omega | decide)); rintro e w' ⟨rfl, rfl⟩) | (go_at_call 41; with_reducible refine (B.out _ ?_ ?_ _).mono ?_; (any_goals (first | omega | decide)); rintro e w' ⟨rfl, rfl⟩) | (go_at_call 76; with_reducible refine (compares_is _ _).mono ?_; rintro e w' ⟨rfl, rfl⟩) | (go_at_call 77; with_reducible refine (moves_is _ _).mono ?_; rintro e w' ⟨rfl, rfl⟩)) | (go_at_call 61; with_reducible refine (small_is _ _).mono ?_; rintro e w' ⟨rfl, rfl⟩) | (go_at_call 75; with_reducible refine (half_is _ _ ?_ ?_ _).mono ?_; (any_goals (first | omega | assumption)); rintro e w' ⟨rfl, rfl⟩))
  go_wp2_with (first | (refine wpList_load_ins rfl (.tmp 3) rfl (W.heap.size) ({ i with op := 34, pre := bt w 24, up := bt w 23, write := bt w 21, rn := fld w 19 16, rd := fld w 15 12, form := 1, imm := fld w 11 0 } : Ins) rfl ((((((((hA.set_ 1 _).set_ 12 _).set_ 13 _).set_ 14 _).set_ 5 _).set_ 4 _).set_ 3 _).set_ 9 _) ?_) | (refine wpList_store_ins rfl (.tmp 4) (.tmp 39) rfl (W.heap.size + 1) ({ i with op := 34, pre := bt w 24, up := bt w 23, write := bt w 21, rn := fld w 19 16, rd := fld w 15 12, form := 1, imm := fld w 11 0 } : Ins) zIns rfl rfl ((((((((hZ.far (by simp) _).far (by simp) _).far (by simp) _).far (by simp) _).far (by simp) _).far (by simp) _).far (by simp) _).far (by simp) _) ?_; intro w8 B8 g8))
  refine ret_ins 4 (W.heap.size + 1) ({ i with op := 34, pre := bt w 24, up := bt w 23, write := bt w 21, rn := fld w 19 16, rd := fld w 15 12, form := 1, imm := fld w 11 0 } : Ins) rfl rfl B8 rfl ⟨rfl, ?_⟩
  exact bgrow ((((((((hB.setCell (Nat.le_refl _) _).setCell (Nat.le_refl _) _).setCell (Nat.le_refl _) _).setCell (Nat.le_refl _) _).setCell (Nat.le_refl _) _).setCell (Nat.le_refl _) _).setCell (Nat.le_refl _) _).setCell (Nat.le_refl _) _) g8 (by omega)
theorem single_2_b (w : Int) (h0 : 0 ≤ w) (h1 : w < 4294967296) (i : Ins) (W : World) (n1 : fld w 22 22 = 1) (n2 : fld w 20 20 = 0) (p1 : bt w 25 = true) :
    Calls Try.prog 43 #[.int .u32 w, (.agg (insA i))] W fun e w' => e = .returned (.agg (insCells ({ i with op := 34, pre := bt w 24, up := bt w 23, write := bt w 21, rn := fld w 19 16, rd := fld w 15 12, form := 2, amount := fld w 11 7, shift := fld w 6 5, rm := fld w 3 0 } : Ins)).toArray) ∧ Below W.heap.size W w' := by
  have G := Lib.hid (fun hi lo hl hm hh W => get_any w h0 h1 hi lo hl hm hh W)
  have B := Lib.hid (fun i hl hh W => bit_any w h0 h1 i hl hh W)
  obtain ⟨hA, hZ, hB⟩ := ins_two i W
  go_enter Try.func43, Try.ntmps43
  go_upto_region 1 with fail
  generalize (W.alloc (.cells (insA i) 61)).alloc (.cells zInsA 61) = W2 at hA hZ hB ⊢
  generalize Value.agg (insA i) = vi
  obtain ⟨c0, c1, c2, c3, c4, c5, c6, c7, c8, c9, c10, c11, c12, c13, c14, c15, c16, c17, c18, c19⟩ := ins_at (hA)
  have hf := hA.frozen
  go_upto_region 2 with (first | (first | (go_at_call 38; with_reducible refine (G.out _ _ ?_ ?_ ?_ _).mono ?_; (any_goals (first | omega | decide)); rintro e w' ⟨rfl, rfl⟩) | (go_at_call 41; with_reducible refine (B.out _ ?_ ?_ _).mono ?_; (any_goals (first | omega | decide)); rintro e w' ⟨rfl, rfl⟩) | (go_at_call 76; with_reducible refine (compares_is _ _).mono ?_; rintro e w' ⟨rfl, rfl⟩) | (go_at_call 77; with_reducible refine (moves_is _ _).mono ?_; rintro e w' ⟨rfl, rfl⟩)) | (go_at_call 61; with_reducible refine (small_is _ _).mono ?_; rintro e w' ⟨rfl, rfl⟩) | (go_at_call 75; with_reducible refine (half_is _ _ ?_ ?_ _).mono ?_; (any_goals (first | omega | assumption)); rintro e w' ⟨rfl, rfl⟩))
  have hN : Blok (W2.alloc (.cells #[.int .i64 32, .int .i64 31, .int .i64 34, .int .i64 33] 123)) W2.heap.size 123 [.int .i64 32, .int .i64 31, .int .i64 34, .int .i64 33] := Blok.new W2 _ _
  have hA' := hA.alloc (.cells #[.int .i64 32, .int .i64 31, .int .i64 34, .int .i64 33] 123)
  have hZ' := hZ.alloc (.cells #[.int .i64 32, .int .i64 31, .int .i64 34, .int .i64 33] 123)
  have hB' := hB.alloc hB.size (.cells #[.int .i64 32, .int .i64 31, .int .i64 34, .int .i64 33] 123)
  have hlt : W.heap.size + 1 < W2.heap.size := hZ.lt
  clear hA hZ hB c0 c1 c2 c3 c4 c5 c6 c7 c8 c9 c10 c11 c12 c13 c14 c15 c16 c17 c18 c19 hf
  generalize W2.alloc (.cells #[.int .i64 32, .int .i64 31, .int .i64 34, .int .i64 33] 123) = W3 at hA' hZ' hB' hN ⊢
  generalize W2.heap.size = b3 at hN hlt ⊢
  rename Blok W3 W.heap.size _ _ => hA
  rename Blok W3 (W.heap.size + 1) _ _ => hZ
  rename Below W.heap.size W W3 => hB
  obtain ⟨c0, c1, c2, c3, c4, c5, c6, c7, c8, c9, c10, c11, c12, c13, c14, c15, c16, c17, c18, c19⟩ := ins_at (hA)
  have hf := hA.frozen
  have hn : W3.cell? ⟨b3, 2, none⟩ = some (.int .i64 34) := hN.cell 2
  have hne : ¬ b3 = W.heap.size := by omega
  have hne2 : ¬ W.heap.size = b3 := by omega
  go_upto_region 9 with (first | (first | (go_at_call 38; with_reducible refine (G.out _ _ ?_ ?_ ?_ _).mono ?_; (any_goals (first | omega | decide)); rintro e w' ⟨rfl, rfl⟩) | (go_at_call 41; with_reducible refine (B.out _ ?_ ?_ _).mono ?_; (any_goals (first | omega | decide)); rintro e w' ⟨rfl, rfl⟩) | (go_at_call 76; with_reducible refine (compares_is _ _).mono ?_; rintro e w' ⟨rfl, rfl⟩) | (go_at_call 77; with_reducible refine (moves_is _ _).mono ?_; rintro e w' ⟨rfl, rfl⟩)) | (go_at_call 61; with_reducible refine (small_is _ _).mono ?_; rintro e w' ⟨rfl, rfl⟩) | (go_at_call 75; with_reducible refine (half_is _ _ ?_ ?_ _).mono ?_; (any_goals (first | omega | assumption)); rintro e w' ⟨rfl, rfl⟩))
  go_wp2_with (first | (refine wpList_load_ins rfl (.tmp 3) rfl (W.heap.size) ({ i with op := 34, pre := bt w 24, up := bt w 23, write := bt w 21, rn := fld w 19 16, rd := fld w 15 12, form := 2, amount := fld w 11 7, shift := fld w 6 5, rm := fld w 3 0 } : Ins) rfl ((((((((((hA.set_ 1 _).set_ 12 _).set_ 13 _).set_ 14 _).set_ 5 _).set_ 4 _).set_ 3 _).set_ 11 _).set_ 10 _).set_ 6 _) ?_) | (refine wpList_store_ins rfl (.tmp 4) (.tmp 50) rfl (W.heap.size + 1) ({ i with op := 34, pre := bt w 24, up := bt w 23, write := bt w 21, rn := fld w 19 16, rd := fld w 15 12, form := 2, amount := fld w 11 7, shift := fld w 6 5, rm := fld w 3 0 } : Ins) zIns rfl rfl ((((((((((hZ.far (by simp) _).far (by simp) _).far (by simp) _).far (by simp) _).far (by simp) _).far (by simp) _).far (by simp) _).far (by simp) _).far (by simp) _).far (by simp) _) ?_; intro w8 B8 g8))
  refine ret_ins 4 (W.heap.size + 1) ({ i with op := 34, pre := bt w 24, up := bt w 23, write := bt w 21, rn := fld w 19 16, rd := fld w 15 12, form := 2, amount := fld w 11 7, shift := fld w 6 5, rm := fld w 3 0 } : Ins) rfl rfl B8 rfl ⟨rfl, ?_⟩
  exact bgrow ((((((((((hB.setCell (Nat.le_refl _) _).setCell (Nat.le_refl _) _).setCell (Nat.le_refl _) _).setCell (Nat.le_refl _) _).setCell (Nat.le_refl _) _).setCell (Nat.le_refl _) _).setCell (Nat.le_refl _) _).setCell (Nat.le_refl _) _).setCell (Nat.le_refl _) _).setCell (Nat.le_refl _) _) g8 (by omega)
theorem single_3_a (w : Int) (h0 : 0 ≤ w) (h1 : w < 4294967296) (i : Ins) (W : World) (n1 : fld w 22 22 = 1) (n2 : fld w 20 20 = 1) (p1 : bt w 25 = false) :
    Calls Try.prog 43 #[.int .u32 w, (.agg (insA i))] W fun e w' => e = .returned (.agg (insCells ({ i with op := 33, pre := bt w 24, up := bt w 23, write := bt w 21, rn := fld w 19 16, rd := fld w 15 12, form := 1, imm := fld w 11 0 } : Ins)).toArray) ∧ Below W.heap.size W w' := by
  have G := Lib.hid (fun hi lo hl hm hh W => get_any w h0 h1 hi lo hl hm hh W)
  have B := Lib.hid (fun i hl hh W => bit_any w h0 h1 i hl hh W)
  obtain ⟨hA, hZ, hB⟩ := ins_two i W
  go_enter Try.func43, Try.ntmps43
  go_upto_region 1 with fail
  generalize (W.alloc (.cells (insA i) 61)).alloc (.cells zInsA 61) = W2 at hA hZ hB ⊢
  generalize Value.agg (insA i) = vi
  obtain ⟨c0, c1, c2, c3, c4, c5, c6, c7, c8, c9, c10, c11, c12, c13, c14, c15, c16, c17, c18, c19⟩ := ins_at (hA)
  have hf := hA.frozen
  have b11 := fld_le w 11 0
  have b11a : 0 ≤ fld w 11 0 := b11.1
  have b11b : fld w 11 0 < 4096 := by have := b11.2; simpa using this
  have b19 := fld_le w 19 16
  have b19a : 0 ≤ fld w 19 16 := b19.1
  have b19b : fld w 19 16 < 16 := by have := b19.2; simpa using this
  clear b11 b19
  go_upto_region 2 with (first | (first | (go_at_call 38; with_reducible refine (G.out _ _ ?_ ?_ ?_ _).mono ?_; (any_goals (first | omega | decide)); rintro e w' ⟨rfl, rfl⟩) | (go_at_call 41; with_reducible refine (B.out _ ?_ ?_ _).mono ?_; (any_goals (first | omega | decide)); rintro e w' ⟨rfl, rfl⟩) | (go_at_call 76; with_reducible refine (compares_is _ _).mono ?_; rintro e w' ⟨rfl, rfl⟩) | (go_at_call 77; with_reducible refine (moves_is _ _).mono ?_; rintro e w' ⟨rfl, rfl⟩)) | (go_at_call 61; with_reducible refine (small_is _ _).mono ?_; rintro e w' ⟨rfl, rfl⟩) | (go_at_call 75; with_reducible refine (half_is _ _ ?_ ?_ _).mono ?_; (any_goals (first | omega | assumption)); rintro e w' ⟨rfl, rfl⟩))
  have hN : Blok (W2.alloc (.cells #[.int .i64 32, .int .i64 31, .int .i64 34, .int .i64 33] 123)) W2.heap.size 123 [.int .i64 32, .int .i64 31, .int .i64 34, .int .i64 33] := Blok.new W2 _ _
  have hA' := hA.alloc (.cells #[.int .i64 32, .int .i64 31, .int .i64 34, .int .i64 33] 123)
  have hZ' := hZ.alloc (.cells #[.int .i64 32, .int .i64 31, .int .i64 34, .int .i64 33] 123)
  have hB' := hB.alloc hB.size (.cells #[.int .i64 32, .int .i64 31, .int .i64 34, .int .i64 33] 123)
  have hlt : W.heap.size + 1 < W2.heap.size := hZ.lt
  clear hA hZ hB c0 c1 c2 c3 c4 c5 c6 c7 c8 c9 c10 c11 c12 c13 c14 c15 c16 c17 c18 c19 hf
  generalize W2.alloc (.cells #[.int .i64 32, .int .i64 31, .int .i64 34, .int .i64 33] 123) = W3 at hA' hZ' hB' hN ⊢
  generalize W2.heap.size = b3 at hN hlt ⊢
  rename Blok W3 W.heap.size _ _ => hA
  rename Blok W3 (W.heap.size + 1) _ _ => hZ
  rename Below W.heap.size W W3 => hB
  obtain ⟨c0, c1, c2, c3, c4, c5, c6, c7, c8, c9, c10, c11, c12, c13, c14, c15, c16, c17, c18, c19⟩ := ins_at (hA)
  have hf := hA.frozen
  have hn : W3.cell? ⟨b3, 3, none⟩ = some (.int .i64 33) := hN.cell 3
  have hne : ¬ b3 = W.heap.size := by omega
  have hne2 : ¬ W.heap.size = b3 := by omega
  go_upto_region 7 with (first | (first | (go_at_call 38; with_reducible refine (G.out _ _ ?_ ?_ ?_ _).mono ?_; (any_goals (first | omega | decide)); rintro e w' ⟨rfl, rfl⟩) | (go_at_call 41; with_reducible refine (B.out _ ?_ ?_ _).mono ?_; (any_goals (first | omega | decide)); rintro e w' ⟨rfl, rfl⟩) | (go_at_call 76; with_reducible refine (compares_is _ _).mono ?_; rintro e w' ⟨rfl, rfl⟩) | (go_at_call 77; with_reducible refine (moves_is _ _).mono ?_; rintro e w' ⟨rfl, rfl⟩)) | (go_at_call 61; with_reducible refine (small_is _ _).mono ?_; rintro e w' ⟨rfl, rfl⟩) | (go_at_call 75; with_reducible refine (half_is _ _ ?_ ?_ _).mono ?_; (any_goals (first | omega | assumption)); rintro e w' ⟨rfl, rfl⟩))
  go_wp2_with (first | (refine wpList_load_ins rfl (.tmp 3) rfl (W.heap.size) ({ i with op := 33, pre := bt w 24, up := bt w 23, write := bt w 21, rn := fld w 19 16, rd := fld w 15 12, form := 1, imm := fld w 11 0 } : Ins) rfl ((((((((hA.set_ 1 _).set_ 12 _).set_ 13 _).set_ 14 _).set_ 5 _).set_ 4 _).set_ 3 _).set_ 9 _) ?_) | (refine wpList_store_ins rfl (.tmp 4) (.tmp 39) rfl (W.heap.size + 1) ({ i with op := 33, pre := bt w 24, up := bt w 23, write := bt w 21, rn := fld w 19 16, rd := fld w 15 12, form := 1, imm := fld w 11 0 } : Ins) zIns rfl rfl ((((((((hZ.far (by simp) _).far (by simp) _).far (by simp) _).far (by simp) _).far (by simp) _).far (by simp) _).far (by simp) _).far (by simp) _) ?_; intro w8 B8 g8))
  refine ret_ins 4 (W.heap.size + 1) ({ i with op := 33, pre := bt w 24, up := bt w 23, write := bt w 21, rn := fld w 19 16, rd := fld w 15 12, form := 1, imm := fld w 11 0 } : Ins) rfl rfl B8 rfl ⟨rfl, ?_⟩
  exact bgrow ((((((((hB.setCell (Nat.le_refl _) _).setCell (Nat.le_refl _) _).setCell (Nat.le_refl _) _).setCell (Nat.le_refl _) _).setCell (Nat.le_refl _) _).setCell (Nat.le_refl _) _).setCell (Nat.le_refl _) _).setCell (Nat.le_refl _) _) g8 (by omega)
theorem single_3_b (w : Int) (h0 : 0 ≤ w) (h1 : w < 4294967296) (i : Ins) (W : World) (n1 : fld w 22 22 = 1) (n2 : fld w 20 20 = 1) (p1 : bt w 25 = true) :
    Calls Try.prog 43 #[.int .u32 w, (.agg (insA i))] W fun e w' => e = .returned (.agg (insCells ({ i with op := 33, pre := bt w 24, up := bt w 23, write := bt w 21, rn := fld w 19 16, rd := fld w 15 12, form := 2, amount := fld w 11 7, shift := fld w 6 5, rm := fld w 3 0 } : Ins)).toArray) ∧ Below W.heap.size W w' := by
  have G := Lib.hid (fun hi lo hl hm hh W => get_any w h0 h1 hi lo hl hm hh W)
  have B := Lib.hid (fun i hl hh W => bit_any w h0 h1 i hl hh W)
  obtain ⟨hA, hZ, hB⟩ := ins_two i W
  go_enter Try.func43, Try.ntmps43
  go_upto_region 1 with fail
  generalize (W.alloc (.cells (insA i) 61)).alloc (.cells zInsA 61) = W2 at hA hZ hB ⊢
  generalize Value.agg (insA i) = vi
  obtain ⟨c0, c1, c2, c3, c4, c5, c6, c7, c8, c9, c10, c11, c12, c13, c14, c15, c16, c17, c18, c19⟩ := ins_at (hA)
  have hf := hA.frozen
  go_upto_region 2 with (first | (first | (go_at_call 38; with_reducible refine (G.out _ _ ?_ ?_ ?_ _).mono ?_; (any_goals (first | omega | decide)); rintro e w' ⟨rfl, rfl⟩) | (go_at_call 41; with_reducible refine (B.out _ ?_ ?_ _).mono ?_; (any_goals (first | omega | decide)); rintro e w' ⟨rfl, rfl⟩) | (go_at_call 76; with_reducible refine (compares_is _ _).mono ?_; rintro e w' ⟨rfl, rfl⟩) | (go_at_call 77; with_reducible refine (moves_is _ _).mono ?_; rintro e w' ⟨rfl, rfl⟩)) | (go_at_call 61; with_reducible refine (small_is _ _).mono ?_; rintro e w' ⟨rfl, rfl⟩) | (go_at_call 75; with_reducible refine (half_is _ _ ?_ ?_ _).mono ?_; (any_goals (first | omega | assumption)); rintro e w' ⟨rfl, rfl⟩))
  have hN : Blok (W2.alloc (.cells #[.int .i64 32, .int .i64 31, .int .i64 34, .int .i64 33] 123)) W2.heap.size 123 [.int .i64 32, .int .i64 31, .int .i64 34, .int .i64 33] := Blok.new W2 _ _
  have hA' := hA.alloc (.cells #[.int .i64 32, .int .i64 31, .int .i64 34, .int .i64 33] 123)
  have hZ' := hZ.alloc (.cells #[.int .i64 32, .int .i64 31, .int .i64 34, .int .i64 33] 123)
  have hB' := hB.alloc hB.size (.cells #[.int .i64 32, .int .i64 31, .int .i64 34, .int .i64 33] 123)
  have hlt : W.heap.size + 1 < W2.heap.size := hZ.lt
  clear hA hZ hB c0 c1 c2 c3 c4 c5 c6 c7 c8 c9 c10 c11 c12 c13 c14 c15 c16 c17 c18 c19 hf
  generalize W2.alloc (.cells #[.int .i64 32, .int .i64 31, .int .i64 34, .int .i64 33] 123) = W3 at hA' hZ' hB' hN ⊢
  generalize W2.heap.size = b3 at hN hlt ⊢
  rename Blok W3 W.heap.size _ _ => hA
  rename Blok W3 (W.heap.size + 1) _ _ => hZ
  rename Below W.heap.size W W3 => hB
  obtain ⟨c0, c1, c2, c3, c4, c5, c6, c7, c8, c9, c10, c11, c12, c13, c14, c15, c16, c17, c18, c19⟩ := ins_at (hA)
  have hf := hA.frozen
  have hn : W3.cell? ⟨b3, 3, none⟩ = some (.int .i64 33) := hN.cell 3
  have hne : ¬ b3 = W.heap.size := by omega
  have hne2 : ¬ W.heap.size = b3 := by omega
  go_upto_region 9 with (first | (first | (go_at_call 38; with_reducible refine (G.out _ _ ?_ ?_ ?_ _).mono ?_; (any_goals (first | omega | decide)); rintro e w' ⟨rfl, rfl⟩) | (go_at_call 41; with_reducible refine (B.out _ ?_ ?_ _).mono ?_; (any_goals (first | omega | decide)); rintro e w' ⟨rfl, rfl⟩) | (go_at_call 76; with_reducible refine (compares_is _ _).mono ?_; rintro e w' ⟨rfl, rfl⟩) | (go_at_call 77; with_reducible refine (moves_is _ _).mono ?_; rintro e w' ⟨rfl, rfl⟩)) | (go_at_call 61; with_reducible refine (small_is _ _).mono ?_; rintro e w' ⟨rfl, rfl⟩) | (go_at_call 75; with_reducible refine (half_is _ _ ?_ ?_ _).mono ?_; (any_goals (first | omega | assumption)); rintro e w' ⟨rfl, rfl⟩))
  go_wp2_with (first | (refine wpList_load_ins rfl (.tmp 3) rfl (W.heap.size) ({ i with op := 33, pre := bt w 24, up := bt w 23, write := bt w 21, rn := fld w 19 16, rd := fld w 15 12, form := 2, amount := fld w 11 7, shift := fld w 6 5, rm := fld w 3 0 } : Ins) rfl ((((((((((hA.set_ 1 _).set_ 12 _).set_ 13 _).set_ 14 _).set_ 5 _).set_ 4 _).set_ 3 _).set_ 11 _).set_ 10 _).set_ 6 _) ?_) | (refine wpList_store_ins rfl (.tmp 4) (.tmp 50) rfl (W.heap.size + 1) ({ i with op := 33, pre := bt w 24, up := bt w 23, write := bt w 21, rn := fld w 19 16, rd := fld w 15 12, form := 2, amount := fld w 11 7, shift := fld w 6 5, rm := fld w 3 0 } : Ins) zIns rfl rfl ((((((((((hZ.far (by simp) _).far (by simp) _).far (by simp) _).far (by simp) _).far (by simp) _).far (by simp) _).far (by simp) _).far (by simp) _).far (by simp) _).far (by simp) _) ?_; intro w8 B8 g8))
  refine ret_ins 4 (W.heap.size + 1) ({ i with op := 33, pre := bt w 24, up := bt w 23, write := bt w 21, rn := fld w 19 16, rd := fld w 15 12, form := 2, amount := fld w 11 7, shift := fld w 6 5, rm := fld w 3 0 } : Ins) rfl rfl B8 rfl ⟨rfl, ?_⟩
  exact bgrow ((((((((((hB.setCell (Nat.le_refl _) _).setCell (Nat.le_refl _) _).setCell (Nat.le_refl _) _).setCell (Nat.le_refl _) _).setCell (Nat.le_refl _) _).setCell (Nat.le_refl _) _).setCell (Nat.le_refl _) _).setCell (Nat.le_refl _) _).setCell (Nat.le_refl _) _).setCell (Nat.le_refl _) _) g8 (by omega)
end Go.Proofs.Ytpfhplhamnohjaa
