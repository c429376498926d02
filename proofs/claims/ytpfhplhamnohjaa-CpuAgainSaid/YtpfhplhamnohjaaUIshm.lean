/- Layer 19: products. -/
import Derived.Test.YtpfhplhamnohjaaUIscm
namespace Go.Proofs.Ytpfhplhamnohjaa
set_option maxHeartbeats 25600000
set_option maxRecDepth 100000
open Go.RowKit

theorem product_0 (w : Int) (h0 : 0 ≤ w) (h1 : w < 4294967296) (i : Ins) (W : World) (p0 : (fld w 27 24 != 0) = true) :
    Calls Try.prog 57 #[.int .u32 w, (.agg (insA i))] W fun e w' => e = .returned (.agg (insCells zIns).toArray) ∧ Below W.heap.size W w' := by
  have G := Lib.hid (fun hi lo hl hm hh W => get_any w h0 h1 hi lo hl hm hh W)
  have B := Lib.hid (fun i hl hh W => bit_any w h0 h1 i hl hh W)
  obtain ⟨hA, hZ, hB⟩ := ins_two i W
  go_enter Try.func57, Try.ntmps57
  go_upto_region 1 with fail
  generalize (W.alloc (.cells (insA i) 61)).alloc (.cells zInsA 61) = W2 at hA hZ hB ⊢
  generalize Value.agg (insA i) = vi
  obtain ⟨c0, c1, c2, c3, c4, c5, c6, c7, c8, c9, c10, c11, c12, c13, c14, c15, c16, c17, c18, c19⟩ := ins_at (hA)
  have hf := hA.frozen
  go_upto_region 2 with (first | (first | (go_at_call 38; with_reducible refine (G.out _ _ ?_ ?_ ?_ _).mono ?_; (any_goals (first | omega | decide)); rintro e w' ⟨rfl, rfl⟩) | (go_at_call 41; with_reducible refine (B.out _ ?_ ?_ _).mono ?_; (any_goals (first | omega | decide)); rintro e w' ⟨rfl, rfl⟩) | (go_at_call 76; with_reducible refine (compares_is _ _).mono ?_; rintro e w' ⟨rfl, rfl⟩) | (go_at_call 77; with_reducible refine (moves_is _ _).mono ?_; rintro e w' ⟨rfl, rfl⟩)) | (go_at_call 61; with_reducible refine (small_is _ _).mono ?_; rintro e w' ⟨rfl, rfl⟩) | (go_at_call 75; with_reducible refine (half_is _ _ ?_ ?_ _).mono ?_; (any_goals (first | omega | assumption)); rintro e w' ⟨rfl, rfl⟩))
  go_wp2_with (refine wpList_store_ins rfl (.tmp 4) (.tmp 9) rfl (W.heap.size + 1) zIns zIns rfl rfl hZ ?_; intro w8 B8 g8)
  refine ret_ins 4 (W.heap.size + 1) zIns rfl rfl B8 rfl ⟨rfl, ?_⟩
  exact bgrow hB g8 (by omega)
theorem product_c0 (w : Int) (h0 : 0 ≤ w) (h1 : w < 4294967296) (i : Ins) (W : World) (p0 : (fld w 27 24 != 0) = false) (n1 : fld w 23 21 = 0) (p1 : (fld w 15 12 != 0) = false) :
    Calls Try.prog 57 #[.int .u32 w, (.agg (insA i))] W fun e w' => e = .returned (.agg (insCells ({ i with op := 19, s := bt w 20, rd := fld w 19 16, ra := fld w 15 12, rs := fld w 11 8, rm := fld w 3 0 } : Ins)).toArray) ∧ Below W.heap.size W w' := by
  have G := Lib.hid (fun hi lo hl hm hh W => get_any w h0 h1 hi lo hl hm hh W)
  have B := Lib.hid (fun i hl hh W => bit_any w h0 h1 i hl hh W)
  obtain ⟨hA, hZ, hB⟩ := ins_two i W
  go_enter Try.func57, Try.ntmps57
  go_upto_region 1 with fail
  generalize (W.alloc (.cells (insA i) 61)).alloc (.cells zInsA 61) = W2 at hA hZ hB ⊢
  generalize Value.agg (insA i) = vi
  obtain ⟨c0, c1, c2, c3, c4, c5, c6, c7, c8, c9, c10, c11, c12, c13, c14, c15, c16, c17, c18, c19⟩ := ins_at (hA)
  have hf := hA.frozen
  go_upto_region 4 with (first | (first | (go_at_call 38; with_reducible refine (G.out _ _ ?_ ?_ ?_ _).mono ?_; (any_goals (first | omega | decide)); rintro e w' ⟨rfl, rfl⟩) | (go_at_call 41; with_reducible refine (B.out _ ?_ ?_ _).mono ?_; (any_goals (first | omega | decide)); rintro e w' ⟨rfl, rfl⟩) | (go_at_call 76; with_reducible refine (compares_is _ _).mono ?_; rintro e w' ⟨rfl, rfl⟩) | (go_at_call 77; with_reducible refine (moves_is _ _).mono ?_; rintro e w' ⟨rfl, rfl⟩)) | (go_at_call 61; with_reducible refine (small_is _ _).mono ?_; rintro e w' ⟨rfl, rfl⟩) | (go_at_call 75; with_reducible refine (half_is _ _ ?_ ?_ _).mono ?_; (any_goals (first | omega | assumption)); rintro e w' ⟨rfl, rfl⟩))
  have hN : Blok (W2.alloc (.cells #[.int .i64 19, .int .i64 20, .int .i64 0, .int .i64 0, .int .i64 21, .int .i64 22, .int .i64 23, .int .i64 24] 142)) W2.heap.size 142 [.int .i64 19, .int .i64 20, .int .i64 0, .int .i64 0, .int .i64 21, .int .i64 22, .int .i64 23, .int .i64 24] := Blok.new W2 _ _
  have hA' := hA.alloc (.cells #[.int .i64 19, .int .i64 20, .int .i64 0, .int .i64 0, .int .i64 21, .int .i64 22, .int .i64 23, .int .i64 24] 142)
  have hZ' := hZ.alloc (.cells #[.int .i64 19, .int .i64 20, .int .i64 0, .int .i64 0, .int .i64 21, .int .i64 22, .int .i64 23, .int .i64 24] 142)
  have hB' := hB.alloc hB.size (.cells #[.int .i64 19, .int .i64 20, .int .i64 0, .int .i64 0, .int .i64 21, .int .i64 22, .int .i64 23, .int .i64 24] 142)
  have hlt : W.heap.size + 1 < W2.heap.size := hZ.lt
  clear hA hZ hB c0 c1 c2 c3 c4 c5 c6 c7 c8 c9 c10 c11 c12 c13 c14 c15 c16 c17 c18 c19 hf
  generalize W2.alloc (.cells #[.int .i64 19, .int .i64 20, .int .i64 0, .int .i64 0, .int .i64 21, .int .i64 22, .int .i64 23, .int .i64 24] 142) = W3 at hA' hZ' hB' hN ⊢
  generalize W2.heap.size = b3 at hN hlt ⊢
  rename Blok W3 W.heap.size _ _ => hA
  rename Blok W3 (W.heap.size + 1) _ _ => hZ
  rename Below W.heap.size W W3 => hB
  obtain ⟨c0, c1, c2, c3, c4, c5, c6, c7, c8, c9, c10, c11, c12, c13, c14, c15, c16, c17, c18, c19⟩ := ins_at (hA)
  have hf := hA.frozen
  have hn : W3.cell? ⟨b3, 0, none⟩ = some (.int .i64 19) := hN.cell 0
  have hne : ¬ b3 = W.heap.size := by omega
  have hne2 : ¬ W.heap.size = b3 := by omega
  go_upto_region 9 with (first | (first | (go_at_call 38; with_reducible refine (G.out _ _ ?_ ?_ ?_ _).mono ?_; (any_goals (first | omega | decide)); rintro e w' ⟨rfl, rfl⟩) | (go_at_call 41; with_reducible refine (B.out _ ?_ ?_ _).mono ?_; (any_goals (first | omega | decide)); rintro e w' ⟨rfl, rfl⟩) | (go_at_call 76; with_reducible refine (compares_is _ _).mono ?_; rintro e w' ⟨rfl, rfl⟩) | (go_at_call 77; with_reducible refine (moves_is _ _).mono ?_; rintro e w' ⟨rfl, rfl⟩)) | (go_at_call 61; with_reducible refine (small_is _ _).mono ?_; rintro e w' ⟨rfl, rfl⟩) | (go_at_call 75; with_reducible refine (half_is _ _ ?_ ?_ _).mono ?_; (any_goals (first | omega | assumption)); rintro e w' ⟨rfl, rfl⟩))
  go_wp2_with (first | (refine wpList_load_ins rfl (.tmp 3) rfl (W.heap.size) ({ i with op := 19, s := bt w 20, rd := fld w 19 16, ra := fld w 15 12, rs := fld w 11 8, rm := fld w 3 0 } : Ins) rfl ((((((hA.set_ 1 _).set_ 2 _).set_ 4 _).set_ 8 _).set_ 7 _).set_ 6 _) ?_) | (refine wpList_store_ins rfl (.tmp 4) (.tmp 45) rfl (W.heap.size + 1) ({ i with op := 19, s := bt w 20, rd := fld w 19 16, ra := fld w 15 12, rs := fld w 11 8, rm := fld w 3 0 } : Ins) zIns rfl rfl ((((((hZ.far (by simp) _).far (by simp) _).far (by simp) _).far (by simp) _).far (by simp) _).far (by simp) _) ?_; intro w8 B8 g8))
  refine ret_ins 4 (W.heap.size + 1) ({ i with op := 19, s := bt w 20, rd := fld w 19 16, ra := fld w 15 12, rs := fld w 11 8, rm := fld w 3 0 } : Ins) rfl rfl B8 rfl ⟨rfl, ?_⟩
  exact bgrow ((((((hB.setCell (Nat.le_refl _) _).setCell (Nat.le_refl _) _).setCell (Nat.le_refl _) _).setCell (Nat.le_refl _) _).setCell (Nat.le_refl _) _).setCell (Nat.le_refl _) _) g8 (by omega)
theorem product_c0z (w : Int) (h0 : 0 ≤ w) (h1 : w < 4294967296) (i : Ins) (W : World) (p0 : (fld w 27 24 != 0) = false) (n1 : fld w 23 21 = 0) (p1 : (fld w 15 12 != 0) = true) :
    Calls Try.prog 57 #[.int .u32 w, (.agg (insA i))] W fun e w' => e = .returned (.agg (insCells zIns).toArray) ∧ Below W.heap.size W w' := by
  have G := Lib.hid (fun hi lo hl hm hh W => get_any w h0 h1 hi lo hl hm hh W)
  have B := Lib.hid (fun i hl hh W => bit_any w h0 h1 i hl hh W)
  obtain ⟨hA, hZ, hB⟩ := ins_two i W
  go_enter Try.func57, Try.ntmps57
  go_upto_region 1 with fail
  generalize (W.alloc (.cells (insA i) 61)).alloc (.cells zInsA 61) = W2 at hA hZ hB ⊢
  generalize Value.agg (insA i) = vi
  obtain ⟨c0, c1, c2, c3, c4, c5, c6, c7, c8, c9, c10, c11, c12, c13, c14, c15, c16, c17, c18, c19⟩ := ins_at (hA)
  have hf := hA.frozen
  go_upto_region 4 with (first | (first | (go_at_call 38; with_reducible refine (G.out _ _ ?_ ?_ ?_ _).mono ?_; (any_goals (first | omega | decide)); rintro e w' ⟨rfl, rfl⟩) | (go_at_call 41; with_reducible refine (B.out _ ?_ ?_ _).mono ?_; (any_goals (first | omega | decide)); rintro e w' ⟨rfl, rfl⟩) | (go_at_call 76; with_reducible refine (compares_is _ _).mono ?_; rintro e w' ⟨rfl, rfl⟩) | (go_at_call 77; with_reducible refine (moves_is _ _).mono ?_; rintro e w' ⟨rfl, rfl⟩)) | (go_at_call 61; with_reducible refine (small_is _ _).mono ?_; rintro e w' ⟨rfl, rfl⟩) | (go_at_call 75; with_reducible refine (half_is _ _ ?_ ?_ _).mono ?_; (any_goals (first | omega | assumption)); rintro e w' ⟨rfl, rfl⟩))
  have hN : Blok (W2.alloc (.cells #[.int .i64 19, .int .i64 20, .int .i64 0, .int .i64 0, .int .i64 21, .int .i64 22, .int .i64 23, .int .i64 24] 142)) W2.heap.size 142 [.int .i64 19, .int .i64 20, .int .i64 0, .int .i64 0, .int .i64 21, .int .i64 22, .int .i64 23, .int .i64 24] := Blok.new W2 _ _
  have hA' := hA.alloc (.cells #[.int .i64 19, .int .i64 20, .int .i64 0, .int .i64 0, .int .i64 21, .int .i64 22, .int .i64 23, .int .i64 24] 142)
  have hZ' := hZ.alloc (.cells #[.int .i64 19, .int .i64 20, .int .i64 0, .int .i64 0, .int .i64 21, .int .i64 22, .int .i64 23, .int .i64 24] 142)
  have hB' := hB.alloc hB.size (.cells #[.int .i64 19, .int .i64 20, .int .i64 0, .int .i64 0, .int .i64 21, .int .i64 22, .int .i64 23, .int .i64 24] 142)
  have hlt : W.heap.size + 1 < W2.heap.size := hZ.lt
  clear hA hZ hB c0 c1 c2 c3 c4 c5 c6 c7 c8 c9 c10 c11 c12 c13 c14 c15 c16 c17 c18 c19 hf
  generalize W2.alloc (.cells #[.int .i64 19, .int .i64 20, .int .i64 0, .int .i64 0, .int .i64 21, .int .i64 22, .int .i64 23, .int .i64 24] 142) = W3 at hA' hZ' hB' hN ⊢
  generalize W2.heap.size = b3 at hN hlt ⊢
  rename Blok W3 W.heap.size _ _ => hA
  rename Blok W3 (W.heap.size + 1) _ _ => hZ
  rename Below W.heap.size W W3 => hB
  obtain ⟨c0, c1, c2, c3, c4, c5, c6, c7, c8, c9, c10, c11, c12, c13, c14, c15, c16, c17, c18, c19⟩ := ins_at (hA)
  have hf := hA.frozen
  have hn : W3.cell? ⟨b3, 0, none⟩ = some (.int .i64 19) := hN.cell 0
  have hne : ¬ b3 = W.heap.size := by omega
  have hne2 : ¬ W.heap.size = b3 := by omega
  go_upto_region 8 with (first | (first | (go_at_call 38; with_reducible refine (G.out _ _ ?_ ?_ ?_ _).mono ?_; (any_goals (first | omega | decide)); rintro e w' ⟨rfl, rfl⟩) | (go_at_call 41; with_reducible refine (B.out _ ?_ ?_ _).mono ?_; (any_goals (first | omega | decide)); rintro e w' ⟨rfl, rfl⟩) | (go_at_call 76; with_reducible refine (compares_is _ _).mono ?_; rintro e w' ⟨rfl, rfl⟩) | (go_at_call 77; with_reducible refine (moves_is _ _).mono ?_; rintro e w' ⟨rfl, rfl⟩)) | (go_at_call 61; with_reducible refine (small_is _ _).mono ?_; rintro e w' ⟨rfl, rfl⟩) | (go_at_call 75; with_reducible refine (half_is _ _ ?_ ?_ _).mono ?_; (any_goals (first | omega | assumption)); rintro e w' ⟨rfl, rfl⟩))
  go_wp2_with (refine wpList_store_ins rfl (.tmp 4) (.tmp 44) rfl (W.heap.size + 1) zIns zIns rfl rfl ((((((hZ.far (by simp) _).far (by simp) _).far (by simp) _).far (by simp) _).far (by simp) _).far (by simp) _) ?_; intro w8 B8 g8)
  refine ret_ins 4 (W.heap.size + 1) zIns rfl rfl B8 rfl ⟨rfl, ?_⟩
  exact bgrow ((((((hB.setCell (Nat.le_refl _) _).setCell (Nat.le_refl _) _).setCell (Nat.le_refl _) _).setCell (Nat.le_refl _) _).setCell (Nat.le_refl _) _).setCell (Nat.le_refl _) _) g8 (by omega)
theorem product_c1 (w : Int) (h0 : 0 ≤ w) (h1 : w < 4294967296) (i : Ins) (W : World) (p0 : (fld w 27 24 != 0) = false) (n1 : fld w 23 21 = 1) :
    Calls Try.prog 57 #[.int .u32 w, (.agg (insA i))] W fun e w' => e = .returned (.agg (insCells ({ i with op := 20, s := bt w 20, rd := fld w 19 16, ra := fld w 15 12, rs := fld w 11 8, rm := fld w 3 0 } : Ins)).toArray) ∧ Below W.heap.size W w' := by
  have G := Lib.hid (fun hi lo hl hm hh W => get_any w h0 h1 hi lo hl hm hh W)
  have B := Lib.hid (fun i hl hh W => bit_any w h0 h1 i hl hh W)
  obtain ⟨hA, hZ, hB⟩ := ins_two i W
  go_enter Try.func57, Try.ntmps57
  go_upto_region 1 with fail
  generalize (W.alloc (.cells (insA i) 61)).alloc (.cells zInsA 61) = W2 at hA hZ hB ⊢
  generalize Value.agg (insA i) = vi
  obtain ⟨c0, c1, c2, c3, c4, c5, c6, c7, c8, c9, c10, c11, c12, c13, c14, c15, c16, c17, c18, c19⟩ := ins_at (hA)
  have hf := hA.frozen
  go_upto_region 4 with (first | (first | (go_at_call 38; with_reducible refine (G.out _ _ ?_ ?_ ?_ _).mono ?_; (any_goals (first | omega | decide)); rintro e w' ⟨rfl, rfl⟩) | (go_at_call 41; with_reducible refine (B.out _ ?_ ?_ _).mono ?_; (any_goals (first | omega | decide)); rintro e w' ⟨rfl, rfl⟩) | (go_at_call 76; with_reducible refine (compares_is _ _).mono ?_; rintro e w' ⟨rfl, rfl⟩) | (go_at_call 77; with_reducible refine (moves_is _ _).mono ?_; rintro e w' ⟨rfl, rfl⟩)) | (go_at_call 61; with_reducible refine (small_is _ _).mono ?_; rintro e w' ⟨rfl, rfl⟩) | (go_at_call 75; with_reducible refine (half_is _ _ ?_ ?_ _).mono ?_; (any_goals (first | omega | assumption)); rintro e w' ⟨rfl, rfl⟩))
  have hN : Blok (W2.alloc (.cells #[.int .i64 19, .int .i64 20, .int .i64 0, .int .i64 0, .int .i64 21, .int .i64 22, .int .i64 23, .int .i64 24] 142)) W2.heap.size 142 [.int .i64 19, .int .i64 20, .int .i64 0, .int .i64 0, .int .i64 21, .int .i64 22, .int .i64 23, .int .i64 24] := Blok.new W2 _ _
  have hA' := hA.alloc (.cells #[.int .i64 19, .int .i64 20, .int .i64 0, .int .i64 0, .int .i64 21, .int .i64 22, .int .i64 23, .int .i64 24] 142)
  have hZ' := hZ.alloc (.cells #[.int .i64 19, .int .i64 20, .int .i64 0, .int .i64 0, .int .i64 21, .int .i64 22, .int .i64 23, .int .i64 24] 142)
  have hB' := hB.alloc hB.size (.cells #[.int .i64 19, .int .i64 20, .int .i64 0, .int .i64 0, .int .i64 21, .int .i64 22, .int .i64 23, .int .i64 24] 142)
  have hlt : W.heap.size + 1 < W2.heap.size := hZ.lt
  clear hA hZ hB c0 c1 c2 c3 c4 c5 c6 c7 c8 c9 c10 c11 c12 c13 c14 c15 c16 c17 c18 c19 hf
  generalize W2.alloc (.cells #[.int .i64 19, .int .i64 20, .int .i64 0, .int .i64 0, .int .i64 21, .int .i64 22, .int .i64 23, .int .i64 24] 142) = W3 at hA' hZ' hB' hN ⊢
  generalize W2.heap.size = b3 at hN hlt ⊢
  rename Blok W3 W.heap.size _ _ => hA
  rename Blok W3 (W.heap.size + 1) _ _ => hZ
  rename Below W.heap.size W W3 => hB
  obtain ⟨c0, c1, c2, c3, c4, c5, c6, c7, c8, c9, c10, c11, c12, c13, c14, c15, c16, c17, c18, c19⟩ := ins_at (hA)
  have hf := hA.frozen
  have hn : W3.cell? ⟨b3, 1, none⟩ = some (.int .i64 20) := hN.cell 1
  have hne : ¬ b3 = W.heap.size := by omega
  have hne2 : ¬ W.heap.size = b3 := by omega
  go_upto_region 9 with (first | (first | (go_at_call 38; with_reducible refine (G.out _ _ ?_ ?_ ?_ _).mono ?_; (any_goals (first | omega | decide)); rintro e w' ⟨rfl, rfl⟩) | (go_at_call 41; with_reducible refine (B.out _ ?_ ?_ _).mono ?_; (any_goals (first | omega | decide)); rintro e w' ⟨rfl, rfl⟩) | (go_at_call 76; with_reducible refine (compares_is _ _).mono ?_; rintro e w' ⟨rfl, rfl⟩) | (go_at_call 77; with_reducible refine (moves_is _ _).mono ?_; rintro e w' ⟨rfl, rfl⟩)) | (go_at_call 61; with_reducible refine (small_is _ _).mono ?_; rintro e w' ⟨rfl, rfl⟩) | (go_at_call 75; with_reducible refine (half_is _ _ ?_ ?_ _).mono ?_; (any_goals (first | omega | assumption)); rintro e w' ⟨rfl, rfl⟩))
  go_wp2_with (first | (refine wpList_load_ins rfl (.tmp 3) rfl (W.heap.size) ({ i with op := 20, s := bt w 20, rd := fld w 19 16, ra := fld w 15 12, rs := fld w 11 8, rm := fld w 3 0 } : Ins) rfl ((((((hA.set_ 1 _).set_ 2 _).set_ 4 _).set_ 8 _).set_ 7 _).set_ 6 _) ?_) | (refine wpList_store_ins rfl (.tmp 4) (.tmp 45) rfl (W.heap.size + 1) ({ i with op := 20, s := bt w 20, rd := fld w 19 16, ra := fld w 15 12, rs := fld w 11 8, rm := fld w 3 0 } : Ins) zIns rfl rfl ((((((hZ.far (by simp) _).far (by simp) _).far (by simp) _).far (by simp) _).far (by simp) _).far (by simp) _) ?_; intro w8 B8 g8))
  refine ret_ins 4 (W.heap.size + 1) ({ i with op := 20, s := bt w 20, rd := fld w 19 16, ra := fld w 15 12, rs := fld w 11 8, rm := fld w 3 0 } : Ins) rfl rfl B8 rfl ⟨rfl, ?_⟩
  exact bgrow ((((((hB.setCell (Nat.le_refl _) _).setCell (Nat.le_refl _) _).setCell (Nat.le_refl _) _).setCell (Nat.le_refl _) _).setCell (Nat.le_refl _) _).setCell (Nat.le_refl _) _) g8 (by omega)
theorem product_c2 (w : Int) (h0 : 0 ≤ w) (h1 : w < 4294967296) (i : Ins) (W : World) (p0 : (fld w 27 24 != 0) = false) (n1 : fld w 23 21 = 2) :
    Calls Try.prog 57 #[.int .u32 w, (.agg (insA i))] W fun e w' => e = .returned (.agg (insCells zIns).toArray) ∧ Below W.heap.size W w' := by
  have G := Lib.hid (fun hi lo hl hm hh W => get_any w h0 h1 hi lo hl hm hh W)
  have B := Lib.hid (fun i hl hh W => bit_any w h0 h1 i hl hh W)
  obtain ⟨hA, hZ, hB⟩ := ins_two i W
  go_enter Try.func57, Try.ntmps57
  go_upto_region 1 with fail
  generalize (W.alloc (.cells (insA i) 61)).alloc (.cells zInsA 61) = W2 at hA hZ hB ⊢
  generalize Value.agg (insA i) = vi
  obtain ⟨c0, c1, c2, c3, c4, c5, c6, c7, c8, c9, c10, c11, c12, c13, c14, c15, c16, c17, c18, c19⟩ := ins_at (hA)
  have hf := hA.frozen
  go_upto_region 4 with (first | (first | (go_at_call 38; with_reducible refine (G.out _ _ ?_ ?_ ?_ _).mono ?_; (any_goals (first | omega | decide)); rintro e w' ⟨rfl, rfl⟩) | (go_at_call 41; with_reducible refine (B.out _ ?_ ?_ _).mono ?_; (any_goals (first | omega | decide)); rintro e w' ⟨rfl, rfl⟩) | (go_at_call 76; with_reducible refine (compares_is _ _).mono ?_; rintro e w' ⟨rfl, rfl⟩) | (go_at_call 77; with_reducible refine (moves_is _ _).mono ?_; rintro e w' ⟨rfl, rfl⟩)) | (go_at_call 61; with_reducible refine (small_is _ _).mono ?_; rintro e w' ⟨rfl, rfl⟩) | (go_at_call 75; with_reducible refine (half_is _ _ ?_ ?_ _).mono ?_; (any_goals (first | omega | assumption)); rintro e w' ⟨rfl, rfl⟩))
  have hN : Blok (W2.alloc (.cells #[.int .i64 19, .int .i64 20, .int .i64 0, .int .i64 0, .int .i64 21, .int .i64 22, .int .i64 23, .int .i64 24] 142)) W2.heap.size 142 [.int .i64 19, .int .i64 20, .int .i64 0, .int .i64 0, .int .i64 21, .int .i64 22, .int .i64 23, .int .i64 24] := Blok.new W2 _ _
  have hA' := hA.alloc (.cells #[.int .i64 19, .int .i64 20, .int .i64 0, .int .i64 0, .int .i64 21, .int .i64 22, .int .i64 23, .int .i64 24] 142)
  have hZ' := hZ.alloc (.cells #[.int .i64 19, .int .i64 20, .int .i64 0, .int .i64 0, .int .i64 21, .int .i64 22, .int .i64 23, .int .i64 24] 142)
  have hB' := hB.alloc hB.size (.cells #[.int .i64 19, .int .i64 20, .int .i64 0, .int .i64 0, .int .i64 21, .int .i64 22, .int .i64 23, .int .i64 24] 142)
  have hlt : W.heap.size + 1 < W2.heap.size := hZ.lt
  clear hA hZ hB c0 c1 c2 c3 c4 c5 c6 c7 c8 c9 c10 c11 c12 c13 c14 c15 c16 c17 c18 c19 hf
  generalize W2.alloc (.cells #[.int .i64 19, .int .i64 20, .int .i64 0, .int .i64 0, .int .i64 21, .int .i64 22, .int .i64 23, .int .i64 24] 142) = W3 at hA' hZ' hB' hN ⊢
  generalize W2.heap.size = b3 at hN hlt ⊢
  rename Blok W3 W.heap.size _ _ => hA
  rename Blok W3 (W.heap.size + 1) _ _ => hZ
  rename Below W.heap.size W W3 => hB
  obtain ⟨c0, c1, c2, c3, c4, c5, c6, c7, c8, c9, c10, c11, c12, c13, c14, c15, c16, c17, c18, c19⟩ := ins_at (hA)
  have hf := hA.frozen
  have hn : W3.cell? ⟨b3, 2, none⟩ = some (.int .i64 0) := hN.cell 2
  have hne : ¬ b3 = W.heap.size := by omega
  have hne2 : ¬ W.heap.size = b3 := by omega
  go_upto_region 8 with (first | (first | (go_at_call 38; with_reducible refine (G.out _ _ ?_ ?_ ?_ _).mono ?_; (any_goals (first | omega | decide)); rintro e w' ⟨rfl, rfl⟩) | (go_at_call 41; with_reducible refine (B.out _ ?_ ?_ _).mono ?_; (any_goals (first | omega | decide)); rintro e w' ⟨rfl, rfl⟩) | (go_at_call 76; with_reducible refine (compares_is _ _).mono ?_; rintro e w' ⟨rfl, rfl⟩) | (go_at_call 77; with_reducible refine (moves_is _ _).mono ?_; rintro e w' ⟨rfl, rfl⟩)) | (go_at_call 61; with_reducible refine (small_is _ _).mono ?_; rintro e w' ⟨rfl, rfl⟩) | (go_at_call 75; with_reducible refine (half_is _ _ ?_ ?_ _).mono ?_; (any_goals (first | omega | assumption)); rintro e w' ⟨rfl, rfl⟩))
  go_wp2_with (refine wpList_store_ins rfl (.tmp 4) (.tmp 44) rfl (W.heap.size + 1) zIns zIns rfl rfl ((((((hZ.far (by simp) _).far (by simp) _).far (by simp) _).far (by simp) _).far (by simp) _).far (by simp) _) ?_; intro w8 B8 g8)
  refine ret_ins 4 (W.heap.size + 1) zIns rfl rfl B8 rfl ⟨rfl, ?_⟩
  exact bgrow ((((((hB.setCell (Nat.le_refl _) _).setCell (Nat.le_refl _) _).setCell (Nat.le_refl _) _).setCell (Nat.le_refl _) _).setCell (Nat.le_refl _) _).setCell (Nat.le_refl _) _) g8 (by omega)
theorem product_c3 (w : Int) (h0 : 0 ≤ w) (h1 : w < 4294967296) (i : Ins) (W : World) (p0 : (fld w 27 24 != 0) = false) (n1 : fld w 23 21 = 3) :
    Calls Try.prog 57 #[.int .u32 w, (.agg (insA i))] W fun e w' => e = .returned (.agg (insCells zIns).toArray) ∧ Below W.heap.size W w' := by
  have G := Lib.hid (fun hi lo hl hm hh W => get_any w h0 h1 hi lo hl hm hh W)
  have B := Lib.hid (fun i hl hh W => bit_any w h0 h1 i hl hh W)
  obtain ⟨hA, hZ, hB⟩ := ins_two i W
  go_enter Try.func57, Try.ntmps57
  go_upto_region 1 with fail
  generalize (W.alloc (.cells (insA i) 61)).alloc (.cells zInsA 61) = W2 at hA hZ hB ⊢
  generalize Value.agg (insA i) = vi
  obtain ⟨c0, c1, c2, c3, c4, c5, c6, c7, c8, c9, c10, c11, c12, c13, c14, c15, c16, c17, c18, c19⟩ := ins_at (hA)
  have hf := hA.frozen
  go_upto_region 4 with (first | (first | (go_at_call 38; with_reducible refine (G.out _ _ ?_ ?_ ?_ _).mono ?_; (any_goals (first | omega | decide)); rintro e w' ⟨rfl, rfl⟩) | (go_at_call 41; with_reducible refine (B.out _ ?_ ?_ _).mono ?_; (any_goals (first | omega | decide)); rintro e w' ⟨rfl, rfl⟩) | (go_at_call 76; with_reducible refine (compares_is _ _).mono ?_; rintro e w' ⟨rfl, rfl⟩) | (go_at_call 77; with_reducible refine (moves_is _ _).mono ?_; rintro e w' ⟨rfl, rfl⟩)) | (go_at_call 61; with_reducible refine (small_is _ _).mono ?_; rintro e w' ⟨rfl, rfl⟩) | (go_at_call 75; with_reducible refine (half_is _ _ ?_ ?_ _).mono ?_; (any_goals (first | omega | assumption)); rintro e w' ⟨rfl, rfl⟩))
  have hN : Blok (W2.alloc (.cells #[.int .i64 19, .int .i64 20, .int .i64 0, .int .i64 0, .int .i64 21, .int .i64 22, .int .i64 23, .int .i64 24] 142)) W2.heap.size 142 [.int .i64 19, .int .i64 20, .int .i64 0, .int .i64 0, .int .i64 21, .int .i64 22, .int .i64 23, .int .i64 24] := Blok.new W2 _ _
  have hA' := hA.alloc (.cells #[.int .i64 19, .int .i64 20, .int .i64 0, .int .i64 0, .int .i64 21, .int .i64 22, .int .i64 23, .int .i64 24] 142)
  have hZ' := hZ.alloc (.cells #[.int .i64 19, .int .i64 20, .int .i64 0, .int .i64 0, .int .i64 21, .int .i64 22, .int .i64 23, .int .i64 24] 142)
  have hB' := hB.alloc hB.size (.cells #[.int .i64 19, .int .i64 20, .int .i64 0, .int .i64 0, .int .i64 21, .int .i64 22, .int .i64 23, .int .i64 24] 142)
  have hlt : W.heap.size + 1 < W2.heap.size := hZ.lt
  clear hA hZ hB c0 c1 c2 c3 c4 c5 c6 c7 c8 c9 c10 c11 c12 c13 c14 c15 c16 c17 c18 c19 hf
  generalize W2.alloc (.cells #[.int .i64 19, .int .i64 20, .int .i64 0, .int .i64 0, .int .i64 21, .int .i64 22, .int .i64 23, .int .i64 24] 142) = W3 at hA' hZ' hB' hN ⊢
  generalize W2.heap.size = b3 at hN hlt ⊢
  rename Blok W3 W.heap.size _ _ => hA
  rename Blok W3 (W.heap.size + 1) _ _ => hZ
  rename Below W.heap.size W W3 => hB
  obtain ⟨c0, c1, c2, c3, c4, c5, c6, c7, c8, c9, c10, c11, c12, c13, c14, c15, c16, c17, c18, c19⟩ := ins_at (hA)
  have hf := hA.frozen
  have hn : W3.cell? ⟨b3, 3, none⟩ = some (.int .i64 0) := hN.cell 3
  have hne : ¬ b3 = W.heap.size := by omega
  have hne2 : ¬ W.heap.size = b3 := by omega
  go_upto_region 8 with (first | (first | (go_at_call 38; with_reducible refine (G.out _ _ ?_ ?_ ?_ _).mono ?_; (any_goals (first | omega | decide)); rintro e w' ⟨rfl, rfl⟩) | (go_at_call 41; with_reducible refine (B.out _ ?_ ?_ _).mono ?_; (any_goals (first | omega | decide)); rintro e w' ⟨rfl, rfl⟩) | (go_at_call 76; with_reducible refine (compares_is _ _).mono ?_; rintro e w' ⟨rfl, rfl⟩) | (go_at_call 77; with_reducible refine (moves_is _ _).mono ?_; rintro e w' ⟨rfl, rfl⟩)) | (go_at_call 61; with_reducible refine (small_is _ _).mono ?_; rintro e w' ⟨rfl, rfl⟩) | (go_at_call 75; with_reducible refine (half_is _ _ ?_ ?_ _).mono ?_; (any_goals (first | omega | assumption)); rintro e w' ⟨rfl, rfl⟩))
  go_wp2_with (refine wpList_store_ins rfl (.tmp 4) (.tmp 44) rfl (W.heap.size + 1) zIns zIns rfl rfl ((((((hZ.far (by simp) _).far (by simp) _).far (by simp) _).far (by simp) _).far (by simp) _).far (by simp) _) ?_; intro w8 B8 g8)
  refine ret_ins 4 (W.heap.size + 1) zIns rfl rfl B8 rfl ⟨rfl, ?_⟩
  exact bgrow ((((((hB.setCell (Nat.le_refl _) _).setCell (Nat.le_refl _) _).setCell (Nat.le_refl _) _).setCell (Nat.le_refl _) _).setCell (Nat.le_refl _) _).setCell (Nat.le_refl _) _) g8 (by omega)
theorem product_c4 (w : Int) (h0 : 0 ≤ w) (h1 : w < 4294967296) (i : Ins) (W : World) (p0 : (fld w 27 24 != 0) = false) (n1 : fld w 23 21 = 4) :
    Calls Try.prog 57 #[.int .u32 w, (.agg (insA i))] W fun e w' => e = .returned (.agg (insCells ({ i with op := 21, s := bt w 20, rd := fld w 19 16, ra := fld w 15 12, rs := fld w 11 8, rm := fld w 3 0 } : Ins)).toArray) ∧ Below W.heap.size W w' := by
  have G := Lib.hid (fun hi lo hl hm hh W => get_any w h0 h1 hi lo hl hm hh W)
  have B := Lib.hid (fun i hl hh W => bit_any w h0 h1 i hl hh W)
  obtain ⟨hA, hZ, hB⟩ := ins_two i W
  go_enter Try.func57, Try.ntmps57
  go_upto_region 1 with fail
  generalize (W.alloc (.cells (insA i) 61)).alloc (.cells zInsA 61) = W2 at hA hZ hB ⊢
  generalize Value.agg (insA i) = vi
  obtain ⟨c0, c1, c2, c3, c4, c5, c6, c7, c8, c9, c10, c11, c12, c13, c14, c15, c16, c17, c18, c19⟩ := ins_at (hA)
  have hf := hA.frozen
  go_upto_region 4 with (first | (first | (go_at_call 38; with_reducible refine (G.out _ _ ?_ ?_ ?_ _).mono ?_; (any_goals (first | omega | decide)); rintro e w' ⟨rfl, rfl⟩) | (go_at_call 41; with_reducible refine (B.out _ ?_ ?_ _).mono ?_; (any_goals (first | omega | decide)); rintro e w' ⟨rfl, rfl⟩) | (go_at_call 76; with_reducible refine (compares_is _ _).mono ?_; rintro e w' ⟨rfl, rfl⟩) | (go_at_call 77; with_reducible refine (moves_is _ _).mono ?_; rintro e w' ⟨rfl, rfl⟩)) | (go_at_call 61; with_reducible refine (small_is _ _).mono ?_; rintro e w' ⟨rfl, rfl⟩) | (go_at_call 75; with_reducible refine (half_is _ _ ?_ ?_ _).mono ?_; (any_goals (first | omega | assumption)); rintro e w' ⟨rfl, rfl⟩))
  have hN : Blok (W2.alloc (.cells #[.int .i64 19, .int .i64 20, .int .i64 0, .int .i64 0, .int .i64 21, .int .i64 22, .int .i64 23, .int .i64 24] 142)) W2.heap.size 142 [.int .i64 19, .int .i64 20, .int .i64 0, .int .i64 0, .int .i64 21, .int .i64 22, .int .i64 23, .int .i64 24] := Blok.new W2 _ _
  have hA' := hA.alloc (.cells #[.int .i64 19, .int .i64 20, .int .i64 0, .int .i64 0, .int .i64 21, .int .i64 22, .int .i64 23, .int .i64 24] 142)
  have hZ' := hZ.alloc (.cells #[.int .i64 19, .int .i64 20, .int .i64 0, .int .i64 0, .int .i64 21, .int .i64 22, .int .i64 23, .int .i64 24] 142)
  have hB' := hB.alloc hB.size (.cells #[.int .i64 19, .int .i64 20, .int .i64 0, .int .i64 0, .int .i64 21, .int .i64 22, .int .i64 23, .int .i64 24] 142)
  have hlt : W.heap.size + 1 < W2.heap.size := hZ.lt
  clear hA hZ hB c0 c1 c2 c3 c4 c5 c6 c7 c8 c9 c10 c11 c12 c13 c14 c15 c16 c17 c18 c19 hf
  generalize W2.alloc (.cells #[.int .i64 19, .int .i64 20, .int .i64 0, .int .i64 0, .int .i64 21, .int .i64 22, .int .i64 23, .int .i64 24] 142) = W3 at hA' hZ' hB' hN ⊢
  generalize W2.heap.size = b3 at hN hlt ⊢
  rename Blok W3 W.heap.size _ _ => hA
  rename Blok W3 (W.heap.size + 1) _ _ => hZ
  rename Below W.heap.size W W3 => hB
  obtain ⟨c0, c1, c2, c3, c4, c5, c6, c7, c8, c9, c10, c11, c12, c13, c14, c15, c16, c17, c18, c19⟩ := ins_at (hA)
  have hf := hA.frozen
  have hn : W3.cell? ⟨b3, 4, none⟩ = some (.int .i64 21) := hN.cell 4
  have hne : ¬ b3 = W.heap.size := by omega
  have hne2 : ¬ W.heap.size = b3 := by omega
  go_upto_region 9 with (first | (first | (go_at_call 38; with_reducible refine (G.out _ _ ?_ ?_ ?_ _).mono ?_; (any_goals (first | omega | decide)); rintro e w' ⟨rfl, rfl⟩) | (go_at_call 41; with_reducible refine (B.out _ ?_ ?_ _).mono ?_; (any_goals (first | omega | decide)); rintro e w' ⟨rfl, rfl⟩) | (go_at_call 76; with_reducible refine (compares_is _ _).mono ?_; rintro e w' ⟨rfl, rfl⟩) | (go_at_call 77; with_reducible refine (moves_is _ _).mono ?_; rintro e w' ⟨rfl, rfl⟩)) | (go_at_call 61; with_reducible refine (small_is _ _).mono ?_; rintro e w' ⟨rfl, rfl⟩) | (go_at_call 75; with_reducible refine (half_is _ _ ?_ ?_ _).mono ?_; (any_goals (first | omega | assumption)); rintro e w' ⟨rfl, rfl⟩))
  go_wp2_with (first | (refine wpList_load_ins rfl (.tmp 3) rfl (W.heap.size) ({ i with op := 21, s := bt w 20, rd := fld w 19 16, ra := fld w 15 12, rs := fld w 11 8, rm := fld w 3 0 } : Ins) rfl ((((((hA.set_ 1 _).set_ 2 _).set_ 4 _).set_ 8 _).set_ 7 _).set_ 6 _) ?_) | (refine wpList_store_ins rfl (.tmp 4) (.tmp 45) rfl (W.heap.size + 1) ({ i with op := 21, s := bt w 20, rd := fld w 19 16, ra := fld w 15 12, rs := fld w 11 8, rm := fld w 3 0 } : Ins) zIns rfl rfl ((((((hZ.far (by simp) _).far (by simp) _).far (by simp) _).far (by simp) _).far (by simp) _).far (by simp) _) ?_; intro w8 B8 g8))
  refine ret_ins 4 (W.heap.size + 1) ({ i with op := 21, s := bt w 20, rd := fld w 19 16, ra := fld w 15 12, rs := fld w 11 8, rm := fld w 3 0 } : Ins) rfl rfl B8 rfl ⟨rfl, ?_⟩
  exact bgrow ((((((hB.setCell (Nat.le_refl _) _).setCell (Nat.le_refl _) _).setCell (Nat.le_refl _) _).setCell (Nat.le_refl _) _).setCell (Nat.le_refl _) _).setCell (Nat.le_refl _) _) g8 (by omega)
theorem product_c5 (w : Int) (h0 : 0 ≤ w) (h1 : w < 4294967296) (i : Ins) (W : World) (p0 : (fld w 27 24 != 0) = false) (n1 : fld w 23 21 = 5) :
    Calls Try.prog 57 #[.int .u32 w, (.agg (insA i))] W fun e w' => e = .returned (.agg (insCells ({ i with op := 22, s := bt w 20, rd := fld w 19 16, ra := fld w 15 12, rs := fld w 11 8, rm := fld w 3 0 } : Ins)).toArray) ∧ Below W.heap.size W w' := by
  have G := Lib.hid (fun hi lo hl hm hh W => get_any w h0 h1 hi lo hl hm hh W)
  have B := Lib.hid (fun i hl hh W => bit_any w h0 h1 i hl hh W)
  obtain ⟨hA, hZ, hB⟩ := ins_two i W
  go_enter Try.func57, Try.ntmps57
  go_upto_region 1 with fail
  generalize (W.alloc (.cells (insA i) 61)).alloc (.cells zInsA 61) = W2 at hA hZ hB ⊢
  generalize Value.agg (insA i) = vi
  obtain ⟨c0, c1, c2, c3, c4, c5, c6, c7, c8, c9, c10, c11, c12, c13, c14, c15, c16, c17, c18, c19⟩ := ins_at (hA)
  have hf := hA.frozen
  go_upto_region 4 with (first | (first | (go_at_call 38; with_reducible refine (G.out _ _ ?_ ?_ ?_ _).mono ?_; (any_goals (first | omega | decide)); rintro e w' ⟨rfl, rfl⟩) | (go_at_call 41; with_reducible refine (B.out _ ?_ ?_ _).mono ?_; (any_goals (first | omega | decide)); rintro e w' ⟨rfl, rfl⟩) | (go_at_call 76; with_reducible refine (compares_is _ _).mono ?_; rintro e w' ⟨rfl, rfl⟩) | (go_at_call 77; with_reducible refine (moves_is _ _).mono ?_; rintro e w' ⟨rfl, rfl⟩)) | (go_at_call 61; with_reducible refine (small_is _ _).mono ?_; rintro e w' ⟨rfl, rfl⟩) | (go_at_call 75; with_reducible refine (half_is _ _ ?_ ?_ _).mono ?_; (any_goals (first | omega | assumption)); rintro e w' ⟨rfl, rfl⟩))
  have hN : Blok (W2.alloc (.cells #[.int .i64 19, .int .i64 20, .int .i64 0, .int .i64 0, .int .i64 21, .int .i64 22, .int .i64 23, .int .i64 24] 142)) W2.heap.size 142 [.int .i64 19, .int .i64 20, .int .i64 0, .int .i64 0, .int .i64 21, .int .i64 22, .int .i64 23, .int .i64 24] := Blok.new W2 _ _
  have hA' := hA.alloc (.cells #[.int .i64 19, .int .i64 20, .int .i64 0, .int .i64 0, .int .i64 21, .int .i64 22, .int .i64 23, .int .i64 24] 142)
  have hZ' := hZ.alloc (.cells #[.int .i64 19, .int .i64 20, .int .i64 0, .int .i64 0, .int .i64 21, .int .i64 22, .int .i64 23, .int .i64 24] 142)
  have hB' := hB.alloc hB.size (.cells #[.int .i64 19, .int .i64 20, .int .i64 0, .int .i64 0, .int .i64 21, .int .i64 22, .int .i64 23, .int .i64 24] 142)
  have hlt : W.heap.size + 1 < W2.heap.size := hZ.lt
  clear hA hZ hB c0 c1 c2 c3 c4 c5 c6 c7 c8 c9 c10 c11 c12 c13 c14 c15 c16 c17 c18 c19 hf
  generalize W2.alloc (.cells #[.int .i64 19, .int .i64 20, .int .i64 0, .int .i64 0, .int .i64 21, .int .i64 22, .int .i64 23, .int .i64 24] 142) = W3 at hA' hZ' hB' hN ⊢
  generalize W2.heap.size = b3 at hN hlt ⊢
  rename Blok W3 W.heap.size _ _ => hA
  rename Blok W3 (W.heap.size + 1) _ _ => hZ
  rename Below W.heap.size W W3 => hB
  obtain ⟨c0, c1, c2, c3, c4, c5, c6, c7, c8, c9, c10, c11, c12, c13, c14, c15, c16, c17, c18, c19⟩ := ins_at (hA)
  have hf := hA.frozen
  have hn : W3.cell? ⟨b3, 5, none⟩ = some (.int .i64 22) := hN.cell 5
  have hne : ¬ b3 = W.heap.size := by omega
  have hne2 : ¬ W.heap.size = b3 := by omega
  go_upto_region 9 with (first | (first | (go_at_call 38; with_reducible refine (G.out _ _ ?_ ?_ ?_ _).mono ?_; (any_goals (first | omega | decide)); rintro e w' ⟨rfl, rfl⟩) | (go_at_call 41; with_reducible refine (B.out _ ?_ ?_ _).mono ?_; (any_goals (first | omega | decide)); rintro e w' ⟨rfl, rfl⟩) | (go_at_call 76; with_reducible refine (compares_is _ _).mono ?_; rintro e w' ⟨rfl, rfl⟩) | (go_at_call 77; with_reducible refine (moves_is _ _).mono ?_; rintro e w' ⟨rfl, rfl⟩)) | (go_at_call 61; with_reducible refine (small_is _ _).mono ?_; rintro e w' ⟨rfl, rfl⟩) | (go_at_call 75; with_reducible refine (half_is _ _ ?_ ?_ _).mono ?_; (any_goals (first | omega | assumption)); rintro e w' ⟨rfl, rfl⟩))
  go_wp2_with (first | (refine wpList_load_ins rfl (.tmp 3) rfl (W.heap.size) ({ i with op := 22, s := bt w 20, rd := fld w 19 16, ra := fld w 15 12, rs := fld w 11 8, rm := fld w 3 0 } : Ins) rfl ((((((hA.set_ 1 _).set_ 2 _).set_ 4 _).set_ 8 _).set_ 7 _).set_ 6 _) ?_) | (refine wpList_store_ins rfl (.tmp 4) (.tmp 45) rfl (W.heap.size + 1) ({ i with op := 22, s := bt w 20, rd := fld w 19 16, ra := fld w 15 12, rs := fld w 11 8, rm := fld w 3 0 } : Ins) zIns rfl rfl ((((((hZ.far (by simp) _).far (by simp) _).far (by simp) _).far (by simp) _).far (by simp) _).far (by simp) _) ?_; intro w8 B8 g8))
  refine ret_ins 4 (W.heap.size + 1) ({ i with op := 22, s := bt w 20, rd := fld w 19 16, ra := fld w 15 12, rs := fld w 11 8, rm := fld w 3 0 } : Ins) rfl rfl B8 rfl ⟨rfl, ?_⟩
  exact bgrow ((((((hB.setCell (Nat.le_refl _) _).setCell (Nat.le_refl _) _).setCell (Nat.le_refl _) _).setCell (Nat.le_refl _) _).setCell (Nat.le_refl _) _).setCell (Nat.le_refl _) _) g8 (by omega)
theorem product_c6 (w : Int) (h0 : 0 ≤ w) (h1 : w < 4294967296) (i : Ins) (W : World) (p0 : (fld w 27 24 != 0) = false) (n1 : fld w 23 21 = 6) :
    Calls Try.prog 57 #[.int .u32 w, (.agg (insA i))] W fun e w' => e = .returned (.agg (insCells ({ i with op := 23, s := bt w 20, rd := fld w 19 16, ra := fld w 15 12, rs := fld w 11 8, rm := fld w 3 0 } : Ins)).toArray) ∧ Below W.heap.size W w' := by
  have G := Lib.hid (fun hi lo hl hm hh W => get_any w h0 h1 hi lo hl hm hh W)
  have B := Lib.hid (fun i hl hh W => bit_any w h0 h1 i hl hh W)
  obtain ⟨hA, hZ, hB⟩ := ins_two i W
  go_enter Try.func57, Try.ntmps57
  go_upto_region 1 with fail
  generalize (W.alloc (.cells (insA i) 61)).alloc (.cells zInsA 61) = W2 at hA hZ hB ⊢
  generalize Value.agg (insA i) = vi
  obtain ⟨c0, c1, c2, c3, c4, c5, c6, c7, c8, c9, c10, c11, c12, c13, c14, c15, c16, c17, c18, c19⟩ := ins_at (hA)
  have hf := hA.frozen
  go_upto_region 4 with (first | (first | (go_at_call 38; with_reducible refine (G.out _ _ ?_ ?_ ?_ _).mono ?_; (any_goals (first | omega | decide)); rintro e w' ⟨rfl, rfl⟩) | (go_at_call 41; with_reducible refine (B.out _ ?_ ?_ _).mono ?_; (any_goals (first | omega | decide)); rintro e w' ⟨rfl, rfl⟩) | (go_at_call 76; with_reducible refine (compares_is _ _).mono ?_; rintro e w' ⟨rfl, rfl⟩) | (go_at_call 77; with_reducible refine (moves_is _ _).mono ?_; rintro e w' ⟨rfl, rfl⟩)) | (go_at_call 61; with_reducible refine (small_is _ _).mono ?_; rintro e w' ⟨rfl, rfl⟩) | (go_at_call 75; with_reducible refine (half_is _ _ ?_ ?_ _).mono ?_; (any_goals (first | omega | assumption)); rintro e w' ⟨rfl, rfl⟩))
  have hN : Blok (W2.alloc (.cells #[.int .i64 19, .int .i64 20, .int .i64 0, .int .i64 0, .int .i64 21, .int .i64 22, .int .i64 23, .int .i64 24] 142)) W2.heap.size 142 [.int .i64 19, .int .i64 20, .int .i64 0, .int .i64 0, .int .i64 21, .int .i64 22, .int .i64 23, .int .i64 24] := Blok.new W2 _ _
  have hA' := hA.alloc (.cells #[.int .i64 19, .int .i64 20, .int .i64 0, .int .i64 0, .int .i64 21, .int .i64 22, .int .i64 23, .int .i64 24] 142)
  have hZ' := hZ.alloc (.cells #[.int .i64 19, .int .i64 20, .int .i64 0, .int .i64 0, .int .i64 21, .int .i64 22, .int .i64 23, .int .i64 24] 142)
  have hB' := hB.alloc hB.size (.cells #[.int .i64 19, .int .i64 20, .int .i64 0, .int .i64 0, .int .i64 21, .int .i64 22, .int .i64 23, .int .i64 24] 142)
  have hlt : W.heap.size + 1 < W2.heap.size := hZ.lt
  clear hA hZ hB c0 c1 c2 c3 c4 c5 c6 c7 c8 c9 c10 c11 c12 c13 c14 c15 c16 c17 c18 c19 hf
  generalize W2.alloc (.cells #[.int .i64 19, .int .i64 20, .int .i64 0, .int .i64 0, .int .i64 21, .int .i64 22, .int .i64 23, .int .i64 24] 142) = W3 at hA' hZ' hB' hN ⊢
  generalize W2.heap.size = b3 at hN hlt ⊢
  rename Blok W3 W.heap.size _ _ => hA
  rename Blok W3 (W.heap.size + 1) _ _ => hZ
  rename Below W.heap.size W W3 => hB
  obtain ⟨c0, c1, c2, c3, c4, c5, c6, c7, c8, c9, c10, c11, c12, c13, c14, c15, c16, c17, c18, c19⟩ := ins_at (hA)
  have hf := hA.frozen
  have hn : W3.cell? ⟨b3, 6, none⟩ = some (.int .i64 23) := hN.cell 6
  have hne : ¬ b3 = W.heap.size := by omega
  have hne2 : ¬ W.heap.size = b3 := by omega
  go_upto_region 9 with (first | (first | (go_at_call 38; with_reducible refine (G.out _ _ ?_ ?_ ?_ _).mono ?_; (any_goals (first | omega | decide)); rintro e w' ⟨rfl, rfl⟩) | (go_at_call 41; with_reducible refine (B.out _ ?_ ?_ _).mono ?_; (any_goals (first | omega | decide)); rintro e w' ⟨rfl, rfl⟩) | (go_at_call 76; with_reducible refine (compares_is _ _).mono ?_; rintro e w' ⟨rfl, rfl⟩) | (go_at_call 77; with_reducible refine (moves_is _ _).mono ?_; rintro e w' ⟨rfl, rfl⟩)) | (go_at_call 61; with_reducible refine (small_is _ _).mono ?_; rintro e w' ⟨rfl, rfl⟩) | (go_at_call 75; with_reducible refine (half_is _ _ ?_ ?_ _).mono ?_; (any_goals (first | omega | assumption)); rintro e w' ⟨rfl, rfl⟩))
  go_wp2_with (first | (refine wpList_load_ins rfl (.tmp 3) rfl (W.heap.size) ({ i with op := 23, s := bt w 20, rd := fld w 19 16, ra := fld w 15 12, rs := fld w 11 8, rm := fld w 3 0 } : Ins) rfl ((((((hA.set_ 1 _).set_ 2 _).set_ 4 _).set_ 8 _).set_ 7 _).set_ 6 _) ?_) | (refine wpList_store_ins rfl (.tmp 4) (.tmp 45) rfl (W.heap.size + 1) ({ i with op := 23, s := bt w 20, rd := fld w 19 16, ra := fld w 15 12, rs := fld w 11 8, rm := fld w 3 0 } : Ins) zIns rfl rfl ((((((hZ.far (by simp) _).far (by simp) _).far (by simp) _).far (by simp) _).far (by simp) _).far (by simp) _) ?_; intro w8 B8 g8))
  refine ret_ins 4 (W.heap.size + 1) ({ i with op := 23, s := bt w 20, rd := fld w 19 16, ra := fld w 15 12, rs := fld w 11 8, rm := fld w 3 0 } : Ins) rfl rfl B8 rfl ⟨rfl, ?_⟩
  exact bgrow ((((((hB.setCell (Nat.le_refl _) _).setCell (Nat.le_refl _) _).setCell (Nat.le_refl _) _).setCell (Nat.le_refl _) _).setCell (Nat.le_refl _) _).setCell (Nat.le_refl _) _) g8 (by omega)
theorem product_c7 (w : Int) (h0 : 0 ≤ w) (h1 : w < 4294967296) (i : Ins) (W : World) (p0 : (fld w 27 24 != 0) = false) (n1 : fld w 23 21 = 7) :
    Calls Try.prog 57 #[.int .u32 w, (.agg (insA i))] W fun e w' => e = .returned (.agg (insCells ({ i with op := 24, s := bt w 20, rd := fld w 19 16, ra := fld w 15 12, rs := fld w 11 8, rm := fld w 3 0 } : Ins)).toArray) ∧ Below W.heap.size W w' := by
  have G := Lib.hid (fun hi lo hl hm hh W => get_any w h0 h1 hi lo hl hm hh W)
  have B := Lib.hid (fun i hl hh W => bit_any w h0 h1 i hl hh W)
  obtain ⟨hA, hZ, hB⟩ := ins_two i W
  go_enter Try.func57, Try.ntmps57
  go_upto_region 1 with fail
  generalize (W.alloc (.cells (insA i) 61)).alloc (.cells zInsA 61) = W2 at hA hZ hB ⊢
  generalize Value.agg (insA i) = vi
  obtain ⟨c0, c1, c2, c3, c4, c5, c6, c7, c8, c9, c10, c11, c12, c13, c14, c15, c16, c17, c18, c19⟩ := ins_at (hA)
  have hf := hA.frozen
  go_upto_region 4 with (first | (first | (go_at_call 38; with_reducible refine (G.out _ _ ?_ ?_ ?_ _).mono ?_; (any_goals (first | omega | decide)); rintro e w' ⟨rfl, rfl⟩) | (go_at_call 41; with_reducible refine (B.out _ ?_ ?_ _).mono ?_; (any_goals (first | omega | decide)); rintro e w' ⟨rfl, rfl⟩) | (go_at_call 76; with_reducible refine (compares_is _ _).mono ?_; rintro e w' ⟨rfl, rfl⟩) | (go_at_call 77; with_reducible refine (moves_is _ _).mono ?_; rintro e w' ⟨rfl, rfl⟩)) | (go_at_call 61; with_reducible refine (small_is _ _).mono ?_; rintro e w' ⟨rfl, rfl⟩) | (go_at_call 75; with_reducible refine (half_is _ _ ?_ ?_ _).mono ?_; (any_goals (first | omega | assumption)); rintro e w' ⟨rfl, rfl⟩))
  have hN : Blok (W2.alloc (.cells #[.int .i64 19, .int .i64 20, .int .i64 0, .int .i64 0, .int .i64 21, .int .i64 22, .int .i64 23, .int .i64 24] 142)) W2.heap.size 142 [.int .i64 19, .int .i64 20, .int .i64 0, .int .i64 0, .int .i64 21, .int .i64 22, .int .i64 23, .int .i64 24] := Blok.new W2 _ _
  have hA' := hA.alloc (.cells #[.int .i64 19, .int .i64 20, .int .i64 0, .int .i64 0, .int .i64 21, .int .i64 22, .int .i64 23, .int .i64 24] 142)
  have hZ' := hZ.alloc (.cells #[.int .i64 19, .int .i64 20, .int .i64 0, .int .i64 0, .int .i64 21, .int .i64 22, .int .i64 23, .int .i64 24] 142)
  have hB' := hB.alloc hB.size (.cells #[.int .i64 19, .int .i64 20, .int .i64 0, .int .i64 0, .int .i64 21, .int .i64 22, .int .i64 23, .int .i64 24] 142)
  have hlt : W.heap.size + 1 < W2.heap.size := hZ.lt
  clear hA hZ hB c0 c1 c2 c3 c4 c5 c6 c7 c8 c9 c10 c11 c12 c13 c14 c15 c16 c17 c18 c19 hf
  generalize W2.alloc (.cells #[.int .i64 19, .int .i64 20, .int .i64 0, .int .i64 0, .int .i64 21, .int .i64 22, .int .i64 23, .int .i64 24] 142) = W3 at hA' hZ' hB' hN ⊢
  generalize W2.heap.size = b3 at hN hlt ⊢
  rename Blok W3 W.heap.size _ _ => hA
  rename Blok W3 (W.heap.size + 1) _ _ => hZ
  rename Below W.heap.size W W3 => hB
  obtain ⟨c0, c1, c2, c3, c4, c5, c6, c7, c8, c9, c10, c11, c12, c13, c14, c15, c16, c17, c18, c19⟩ := ins_at (hA)
  have hf := hA.frozen
  have hn : W3.cell? ⟨b3, 7, none⟩ = some (.int .i64 24) := hN.cell 7
  have hne : ¬ b3 = W.heap.size := by omega
  have hne2 : ¬ W.heap.size = b3 := by omega
  go_upto_region 9 with (first | (first | (go_at_call 38; with_reducible refine (G.out _ _ ?_ ?_ ?_ _).mono ?_; (any_goals (first | omega | decide)); rintro e w' ⟨rfl, rfl⟩) | (go_at_call 41; with_reducible refine (B.out _ ?_ ?_ _).mono ?_; (any_goals (first | omega | decide)); rintro e w' ⟨rfl, rfl⟩) | (go_at_call 76; with_reducible refine (compares_is _ _).mono ?_; rintro e w' ⟨rfl, rfl⟩) | (go_at_call 77; with_reducible refine (moves_is _ _).mono ?_; rintro e w' ⟨rfl, rfl⟩)) | (go_at_call 61; with_reducible refine (small_is _ _).mono ?_; rintro e w' ⟨rfl, rfl⟩) | (go_at_call 75; with_reducible refine (half_is _ _ ?_ ?_ _).mono ?_; (any_goals (first | omega | assumption)); rintro e w' ⟨rfl, rfl⟩))
  go_wp2_with (first | (refine wpList_load_ins rfl (.tmp 3) rfl (W.heap.size) ({ i with op := 24, s := bt w 20, rd := fld w 19 16, ra := fld w 15 12, rs := fld w 11 8, rm := fld w 3 0 } : Ins) rfl ((((((hA.set_ 1 _).set_ 2 _).set_ 4 _).set_ 8 _).set_ 7 _).set_ 6 _) ?_) | (refine wpList_store_ins rfl (.tmp 4) (.tmp 45) rfl (W.heap.size + 1) ({ i with op := 24, s := bt w 20, rd := fld w 19 16, ra := fld w 15 12, rs := fld w 11 8, rm := fld w 3 0 } : Ins) zIns rfl rfl ((((((hZ.far (by simp) _).far (by simp) _).far (by simp) _).far (by simp) _).far (by simp) _).far (by simp) _) ?_; intro w8 B8 g8))
  refine ret_ins 4 (W.heap.size + 1) ({ i with op := 24, s := bt w 20, rd := fld w 19 16, ra := fld w 15 12, rs := fld w 11 8, rm := fld w 3 0 } : Ins) rfl rfl B8 rfl ⟨rfl, ?_⟩
  exact bgrow ((((((hB.setCell (Nat.le_refl _) _).setCell (Nat.le_refl _) _).setCell (Nat.le_refl _) _).setCell (Nat.le_refl _) _).setCell (Nat.le_refl _) _).setCell (Nat.le_refl _) _) g8 (by omega)
end Go.Proofs.Ytpfhplhamnohjaa
