/- Layer 19: each function whole. Layer 19: the words whose bits 27 to 25 are 0. Layer 19: first whole; says. Layer 19: any15; may. -/
import Derived.Test.YtpfhplhamnohjaaUIsdm
import Derived.Test.YtpfhplhamnohjaaUIsem
import Derived.Test.YtpfhplhamnohjaaUIsfm
import Derived.Test.YtpfhplhamnohjaaUIsgm
import Derived.Test.YtpfhplhamnohjaaUIshm
namespace Go.Proofs.Ytpfhplhamnohjaa
open Go.RowKit

theorem beqF {a b : Int} (h : ¬ a = b) : (a == b) = false := by simp [h]
theorem beqT {a b : Int} (h : a = b) : (a == b) = true := by simp [h]
theorem bneT {a b : Int} (h : ¬ a = b) : (a != b) = true := by simp [h]
theorem bneF {a b : Int} (h : a = b) : (a != b) = false := by simp [h]
theorem btF {b : Bool} (h : ¬ b = true) : b = false := by simpa using h
theorem halves_is (w : Int) (h0 : 0 ≤ w) (h1 : w < 4294967296) (i : Ins) (W : World) :
    Calls Try.prog 58 #[.int .u32 w, (.agg (insA i))] W fun e w' => e = .returned (.agg (insCells (halvesI w i)).toArray) ∧ Below W.heap.size W w' := by
  by_cases p1 : bt w 22 = true
  · by_cases p2 : halfOp (bt w 20) (fld w 6 5) = 0
    · have e : halvesI w i = zIns := by simp [halvesI, p1, p2]
      rw [e]; exact halves_2 w h0 h1 i W p1 (beqT p2)
    · have e := halves_1 w h0 h1 i W p1 (beqF p2)
      have e2 : halvesI w i = _ := (by simp [halvesI, p1, p2] : halvesI w i = { i with op := halfOp (bt w 20) (fld w 6 5), pre := bt w 24, up := bt w 23, write := bt w 21, rn := fld w 19 16, rd := fld w 15 12, form := 1, imm := immI w 11 8 })
      rw [e2]; exact e
  · by_cases p3 : fld w 11 8 = 0
    · by_cases p2 : halfOp (bt w 20) (fld w 6 5) = 0
      · have e : halvesI w i = zIns := by simp [halvesI, p1, p2]
        rw [e]; exact halves_4 w h0 h1 i W (btF p1) (bneF p3) (beqT p2)
      · have e2 : halvesI w i = { i with op := halfOp (bt w 20) (fld w 6 5), pre := bt w 24, up := bt w 23, write := bt w 21, rn := fld w 19 16, rd := fld w 15 12, form := 2, rm := fld w 3 0 } := by simp [halvesI, p1, p2, p3]
        rw [e2]; exact halves_5 w h0 h1 i W (btF p1) (bneF p3) (beqF p2)
    · have e : halvesI w i = zIns := by simp [halvesI, p1, p3]
      rw [e]; exact halves_3 w h0 h1 i W (btF p1) (bneT p3)
theorem media_is (w : Int) (h0 : 0 ≤ w) (h1 : w < 4294967296) (i : Ins) (W : World) :
    Calls Try.prog 42 #[.int .u32 w, (.agg (insA i))] W fun e w' => e = .returned (.agg (insCells (mediaI w i)).toArray) ∧ Below W.heap.size W w' := by
  by_cases p1 : mk w 0x0FFF0FF0 0x06BF0F30 = true
  · have e : mediaI w i = { i with rd := fld w 15 12, rm := fld w 3 0, op := 26 } := by simp [mediaI, p1]
    rw [e]; exact media_1 w h0 h1 i W p1
  · by_cases p2 : mk w 0x0F8F03F0 0x068F0070 = true
    · by_cases p3 : fld w 19 16 = 15
      · by_cases p4 : smallI (fld w 22 20) = 0
        · have e : mediaI w i = zIns := by simp [mediaI, p1, p2, p3, p4]
          rw [e]; exact media_3c w h0 h1 i W (btF p1) p2 (beqT p3) (bneF p4)
        · have e : mediaI w i = { i with rd := fld w 15 12, rm := fld w 3 0, op := smallI (fld w 22 20), amount := fld w 11 10 } := by simp [mediaI, p1, p2, p3, p4]
          rw [e]; exact media_2 w h0 h1 i W (btF p1) p2 (beqT p3) (bneT p4)
      · have e : mediaI w i = zIns := by simp [mediaI, p1, p2, p3]
        rw [e]; exact media_3b w h0 h1 i W (btF p1) p2 (beqF p3)
    · have e : mediaI w i = zIns := by simp [mediaI, p1, p2]
      rw [e]; exact media_3a w h0 h1 i W (btF p1) (btF p2)
theorem special_is (w : Int) (h0 : 0 ≤ w) (h1 : w < 4294967296) (i : Ins) (W : World) :
    Calls Try.prog 59 #[.int .u32 w, (.agg (insA i))] W fun e w' => e = .returned (.agg (insCells (specialI w i)).toArray) ∧ Below W.heap.size W w' := by
  by_cases p1 : mk w 0x0FB00FF0 0x01000000 = true
  · by_cases p2 : fld w 19 16 = 15
    · by_cases p3 : fld w 3 0 = 0
      · have e : specialI w i = { i with op := 47, s := bt w 22, rd := fld w 15 12 } := by simp [specialI, p1, p2, p3]
        rw [e]; exact special_1 w h0 h1 i W p1 (beqT p2) (beqT p3)
      · skip
        by_cases e1 : mk w 0x0FB0FFF0 0x0120F000 = true
        · have e : specialI w i = { i with op := 48, s := bt w 22, form := 2, amount := fld w 19 16, rm := fld w 3 0 } := by simp [specialI, p1, p2, p3, e1]
          rw [e]; exact special_2c w h0 h1 i W p1 (beqT p2) (beqF p3)  e1
        by_cases e2 : mk w 0x0FFFFFF0 0x012FFF10 = true
        · have e : specialI w i = { i with op := 43, rm := fld w 3 0 } := by simp [specialI, p1, p2, p3, e1, e2]
          rw [e]; exact special_3c w h0 h1 i W p1 (beqT p2) (beqF p3) (btF e1) e2
        by_cases e3 : mk w 0x0FFFFFF0 0x012FFF30 = true
        · have e : specialI w i = { i with op := 44, rm := fld w 3 0 } := by simp [specialI, p1, p2, p3, e1, e2, e3]
          rw [e]; exact special_4c w h0 h1 i W p1 (beqT p2) (beqF p3) (btF e1) (btF e2) e3
        by_cases e4 : mk w 0x0FF000F0 0x01200070 = true
        · have e : specialI w i = { i with op := 46, imm := immI w 19 8 } := by simp [specialI, p1, p2, p3, e1, e2, e3, e4]
          rw [e]; exact special_5c w h0 h1 i W p1 (beqT p2) (beqF p3) (btF e1) (btF e2) (btF e3) e4
        by_cases e5 : mk w 0x0FFF0FF0 0x016F0F10 = true
        · have e : specialI w i = { i with op := 25, rd := fld w 15 12, rm := fld w 3 0 } := by simp [specialI, p1, p2, p3, e1, e2, e3, e4, e5]
          rw [e]; exact special_6c w h0 h1 i W p1 (beqT p2) (beqF p3) (btF e1) (btF e2) (btF e3) (btF e4) e5
        have e : specialI w i = zIns := by simp [specialI, p1, p2, p3, e1, e2, e3, e4, e5]
        rw [e]; exact special_7c w h0 h1 i W p1 (beqT p2) (beqF p3) (btF e1) (btF e2) (btF e3) (btF e4) (btF e5)
    · skip
      by_cases e1 : mk w 0x0FB0FFF0 0x0120F000 = true
      · have e : specialI w i = { i with op := 48, s := bt w 22, form := 2, amount := fld w 19 16, rm := fld w 3 0 } := by simp [specialI, p1, p2, e1]
        rw [e]; exact special_2b w h0 h1 i W p1 (beqF p2)  e1
      by_cases e2 : mk w 0x0FFFFFF0 0x012FFF10 = true
      · have e : specialI w i = { i with op := 43, rm := fld w 3 0 } := by simp [specialI, p1, p2, e1, e2]
        rw [e]; exact special_3b w h0 h1 i W p1 (beqF p2) (btF e1) e2
      by_cases e3 : mk w 0x0FFFFFF0 0x012FFF30 = true
      · have e : specialI w i = { i with op := 44, rm := fld w 3 0 } := by simp [specialI, p1, p2, e1, e2, e3]
        rw [e]; exact special_4b w h0 h1 i W p1 (beqF p2) (btF e1) (btF e2) e3
      by_cases e4 : mk w 0x0FF000F0 0x01200070 = true
      · have e : specialI w i = { i with op := 46, imm := immI w 19 8 } := by simp [specialI, p1, p2, e1, e2, e3, e4]
        rw [e]; exact special_5b w h0 h1 i W p1 (beqF p2) (btF e1) (btF e2) (btF e3) e4
      by_cases e5 : mk w 0x0FFF0FF0 0x016F0F10 = true
      · have e : specialI w i = { i with op := 25, rd := fld w 15 12, rm := fld w 3 0 } := by simp [specialI, p1, p2, e1, e2, e3, e4, e5]
        rw [e]; exact special_6b w h0 h1 i W p1 (beqF p2) (btF e1) (btF e2) (btF e3) (btF e4) e5
      have e : specialI w i = zIns := by simp [specialI, p1, p2, e1, e2, e3, e4, e5]
      rw [e]; exact special_7b w h0 h1 i W p1 (beqF p2) (btF e1) (btF e2) (btF e3) (btF e4) (btF e5)
  · skip
    by_cases e1 : mk w 0x0FB0FFF0 0x0120F000 = true
    · have e : specialI w i = { i with op := 48, s := bt w 22, form := 2, amount := fld w 19 16, rm := fld w 3 0 } := by simp [specialI, p1, e1]
      rw [e]; exact special_2a w h0 h1 i W (btF p1)  e1
    by_cases e2 : mk w 0x0FFFFFF0 0x012FFF10 = true
    · have e : specialI w i = { i with op := 43, rm := fld w 3 0 } := by simp [specialI, p1, e1, e2]
      rw [e]; exact special_3a w h0 h1 i W (btF p1) (btF e1) e2
    by_cases e3 : mk w 0x0FFFFFF0 0x012FFF30 = true
    · have e : specialI w i = { i with op := 44, rm := fld w 3 0 } := by simp [specialI, p1, e1, e2, e3]
      rw [e]; exact special_4a w h0 h1 i W (btF p1) (btF e1) (btF e2) e3
    by_cases e4 : mk w 0x0FF000F0 0x01200070 = true
    · have e : specialI w i = { i with op := 46, imm := immI w 19 8 } := by simp [specialI, p1, e1, e2, e3, e4]
      rw [e]; exact special_5a w h0 h1 i W (btF p1) (btF e1) (btF e2) (btF e3) e4
    by_cases e5 : mk w 0x0FFF0FF0 0x016F0F10 = true
    · have e : specialI w i = { i with op := 25, rd := fld w 15 12, rm := fld w 3 0 } := by simp [specialI, p1, e1, e2, e3, e4, e5]
      rw [e]; exact special_6a w h0 h1 i W (btF p1) (btF e1) (btF e2) (btF e3) (btF e4) e5
    have e : specialI w i = zIns := by simp [specialI, p1, e1, e2, e3, e4, e5]
    rw [e]; exact special_7a w h0 h1 i W (btF p1) (btF e1) (btF e2) (btF e3) (btF e4) (btF e5)
theorem second_is (w : Int) (h0 : 0 ≤ w) (h1 : w < 4294967296) (i : Ins) (W : World) :
    Calls Try.prog 40 #[.int .u32 w, (.agg (insA i))] W fun e w' => e = .returned (.agg (insCells (secondI w i)).toArray) ∧ Below W.heap.size W w' := by
  by_cases p1 : fld w 24 23 = 2
  · by_cases p2 : bt w 20 = true
    · have e : secondI w i = dataI w { i with imm := fld w 11 0, form := 1 } := by simp [secondI, p1, p2]
      rw [e]; exact second_1b w h0 h1 i W (bneF p1) p2
    by_cases p3 : fld w 22 20 = 0
    · have e : secondI w i = { i with imm := bits .or .u32 (fld w 11 0) (fld w 19 16 * 4096), op := 17, rd := fld w 15 12 } := by simp [secondI, p1, p2, p3]
      rw [e]; exact second_2 w h0 h1 i W (bneF p1) (btF p2) (beqT p3)
    by_cases p4 : fld w 22 20 = 4
    · have e : secondI w i = { i with imm := bits .or .u32 (fld w 11 0) (fld w 19 16 * 4096), op := 18, rd := fld w 15 12 } := by simp [secondI, p1, p2, p4]
      rw [e]; exact second_3 w h0 h1 i W (bneF p1) (btF p2) (beqF p3) (beqT p4)
    by_cases d1 : mk w 0x0FFFFFFF 0x0320F000 = true
    · have e : secondI w i = { i with imm := fld w 11 0, op := 51 } := by simp [secondI, p1, p2, p3, p4, d1]
      rw [e]; exact second_4 w h0 h1 i W (bneF p1) (btF p2) (beqF p3) (beqF p4) d1
    by_cases d2 : mk w 0x0FFFFFFF 0x0320F003 = true
    · have e : secondI w i = { i with op := 52, imm := 0 } := by simp [secondI, p1, p2, p3, p4, d1, d2]
      rw [e]; exact second_5 w h0 h1 i W (bneF p1) (btF p2) (beqF p3) (beqF p4) (btF d1) d2
    by_cases p5 : fld w 15 12 = 15
    · have e : secondI w i = { i with imm := fld w 11 0, op := 48, s := bt w 22, form := 1, amount := fld w 19 16 } := by simp [secondI, p1, p2, p3, p4, d1, d2, p5]
      rw [e]; exact second_6 w h0 h1 i W (bneF p1) (btF p2) (beqF p3) (beqF p4) (btF d1) (btF d2) (beqT p5)
    have e : secondI w i = zIns := by simp [secondI, p1, p2, p3, p4, d1, d2, p5]
    rw [e]; exact second_7 w h0 h1 i W (bneF p1) (btF p2) (beqF p3) (beqF p4) (btF d1) (btF d2) (beqF p5)
  · have e : secondI w i = dataI w { i with imm := fld w 11 0, form := 1 } := by simp [secondI, p1]
    rw [e]; exact second_1a w h0 h1 i W (bneT p1)
theorem single_is (w : Int) (h0 : 0 ≤ w) (h1 : w < 4294967296) (i : Ins) (W : World) :
    Calls Try.prog 43 #[.int .u32 w, (.agg (insA i))] W fun e w' => e = .returned (.agg (insCells (singleI w i)).toArray) ∧ Below W.heap.size W w' := by
  have a0 := fld_le w 22 22
  have b0 := fld_le w 20 20
  have a1 : fld w 22 22 < 2 := by simpa using a0.2
  have b1 : fld w 20 20 < 2 := by simpa using b0.2
  have ha : fld w 22 22 = 0 ∨ fld w 22 22 = 1 := by have := a0.1; omega
  have hb : fld w 20 20 = 0 ∨ fld w 20 20 = 1 := by have := b0.1; omega
  clear a0 b0 a1 b1
  rcases ha with ha | ha <;> rcases hb with hb | hb
  · by_cases p : bt w 25 = true
    · have e : singleI w i = { i with op := 32, pre := bt w 24, up := bt w 23, write := bt w 21, rn := fld w 19 16, rd := fld w 15 12, form := 2, amount := fld w 11 7, shift := fld w 6 5, rm := fld w 3 0 } := by simp [singleI, singleOp, p, ha, hb]
      rw [e]; exact single_0_b w h0 h1 i W ha hb p
    · have e : singleI w i = { i with op := 32, pre := bt w 24, up := bt w 23, write := bt w 21, rn := fld w 19 16, rd := fld w 15 12, form := 1, imm := fld w 11 0 } := by simp [singleI, singleOp, p, ha, hb]
      rw [e]; exact single_0_a w h0 h1 i W ha hb (btF p)
  · by_cases p : bt w 25 = true
    · have e : singleI w i = { i with op := 31, pre := bt w 24, up := bt w 23, write := bt w 21, rn := fld w 19 16, rd := fld w 15 12, form := 2, amount := fld w 11 7, shift := fld w 6 5, rm := fld w 3 0 } := by simp [singleI, singleOp, p, ha, hb]
      rw [e]; exact single_1_b w h0 h1 i W ha hb p
    · have e : singleI w i = { i with op := 31, pre := bt w 24, up := bt w 23, write := bt w 21, rn := fld w 19 16, rd := fld w 15 12, form := 1, imm := fld w 11 0 } := by simp [singleI, singleOp, p, ha, hb]
      rw [e]; exact single_1_a w h0 h1 i W ha hb (btF p)
  · by_cases p : bt w 25 = true
    · have e : singleI w i = { i with op := 34, pre := bt w 24, up := bt w 23, write := bt w 21, rn := fld w 19 16, rd := fld w 15 12, form := 2, amount := fld w 11 7, shift := fld w 6 5, rm := fld w 3 0 } := by simp [singleI, singleOp, p, ha, hb]
      rw [e]; exact single_2_b w h0 h1 i W ha hb p
    · have e : singleI w i = { i with op := 34, pre := bt w 24, up := bt w 23, write := bt w 21, rn := fld w 19 16, rd := fld w 15 12, form := 1, imm := fld w 11 0 } := by simp [singleI, singleOp, p, ha, hb]
      rw [e]; exact single_2_a w h0 h1 i W ha hb (btF p)
  · by_cases p : bt w 25 = true
    · have e : singleI w i = { i with op := 33, pre := bt w 24, up := bt w 23, write := bt w 21, rn := fld w 19 16, rd := fld w 15 12, form := 2, amount := fld w 11 7, shift := fld w 6 5, rm := fld w 3 0 } := by simp [singleI, singleOp, p, ha, hb]
      rw [e]; exact single_3_b w h0 h1 i W ha hb p
    · have e : singleI w i = { i with op := 33, pre := bt w 24, up := bt w 23, write := bt w 21, rn := fld w 19 16, rd := fld w 15 12, form := 1, imm := fld w 11 0 } := by simp [singleI, singleOp, p, ha, hb]
      rw [e]; exact single_3_a w h0 h1 i W ha hb (btF p)
theorem product_is (w : Int) (h0 : 0 ≤ w) (h1 : w < 4294967296) (i : Ins) (W : World) :
    Calls Try.prog 57 #[.int .u32 w, (.agg (insA i))] W fun e w' => e = .returned (.agg (insCells (productI w i)).toArray) ∧ Below W.heap.size W w' := by
  by_cases p0 : fld w 27 24 = 0
  · have a0 := fld_le w 23 21
    have a1 : fld w 23 21 < 8 := by simpa using a0.2
    have ha : fld w 23 21 = 0 ∨ fld w 23 21 = 1 ∨ fld w 23 21 = 2 ∨ fld w 23 21 = 3 ∨ fld w 23 21 = 4 ∨ fld w 23 21 = 5 ∨ fld w 23 21 = 6 ∨ fld w 23 21 = 7 := by have := a0.1; omega
    clear a0 a1
    rcases ha with ha | ha | ha | ha | ha | ha | ha | ha
    · by_cases p1 : fld w 15 12 = 0
      · have e : productI w i = { i with op := 19, s := bt w 20, rd := fld w 19 16, ra := 0, rs := fld w 11 8, rm := fld w 3 0 } := by simp [productI, productOp, p0, ha, p1]
        rw [e]; have := product_c0 w h0 h1 i W (bneF p0) ha (bneF p1); rw [p1] at this; exact this
      · have e : productI w i = zIns := by simp [productI, productOp, p0, ha, p1]
        rw [e]; exact product_c0z w h0 h1 i W (bneF p0) ha (bneT p1)
    · have e : productI w i = { i with op := 20, s := bt w 20, rd := fld w 19 16, ra := fld w 15 12, rs := fld w 11 8, rm := fld w 3 0 } := by simp [productI, productOp, p0, ha]
      rw [e]; exact product_c1 w h0 h1 i W (bneF p0) ha
    · have e : productI w i = zIns := by simp [productI, productOp, p0, ha]
      rw [e]; exact product_c2 w h0 h1 i W (bneF p0) ha
    · have e : productI w i = zIns := by simp [productI, productOp, p0, ha]
      rw [e]; exact product_c3 w h0 h1 i W (bneF p0) ha
    · have e : productI w i = { i with op := 21, s := bt w 20, rd := fld w 19 16, ra := fld w 15 12, rs := fld w 11 8, rm := fld w 3 0 } := by simp [productI, productOp, p0, ha]
      rw [e]; exact product_c4 w h0 h1 i W (bneF p0) ha
    · have e : productI w i = { i with op := 22, s := bt w 20, rd := fld w 19 16, ra := fld w 15 12, rs := fld w 11 8, rm := fld w 3 0 } := by simp [productI, productOp, p0, ha]
      rw [e]; exact product_c5 w h0 h1 i W (bneF p0) ha
    · have e : productI w i = { i with op := 23, s := bt w 20, rd := fld w 19 16, ra := fld w 15 12, rs := fld w 11 8, rm := fld w 3 0 } := by simp [productI, productOp, p0, ha]
      rw [e]; exact product_c6 w h0 h1 i W (bneF p0) ha
    · have e : productI w i = { i with op := 24, s := bt w 20, rd := fld w 19 16, ra := fld w 15 12, rs := fld w 11 8, rm := fld w 3 0 } := by simp [productI, productOp, p0, ha]
      rw [e]; exact product_c7 w h0 h1 i W (bneF p0) ha
  · have e : productI w i = zIns := by simp [productI, p0]
    rw [e]; exact product_0 w h0 h1 i W (bneT p0)
theorem rest_is (w : Int) (h0 : 0 ≤ w) (h1 : w < 4294967296) (i : Ins) (W : World) :
    Calls Try.prog 44 #[.int .u32 w, (.agg (insA i))] W fun e w' => e = .returned (.agg (insCells (restI w i)).toArray) ∧ Below W.heap.size W w' := by
  by_cases k8 : fld w 27 24 = 8
  · by_cases p1 : bt w 20 = true
    · by_cases p2 : bt w 22 = true
      · have e : restI w i = zIns := by simp [restI, k8, p2]
        rw [e]; exact rest_8_true_b w h0 h1 i W k8 p1 p2
      · have e : restI w i = { i with op := 39, pre := bt w 24, up := bt w 23, write := bt w 21, rn := fld w 19 16, list := w % 65536 } := by simp [restI, k8, p1, p2]
        rw [e]; exact rest_8_true_a w h0 h1 i W k8 p1 (btF p2)
    · by_cases p2 : bt w 22 = true
      · have e : restI w i = zIns := by simp [restI, k8, p2]
        rw [e]; exact rest_8_false_b w h0 h1 i W k8 (btF p1) p2
      · have e : restI w i = { i with op := 40, pre := bt w 24, up := bt w 23, write := bt w 21, rn := fld w 19 16, list := w % 65536 } := by simp [restI, k8, p1, p2]
        rw [e]; exact rest_8_false_a w h0 h1 i W k8 (btF p1) (btF p2)
  by_cases k9 : fld w 27 24 = 9
  · by_cases p1 : bt w 20 = true
    · by_cases p2 : bt w 22 = true
      · have e : restI w i = zIns := by simp [restI, k9, p2]
        rw [e]; exact rest_9_true_b w h0 h1 i W k9 p1 p2
      · have e : restI w i = { i with op := 39, pre := bt w 24, up := bt w 23, write := bt w 21, rn := fld w 19 16, list := w % 65536 } := by simp [restI, k9, p1, p2]
        rw [e]; exact rest_9_true_a w h0 h1 i W k9 p1 (btF p2)
    · by_cases p2 : bt w 22 = true
      · have e : restI w i = zIns := by simp [restI, k9, p2]
        rw [e]; exact rest_9_false_b w h0 h1 i W k9 (btF p1) p2
      · have e : restI w i = { i with op := 40, pre := bt w 24, up := bt w 23, write := bt w 21, rn := fld w 19 16, list := w % 65536 } := by simp [restI, k9, p1, p2]
        rw [e]; exact rest_9_false_a w h0 h1 i W k9 (btF p1) (btF p2)
  by_cases k10 : fld w 27 24 = 10
  · have e : restI w i = { i with op := 41 + fld w 24 24, imm := brI w } := by simp [restI, k10]
    rw [e]; exact rest_10 w h0 h1 i W k10
  by_cases k11 : fld w 27 24 = 11
  · have e : restI w i = { i with op := 41 + fld w 24 24, imm := brI w } := by simp [restI, k11]
    rw [e]; exact rest_11 w h0 h1 i W k11
  by_cases k14 : fld w 27 24 = 14
  · by_cases p1 : bt w 4 = true
    · by_cases p2 : fld w 11 8 = 15
      · have e : restI w i = { i with op := 49 + fld w 20 20, rd := fld w 15 12, crn := fld w 19 16, op1 := fld w 23 21, crm := fld w 3 0, op2 := fld w 7 5 } := by simp [restI, k14, p1, p2]
        rw [e]; exact rest_14_c w h0 h1 i W k14 p1 (bneF p2)
      · have e : restI w i = zIns := by simp [restI, k14, p1, p2]
        rw [e]; exact rest_14_b w h0 h1 i W k14 p1 (bneT p2)
    · have e : restI w i = zIns := by simp [restI, k14, p1]
      rw [e]; exact rest_14_a w h0 h1 i W k14 (btF p1)
  by_cases k15 : fld w 27 24 = 15
  · have e : restI w i = { i with op := 45, imm := fld w 23 0 } := by simp [restI, k15]
    rw [e]; exact rest_15 w h0 h1 i W k15
  have e : restI w i = zIns := by simp [restI, k8, k9, k10, k11, k14, k15]
  rw [e]; exact rest_no w h0 h1 i W (beqF k8) (beqF k9) (beqF k10) (beqF k11) (beqF k14) (beqF k15)
end Go.Proofs.Ytpfhplhamnohjaa
namespace Go.Proofs.Ytpfhplhamnohjaa
set_option maxHeartbeats 25600000
set_option maxRecDepth 100000
open Go.RowKit

theorem first_1 (w : Int) (h0 : 0 ≤ w) (h1 : w < 4294967296) (i : Ins) (W : World) (p1 : (fld w 7 4 == 9) = true) :
    Calls Try.prog 39 #[.int .u32 w, (.agg (insA i))] W fun e w' => e = .returned (.agg (insCells (productI w i)).toArray) ∧ Below W.heap.size W w' := by
  have G := Lib.hid (fun hi lo hl hm hh W => get_any w h0 h1 hi lo hl hm hh W)
  have B := Lib.hid (fun i hl hh W => bit_any w h0 h1 i hl hh W)
  obtain ⟨hA, hZ, hB⟩ := ins_two i W
  go_enter Try.func39, Try.ntmps39
  go_upto_region 1 with fail
  generalize (W.alloc (.cells (insA i) 61)).alloc (.cells zInsA 61) = W2 at hA hZ hB ⊢
  generalize Value.agg (insA i) = vi
  obtain ⟨c0, c1, c2, c3, c4, c5, c6, c7, c8, c9, c10, c11, c12, c13, c14, c15, c16, c17, c18, c19⟩ := ins_at (hA)
  have hf := hA.frozen
  go_upto_region 2 with (first | (first | (go_at_call 38; with_reducible refine (G.out _ _ ?_ ?_ ?_ _).mono ?_; (any_goals (first | omega | decide)); rintro e w' ⟨rfl, rfl⟩) | (go_at_call 41; with_reducible refine (B.out _ ?_ ?_ _).mono ?_; (any_goals (first | omega | decide)); rintro e w' ⟨rfl, rfl⟩) | (go_at_call 76; with_reducible refine (compares_is _ _).mono ?_; rintro e w' ⟨rfl, rfl⟩) | (go_at_call 77; with_reducible refine (moves_is _ _).mono ?_; rintro e w' ⟨rfl, rfl⟩)) | (go_at_call 61; with_reducible refine (small_is _ _).mono ?_; rintro e w' ⟨rfl, rfl⟩) | (go_at_call 75; with_reducible refine (half_is _ _ ?_ ?_ _).mono ?_; (any_goals (first | omega | assumption)); rintro e w' ⟨rfl, rfl⟩))
  go_wp2_with (refine wpList_load_ins rfl (.tmp 3) rfl (W.heap.size) i rfl hA ?_)
  refine (product_is w h0 h1 i _).mono ?_
  rintro e w7 ⟨rfl, b7⟩
  have hZ7 : Blok w7 (W.heap.size + 1) 61 (insCells zIns) := Blok.below hZ b7 (Blok.lt hZ)
  have hB7 : Below W.heap.size W w7 := bthen hB b7
  go_wp2_with (refine wpList_store_ins rfl (.tmp 4) (.tmp 11) rfl (W.heap.size + 1) (productI w i) zIns rfl rfl hZ7 ?_; intro w8 B8 g8)
  refine ret_ins 4 (W.heap.size + 1) (productI w i) rfl rfl B8 rfl ⟨rfl, ?_⟩
  exact bgrow hB7 g8 (by omega)
theorem first_2 (w : Int) (h0 : 0 ≤ w) (h1 : w < 4294967296) (i : Ins) (W : World) (p1 : (fld w 7 4 == 9) = false) (p2 : bt w 7 = true) (p3 : bt w 4 = true) :
    Calls Try.prog 39 #[.int .u32 w, (.agg (insA i))] W fun e w' => e = .returned (.agg (insCells (halvesI w i)).toArray) ∧ Below W.heap.size W w' := by
  have G := Lib.hid (fun hi lo hl hm hh W => get_any w h0 h1 hi lo hl hm hh W)
  have B := Lib.hid (fun i hl hh W => bit_any w h0 h1 i hl hh W)
  obtain ⟨hA, hZ, hB⟩ := ins_two i W
  go_enter Try.func39, Try.ntmps39
  go_upto_region 1 with fail
  generalize (W.alloc (.cells (insA i) 61)).alloc (.cells zInsA 61) = W2 at hA hZ hB ⊢
  generalize Value.agg (insA i) = vi
  obtain ⟨c0, c1, c2, c3, c4, c5, c6, c7, c8, c9, c10, c11, c12, c13, c14, c15, c16, c17, c18, c19⟩ := ins_at (hA)
  have hf := hA.frozen
  go_upto_region 4 with (first | (first | (go_at_call 38; with_reducible refine (G.out _ _ ?_ ?_ ?_ _).mono ?_; (any_goals (first | omega | decide)); rintro e w' ⟨rfl, rfl⟩) | (go_at_call 41; with_reducible refine (B.out _ ?_ ?_ _).mono ?_; (any_goals (first | omega | decide)); rintro e w' ⟨rfl, rfl⟩) | (go_at_call 76; with_reducible refine (compares_is _ _).mono ?_; rintro e w' ⟨rfl, rfl⟩) | (go_at_call 77; with_reducible refine (moves_is _ _).mono ?_; rintro e w' ⟨rfl, rfl⟩)) | (go_at_call 61; with_reducible refine (small_is _ _).mono ?_; rintro e w' ⟨rfl, rfl⟩) | (go_at_call 75; with_reducible refine (half_is _ _ ?_ ?_ _).mono ?_; (any_goals (first | omega | assumption)); rintro e w' ⟨rfl, rfl⟩))
  go_wp2_with (refine wpList_load_ins rfl (.tmp 3) rfl (W.heap.size) i rfl hA ?_)
  refine (halves_is w h0 h1 i _).mono ?_
  rintro e w7 ⟨rfl, b7⟩
  have hZ7 : Blok w7 (W.heap.size + 1) 61 (insCells zIns) := Blok.below hZ b7 (Blok.lt hZ)
  have hB7 : Below W.heap.size W w7 := bthen hB b7
  go_wp2_with (refine wpList_store_ins rfl (.tmp 4) (.tmp 21) rfl (W.heap.size + 1) (halvesI w i) zIns rfl rfl hZ7 ?_; intro w8 B8 g8)
  refine ret_ins 4 (W.heap.size + 1) (halvesI w i) rfl rfl B8 rfl ⟨rfl, ?_⟩
  exact bgrow hB7 g8 (by omega)
theorem first_3a (w : Int) (h0 : 0 ≤ w) (h1 : w < 4294967296) (i : Ins) (W : World) (p1 : (fld w 7 4 == 9) = false) (p2 : bt w 7 = false) (p4 : (fld w 24 23 == 2) = true) (p5 : bt w 20 = false) :
    Calls Try.prog 39 #[.int .u32 w, (.agg (insA i))] W fun e w' => e = .returned (.agg (insCells (specialI w i)).toArray) ∧ Below W.heap.size W w' := by
  have G := Lib.hid (fun hi lo hl hm hh W => get_any w h0 h1 hi lo hl hm hh W)
  have B := Lib.hid (fun i hl hh W => bit_any w h0 h1 i hl hh W)
  obtain ⟨hA, hZ, hB⟩ := ins_two i W
  go_enter Try.func39, Try.ntmps39
  go_upto_region 1 with fail
  generalize (W.alloc (.cells (insA i) 61)).alloc (.cells zInsA 61) = W2 at hA hZ hB ⊢
  generalize Value.agg (insA i) = vi
  obtain ⟨c0, c1, c2, c3, c4, c5, c6, c7, c8, c9, c10, c11, c12, c13, c14, c15, c16, c17, c18, c19⟩ := ins_at (hA)
  have hf := hA.frozen
  go_upto_region 6 with (first | (first | (go_at_call 38; with_reducible refine (G.out _ _ ?_ ?_ ?_ _).mono ?_; (any_goals (first | omega | decide)); rintro e w' ⟨rfl, rfl⟩) | (go_at_call 41; with_reducible refine (B.out _ ?_ ?_ _).mono ?_; (any_goals (first | omega | decide)); rintro e w' ⟨rfl, rfl⟩) | (go_at_call 76; with_reducible refine (compares_is _ _).mono ?_; rintro e w' ⟨rfl, rfl⟩) | (go_at_call 77; with_reducible refine (moves_is _ _).mono ?_; rintro e w' ⟨rfl, rfl⟩)) | (go_at_call 61; with_reducible refine (small_is _ _).mono ?_; rintro e w' ⟨rfl, rfl⟩) | (go_at_call 75; with_reducible refine (half_is _ _ ?_ ?_ _).mono ?_; (any_goals (first | omega | assumption)); rintro e w' ⟨rfl, rfl⟩))
  go_wp2_with (refine wpList_load_ins rfl (.tmp 3) rfl (W.heap.size) i rfl hA ?_)
  refine (special_is w h0 h1 i _).mono ?_
  rintro e w7 ⟨rfl, b7⟩
  have hZ7 : Blok w7 (W.heap.size + 1) 61 (insCells zIns) := Blok.below hZ b7 (Blok.lt hZ)
  have hB7 : Below W.heap.size W w7 := bthen hB b7
  go_wp2_with (refine wpList_store_ins rfl (.tmp 4) (.tmp 33) rfl (W.heap.size + 1) (specialI w i) zIns rfl rfl hZ7 ?_; intro w8 B8 g8)
  refine ret_ins 4 (W.heap.size + 1) (specialI w i) rfl rfl B8 rfl ⟨rfl, ?_⟩
  exact bgrow hB7 g8 (by omega)
theorem first_4axt (w : Int) (h0 : 0 ≤ w) (h1 : w < 4294967296) (i : Ins) (W : World) (p1 : (fld w 7 4 == 9) = false) (p2 : bt w 7 = false) (p4 : (fld w 24 23 == 2) = false) (p3 : bt w 4 = true) :
    Calls Try.prog 39 #[.int .u32 w, (.agg (insA i))] W fun e w' => e = .returned (.agg (insCells (dataI w ({ i with rm := fld w 3 0, shift := fld w 6 5, form := 3, rs := fld w 11 8 } : Ins))).toArray) ∧ Below W.heap.size W w' := by
  have G := Lib.hid (fun hi lo hl hm hh W => get_any w h0 h1 hi lo hl hm hh W)
  have B := Lib.hid (fun i hl hh W => bit_any w h0 h1 i hl hh W)
  obtain ⟨hA, hZ, hB⟩ := ins_two i W
  go_enter Try.func39, Try.ntmps39
  go_upto_region 1 with fail
  generalize (W.alloc (.cells (insA i) 61)).alloc (.cells zInsA 61) = W2 at hA hZ hB ⊢
  generalize Value.agg (insA i) = vi
  obtain ⟨c0, c1, c2, c3, c4, c5, c6, c7, c8, c9, c10, c11, c12, c13, c14, c15, c16, c17, c18, c19⟩ := ins_at (hA)
  have hf := hA.frozen
  go_upto_region 11 with (first | (first | (go_at_call 38; with_reducible refine (G.out _ _ ?_ ?_ ?_ _).mono ?_; (any_goals (first | omega | decide)); rintro e w' ⟨rfl, rfl⟩) | (go_at_call 41; with_reducible refine (B.out _ ?_ ?_ _).mono ?_; (any_goals (first | omega | decide)); rintro e w' ⟨rfl, rfl⟩) | (go_at_call 76; with_reducible refine (compares_is _ _).mono ?_; rintro e w' ⟨rfl, rfl⟩) | (go_at_call 77; with_reducible refine (moves_is _ _).mono ?_; rintro e w' ⟨rfl, rfl⟩)) | (go_at_call 61; with_reducible refine (small_is _ _).mono ?_; rintro e w' ⟨rfl, rfl⟩) | (go_at_call 75; with_reducible refine (half_is _ _ ?_ ?_ _).mono ?_; (any_goals (first | omega | assumption)); rintro e w' ⟨rfl, rfl⟩))
  go_wp2_with (refine wpList_load_ins rfl (.tmp 3) rfl (W.heap.size) ({ i with rm := fld w 3 0, shift := fld w 6 5, form := 3, rs := fld w 11 8 } : Ins) rfl ((((hA.set_ 6 _).set_ 10 _).set_ 3 _).set_ 7 _) ?_)
  refine (data_is w h0 h1 ({ i with rm := fld w 3 0, shift := fld w 6 5, form := 3, rs := fld w 11 8 } : Ins) _).mono ?_
  rintro e w7 ⟨rfl, b7⟩
  have hZ7 : Blok w7 (W.heap.size + 1) 61 (insCells zIns) := Blok.below ((((hZ.far (by simp) _).far (by simp) _).far (by simp) _).far (by simp) _) b7 (Blok.lt ((((hZ.far (by simp) _).far (by simp) _).far (by simp) _).far (by simp) _))
  have hB7 : Below W.heap.size W w7 := bthen ((((hB.setCell (Nat.le_refl _) _).setCell (Nat.le_refl _) _).setCell (Nat.le_refl _) _).setCell (Nat.le_refl _) _) b7
  go_wp2_with (refine wpList_store_ins rfl (.tmp 4) (.tmp 52) rfl (W.heap.size + 1) (dataI w ({ i with rm := fld w 3 0, shift := fld w 6 5, form := 3, rs := fld w 11 8 } : Ins)) zIns rfl rfl hZ7 ?_; intro w8 B8 g8)
  refine ret_ins 4 (W.heap.size + 1) (dataI w ({ i with rm := fld w 3 0, shift := fld w 6 5, form := 3, rs := fld w 11 8 } : Ins)) rfl rfl B8 rfl ⟨rfl, ?_⟩
  exact bgrow hB7 g8 (by omega)
theorem first_4axf (w : Int) (h0 : 0 ≤ w) (h1 : w < 4294967296) (i : Ins) (W : World) (p1 : (fld w 7 4 == 9) = false) (p2 : bt w 7 = false) (p4 : (fld w 24 23 == 2) = false) (p3 : bt w 4 = false) :
    Calls Try.prog 39 #[.int .u32 w, (.agg (insA i))] W fun e w' => e = .returned (.agg (insCells (dataI w ({ i with rm := fld w 3 0, shift := fld w 6 5, form := 2, amount := fld w 11 7 } : Ins))).toArray) ∧ Below W.heap.size W w' := by
  have G := Lib.hid (fun hi lo hl hm hh W => get_any w h0 h1 hi lo hl hm hh W)
  have B := Lib.hid (fun i hl hh W => bit_any w h0 h1 i hl hh W)
  obtain ⟨hA, hZ, hB⟩ := ins_two i W
  go_enter Try.func39, Try.ntmps39
  go_upto_region 1 with fail
  generalize (W.alloc (.cells (insA i) 61)).alloc (.cells zInsA 61) = W2 at hA hZ hB ⊢
  generalize Value.agg (insA i) = vi
  obtain ⟨c0, c1, c2, c3, c4, c5, c6, c7, c8, c9, c10, c11, c12, c13, c14, c15, c16, c17, c18, c19⟩ := ins_at (hA)
  have hf := hA.frozen
  go_upto_region 11 with (first | (first | (go_at_call 38; with_reducible refine (G.out _ _ ?_ ?_ ?_ _).mono ?_; (any_goals (first | omega | decide)); rintro e w' ⟨rfl, rfl⟩) | (go_at_call 41; with_reducible refine (B.out _ ?_ ?_ _).mono ?_; (any_goals (first | omega | decide)); rintro e w' ⟨rfl, rfl⟩) | (go_at_call 76; with_reducible refine (compares_is _ _).mono ?_; rintro e w' ⟨rfl, rfl⟩) | (go_at_call 77; with_reducible refine (moves_is _ _).mono ?_; rintro e w' ⟨rfl, rfl⟩)) | (go_at_call 61; with_reducible refine (small_is _ _).mono ?_; rintro e w' ⟨rfl, rfl⟩) | (go_at_call 75; with_reducible refine (half_is _ _ ?_ ?_ _).mono ?_; (any_goals (first | omega | assumption)); rintro e w' ⟨rfl, rfl⟩))
  go_wp2_with (refine wpList_load_ins rfl (.tmp 3) rfl (W.heap.size) ({ i with rm := fld w 3 0, shift := fld w 6 5, form := 2, amount := fld w 11 7 } : Ins) rfl ((((hA.set_ 6 _).set_ 10 _).set_ 3 _).set_ 11 _) ?_)
  refine (data_is w h0 h1 ({ i with rm := fld w 3 0, shift := fld w 6 5, form := 2, amount := fld w 11 7 } : Ins) _).mono ?_
  rintro e w7 ⟨rfl, b7⟩
  have hZ7 : Blok w7 (W.heap.size + 1) 61 (insCells zIns) := Blok.below ((((hZ.far (by simp) _).far (by simp) _).far (by simp) _).far (by simp) _) b7 (Blok.lt ((((hZ.far (by simp) _).far (by simp) _).far (by simp) _).far (by simp) _))
  have hB7 : Below W.heap.size W w7 := bthen ((((hB.setCell (Nat.le_refl _) _).setCell (Nat.le_refl _) _).setCell (Nat.le_refl _) _).setCell (Nat.le_refl _) _) b7
  go_wp2_with (refine wpList_store_ins rfl (.tmp 4) (.tmp 52) rfl (W.heap.size + 1) (dataI w ({ i with rm := fld w 3 0, shift := fld w 6 5, form := 2, amount := fld w 11 7 } : Ins)) zIns rfl rfl hZ7 ?_; intro w8 B8 g8)
  refine ret_ins 4 (W.heap.size + 1) (dataI w ({ i with rm := fld w 3 0, shift := fld w 6 5, form := 2, amount := fld w 11 7 } : Ins)) rfl rfl B8 rfl ⟨rfl, ?_⟩
  exact bgrow hB7 g8 (by omega)
theorem first_4ayt (w : Int) (h0 : 0 ≤ w) (h1 : w < 4294967296) (i : Ins) (W : World) (p1 : (fld w 7 4 == 9) = false) (p2 : bt w 7 = false) (p4 : (fld w 24 23 == 2) = true) (p5 : bt w 20 = true) (p3 : bt w 4 = true) :
    Calls Try.prog 39 #[.int .u32 w, (.agg (insA i))] W fun e w' => e = .returned (.agg (insCells (dataI w ({ i with rm := fld w 3 0, shift := fld w 6 5, form := 3, rs := fld w 11 8 } : Ins))).toArray) ∧ Below W.heap.size W w' := by
  have G := Lib.hid (fun hi lo hl hm hh W => get_any w h0 h1 hi lo hl hm hh W)
  have B := Lib.hid (fun i hl hh W => bit_any w h0 h1 i hl hh W)
  obtain ⟨hA, hZ, hB⟩ := ins_two i W
  go_enter Try.func39, Try.ntmps39
  go_upto_region 1 with fail
  generalize (W.alloc (.cells (insA i) 61)).alloc (.cells zInsA 61) = W2 at hA hZ hB ⊢
  generalize Value.agg (insA i) = vi
  obtain ⟨c0, c1, c2, c3, c4, c5, c6, c7, c8, c9, c10, c11, c12, c13, c14, c15, c16, c17, c18, c19⟩ := ins_at (hA)
  have hf := hA.frozen
  go_upto_region 11 with (first | (first | (go_at_call 38; with_reducible refine (G.out _ _ ?_ ?_ ?_ _).mono ?_; (any_goals (first | omega | decide)); rintro e w' ⟨rfl, rfl⟩) | (go_at_call 41; with_reducible refine (B.out _ ?_ ?_ _).mono ?_; (any_goals (first | omega | decide)); rintro e w' ⟨rfl, rfl⟩) | (go_at_call 76; with_reducible refine (compares_is _ _).mono ?_; rintro e w' ⟨rfl, rfl⟩) | (go_at_call 77; with_reducible refine (moves_is _ _).mono ?_; rintro e w' ⟨rfl, rfl⟩)) | (go_at_call 61; with_reducible refine (small_is _ _).mono ?_; rintro e w' ⟨rfl, rfl⟩) | (go_at_call 75; with_reducible refine (half_is _ _ ?_ ?_ _).mono ?_; (any_goals (first | omega | assumption)); rintro e w' ⟨rfl, rfl⟩))
  go_wp2_with (refine wpList_load_ins rfl (.tmp 3) rfl (W.heap.size) ({ i with rm := fld w 3 0, shift := fld w 6 5, form := 3, rs := fld w 11 8 } : Ins) rfl ((((hA.set_ 6 _).set_ 10 _).set_ 3 _).set_ 7 _) ?_)
  refine (data_is w h0 h1 ({ i with rm := fld w 3 0, shift := fld w 6 5, form := 3, rs := fld w 11 8 } : Ins) _).mono ?_
  rintro e w7 ⟨rfl, b7⟩
  have hZ7 : Blok w7 (W.heap.size + 1) 61 (insCells zIns) := Blok.below ((((hZ.far (by simp) _).far (by simp) _).far (by simp) _).far (by simp) _) b7 (Blok.lt ((((hZ.far (by simp) _).far (by simp) _).far (by simp) _).far (by simp) _))
  have hB7 : Below W.heap.size W w7 := bthen ((((hB.setCell (Nat.le_refl _) _).setCell (Nat.le_refl _) _).setCell (Nat.le_refl _) _).setCell (Nat.le_refl _) _) b7
  go_wp2_with (refine wpList_store_ins rfl (.tmp 4) (.tmp 52) rfl (W.heap.size + 1) (dataI w ({ i with rm := fld w 3 0, shift := fld w 6 5, form := 3, rs := fld w 11 8 } : Ins)) zIns rfl rfl hZ7 ?_; intro w8 B8 g8)
  refine ret_ins 4 (W.heap.size + 1) (dataI w ({ i with rm := fld w 3 0, shift := fld w 6 5, form := 3, rs := fld w 11 8 } : Ins)) rfl rfl B8 rfl ⟨rfl, ?_⟩
  exact bgrow hB7 g8 (by omega)
theorem first_4ayf (w : Int) (h0 : 0 ≤ w) (h1 : w < 4294967296) (i : Ins) (W : World) (p1 : (fld w 7 4 == 9) = false) (p2 : bt w 7 = false) (p4 : (fld w 24 23 == 2) = true) (p5 : bt w 20 = true) (p3 : bt w 4 = false) :
    Calls Try.prog 39 #[.int .u32 w, (.agg (insA i))] W fun e w' => e = .returned (.agg (insCells (dataI w ({ i with rm := fld w 3 0, shift := fld w 6 5, form := 2, amount := fld w 11 7 } : Ins))).toArray) ∧ Below W.heap.size W w' := by
  have G := Lib.hid (fun hi lo hl hm hh W => get_any w h0 h1 hi lo hl hm hh W)
  have B := Lib.hid (fun i hl hh W => bit_any w h0 h1 i hl hh W)
  obtain ⟨hA, hZ, hB⟩ := ins_two i W
  go_enter Try.func39, Try.ntmps39
  go_upto_region 1 with fail
  generalize (W.alloc (.cells (insA i) 61)).alloc (.cells zInsA 61) = W2 at hA hZ hB ⊢
  generalize Value.agg (insA i) = vi
  obtain ⟨c0, c1, c2, c3, c4, c5, c6, c7, c8, c9, c10, c11, c12, c13, c14, c15, c16, c17, c18, c19⟩ := ins_at (hA)
  have hf := hA.frozen
  go_upto_region 11 with (first | (first | (go_at_call 38; with_reducible refine (G.out _ _ ?_ ?_ ?_ _).mono ?_; (any_goals (first | omega | decide)); rintro e w' ⟨rfl, rfl⟩) | (go_at_call 41; with_reducible refine (B.out _ ?_ ?_ _).mono ?_; (any_goals (first | omega | decide)); rintro e w' ⟨rfl, rfl⟩) | (go_at_call 76; with_reducible refine (compares_is _ _).mono ?_; rintro e w' ⟨rfl, rfl⟩) | (go_at_call 77; with_reducible refine (moves_is _ _).mono ?_; rintro e w' ⟨rfl, rfl⟩)) | (go_at_call 61; with_reducible refine (small_is _ _).mono ?_; rintro e w' ⟨rfl, rfl⟩) | (go_at_call 75; with_reducible refine (half_is _ _ ?_ ?_ _).mono ?_; (any_goals (first | omega | assumption)); rintro e w' ⟨rfl, rfl⟩))
  go_wp2_with (refine wpList_load_ins rfl (.tmp 3) rfl (W.heap.size) ({ i with rm := fld w 3 0, shift := fld w 6 5, form := 2, amount := fld w 11 7 } : Ins) rfl ((((hA.set_ 6 _).set_ 10 _).set_ 3 _).set_ 11 _) ?_)
  refine (data_is w h0 h1 ({ i with rm := fld w 3 0, shift := fld w 6 5, form := 2, amount := fld w 11 7 } : Ins) _).mono ?_
  rintro e w7 ⟨rfl, b7⟩
  have hZ7 : Blok w7 (W.heap.size + 1) 61 (insCells zIns) := Blok.below ((((hZ.far (by simp) _).far (by simp) _).far (by simp) _).far (by simp) _) b7 (Blok.lt ((((hZ.far (by simp) _).far (by simp) _).far (by simp) _).far (by simp) _))
  have hB7 : Below W.heap.size W w7 := bthen ((((hB.setCell (Nat.le_refl _) _).setCell (Nat.le_refl _) _).setCell (Nat.le_refl _) _).setCell (Nat.le_refl _) _) b7
  go_wp2_with (refine wpList_store_ins rfl (.tmp 4) (.tmp 52) rfl (W.heap.size + 1) (dataI w ({ i with rm := fld w 3 0, shift := fld w 6 5, form := 2, amount := fld w 11 7 } : Ins)) zIns rfl rfl hZ7 ?_; intro w8 B8 g8)
  refine ret_ins 4 (W.heap.size + 1) (dataI w ({ i with rm := fld w 3 0, shift := fld w 6 5, form := 2, amount := fld w 11 7 } : Ins)) rfl rfl B8 rfl ⟨rfl, ?_⟩
  exact bgrow hB7 g8 (by omega)
theorem first_3b (w : Int) (h0 : 0 ≤ w) (h1 : w < 4294967296) (i : Ins) (W : World) (p1 : (fld w 7 4 == 9) = false) (p2 : bt w 7 = true) (p3 : bt w 4 = false) (p4 : (fld w 24 23 == 2) = true) (p5 : bt w 20 = false) :
    Calls Try.prog 39 #[.int .u32 w, (.agg (insA i))] W fun e w' => e = .returned (.agg (insCells (specialI w i)).toArray) ∧ Below W.heap.size W w' := by
  have G := Lib.hid (fun hi lo hl hm hh W => get_any w h0 h1 hi lo hl hm hh W)
  have B := Lib.hid (fun i hl hh W => bit_any w h0 h1 i hl hh W)
  obtain ⟨hA, hZ, hB⟩ := ins_two i W
  go_enter Try.func39, Try.ntmps39
  go_upto_region 1 with fail
  generalize (W.alloc (.cells (insA i) 61)).alloc (.cells zInsA 61) = W2 at hA hZ hB ⊢
  generalize Value.agg (insA i) = vi
  obtain ⟨c0, c1, c2, c3, c4, c5, c6, c7, c8, c9, c10, c11, c12, c13, c14, c15, c16, c17, c18, c19⟩ := ins_at (hA)
  have hf := hA.frozen
  go_upto_region 6 with (first | (first | (go_at_call 38; with_reducible refine (G.out _ _ ?_ ?_ ?_ _).mono ?_; (any_goals (first | omega | decide)); rintro e w' ⟨rfl, rfl⟩) | (go_at_call 41; with_reducible refine (B.out _ ?_ ?_ _).mono ?_; (any_goals (first | omega | decide)); rintro e w' ⟨rfl, rfl⟩) | (go_at_call 76; with_reducible refine (compares_is _ _).mono ?_; rintro e w' ⟨rfl, rfl⟩) | (go_at_call 77; with_reducible refine (moves_is _ _).mono ?_; rintro e w' ⟨rfl, rfl⟩)) | (go_at_call 61; with_reducible refine (small_is _ _).mono ?_; rintro e w' ⟨rfl, rfl⟩) | (go_at_call 75; with_reducible refine (half_is _ _ ?_ ?_ _).mono ?_; (any_goals (first | omega | assumption)); rintro e w' ⟨rfl, rfl⟩))
  go_wp2_with (refine wpList_load_ins rfl (.tmp 3) rfl (W.heap.size) i rfl hA ?_)
  refine (special_is w h0 h1 i _).mono ?_
  rintro e w7 ⟨rfl, b7⟩
  have hZ7 : Blok w7 (W.heap.size + 1) 61 (insCells zIns) := Blok.below hZ b7 (Blok.lt hZ)
  have hB7 : Below W.heap.size W w7 := bthen hB b7
  go_wp2_with (refine wpList_store_ins rfl (.tmp 4) (.tmp 33) rfl (W.heap.size + 1) (specialI w i) zIns rfl rfl hZ7 ?_; intro w8 B8 g8)
  refine ret_ins 4 (W.heap.size + 1) (specialI w i) rfl rfl B8 rfl ⟨rfl, ?_⟩
  exact bgrow hB7 g8 (by omega)
theorem first_4bxf (w : Int) (h0 : 0 ≤ w) (h1 : w < 4294967296) (i : Ins) (W : World) (p1 : (fld w 7 4 == 9) = false) (p2 : bt w 7 = true) (p3 : bt w 4 = false) (p4 : (fld w 24 23 == 2) = false) :
    Calls Try.prog 39 #[.int .u32 w, (.agg (insA i))] W fun e w' => e = .returned (.agg (insCells (dataI w ({ i with rm := fld w 3 0, shift := fld w 6 5, form := 2, amount := fld w 11 7 } : Ins))).toArray) ∧ Below W.heap.size W w' := by
  have G := Lib.hid (fun hi lo hl hm hh W => get_any w h0 h1 hi lo hl hm hh W)
  have B := Lib.hid (fun i hl hh W => bit_any w h0 h1 i hl hh W)
  obtain ⟨hA, hZ, hB⟩ := ins_two i W
  go_enter Try.func39, Try.ntmps39
  go_upto_region 1 with fail
  generalize (W.alloc (.cells (insA i) 61)).alloc (.cells zInsA 61) = W2 at hA hZ hB ⊢
  generalize Value.agg (insA i) = vi
  obtain ⟨c0, c1, c2, c3, c4, c5, c6, c7, c8, c9, c10, c11, c12, c13, c14, c15, c16, c17, c18, c19⟩ := ins_at (hA)
  have hf := hA.frozen
  go_upto_region 11 with (first | (first | (go_at_call 38; with_reducible refine (G.out _ _ ?_ ?_ ?_ _).mono ?_; (any_goals (first | omega | decide)); rintro e w' ⟨rfl, rfl⟩) | (go_at_call 41; with_reducible refine (B.out _ ?_ ?_ _).mono ?_; (any_goals (first | omega | decide)); rintro e w' ⟨rfl, rfl⟩) | (go_at_call 76; with_reducible refine (compares_is _ _).mono ?_; rintro e w' ⟨rfl, rfl⟩) | (go_at_call 77; with_reducible refine (moves_is _ _).mono ?_; rintro e w' ⟨rfl, rfl⟩)) | (go_at_call 61; with_reducible refine (small_is _ _).mono ?_; rintro e w' ⟨rfl, rfl⟩) | (go_at_call 75; with_reducible refine (half_is _ _ ?_ ?_ _).mono ?_; (any_goals (first | omega | assumption)); rintro e w' ⟨rfl, rfl⟩))
  go_wp2_with (refine wpList_load_ins rfl (.tmp 3) rfl (W.heap.size) ({ i with rm := fld w 3 0, shift := fld w 6 5, form := 2, amount := fld w 11 7 } : Ins) rfl ((((hA.set_ 6 _).set_ 10 _).set_ 3 _).set_ 11 _) ?_)
  refine (data_is w h0 h1 ({ i with rm := fld w 3 0, shift := fld w 6 5, form := 2, amount := fld w 11 7 } : Ins) _).mono ?_
  rintro e w7 ⟨rfl, b7⟩
  have hZ7 : Blok w7 (W.heap.size + 1) 61 (insCells zIns) := Blok.below ((((hZ.far (by simp) _).far (by simp) _).far (by simp) _).far (by simp) _) b7 (Blok.lt ((((hZ.far (by simp) _).far (by simp) _).far (by simp) _).far (by simp) _))
  have hB7 : Below W.heap.size W w7 := bthen ((((hB.setCell (Nat.le_refl _) _).setCell (Nat.le_refl _) _).setCell (Nat.le_refl _) _).setCell (Nat.le_refl _) _) b7
  go_wp2_with (refine wpList_store_ins rfl (.tmp 4) (.tmp 52) rfl (W.heap.size + 1) (dataI w ({ i with rm := fld w 3 0, shift := fld w 6 5, form := 2, amount := fld w 11 7 } : Ins)) zIns rfl rfl hZ7 ?_; intro w8 B8 g8)
  refine ret_ins 4 (W.heap.size + 1) (dataI w ({ i with rm := fld w 3 0, shift := fld w 6 5, form := 2, amount := fld w 11 7 } : Ins)) rfl rfl B8 rfl ⟨rfl, ?_⟩
  exact bgrow hB7 g8 (by omega)
theorem first_4byf (w : Int) (h0 : 0 ≤ w) (h1 : w < 4294967296) (i : Ins) (W : World) (p1 : (fld w 7 4 == 9) = false) (p2 : bt w 7 = true) (p3 : bt w 4 = false) (p4 : (fld w 24 23 == 2) = true) (p5 : bt w 20 = true) :
    Calls Try.prog 39 #[.int .u32 w, (.agg (insA i))] W fun e w' => e = .returned (.agg (insCells (dataI w ({ i with rm := fld w 3 0, shift := fld w 6 5, form := 2, amount := fld w 11 7 } : Ins))).toArray) ∧ Below W.heap.size W w' := by
  have G := Lib.hid (fun hi lo hl hm hh W => get_any w h0 h1 hi lo hl hm hh W)
  have B := Lib.hid (fun i hl hh W => bit_any w h0 h1 i hl hh W)
  obtain ⟨hA, hZ, hB⟩ := ins_two i W
  go_enter Try.func39, Try.ntmps39
  go_upto_region 1 with fail
  generalize (W.alloc (.cells (insA i) 61)).alloc (.cells zInsA 61) = W2 at hA hZ hB ⊢
  generalize Value.agg (insA i) = vi
  obtain ⟨c0, c1, c2, c3, c4, c5, c6, c7, c8, c9, c10, c11, c12, c13, c14, c15, c16, c17, c18, c19⟩ := ins_at (hA)
  have hf := hA.frozen
  go_upto_region 11 with (first | (first | (go_at_call 38; with_reducible refine (G.out _ _ ?_ ?_ ?_ _).mono ?_; (any_goals (first | omega | decide)); rintro e w' ⟨rfl, rfl⟩) | (go_at_call 41; with_reducible refine (B.out _ ?_ ?_ _).mono ?_; (any_goals (first | omega | decide)); rintro e w' ⟨rfl, rfl⟩) | (go_at_call 76; with_reducible refine (compares_is _ _).mono ?_; rintro e w' ⟨rfl, rfl⟩) | (go_at_call 77; with_reducible refine (moves_is _ _).mono ?_; rintro e w' ⟨rfl, rfl⟩)) | (go_at_call 61; with_reducible refine (small_is _ _).mono ?_; rintro e w' ⟨rfl, rfl⟩) | (go_at_call 75; with_reducible refine (half_is _ _ ?_ ?_ _).mono ?_; (any_goals (first | omega | assumption)); rintro e w' ⟨rfl, rfl⟩))
  go_wp2_with (refine wpList_load_ins rfl (.tmp 3) rfl (W.heap.size) ({ i with rm := fld w 3 0, shift := fld w 6 5, form := 2, amount := fld w 11 7 } : Ins) rfl ((((hA.set_ 6 _).set_ 10 _).set_ 3 _).set_ 11 _) ?_)
  refine (data_is w h0 h1 ({ i with rm := fld w 3 0, shift := fld w 6 5, form := 2, amount := fld w 11 7 } : Ins) _).mono ?_
  rintro e w7 ⟨rfl, b7⟩
  have hZ7 : Blok w7 (W.heap.size + 1) 61 (insCells zIns) := Blok.below ((((hZ.far (by simp) _).far (by simp) _).far (by simp) _).far (by simp) _) b7 (Blok.lt ((((hZ.far (by simp) _).far (by simp) _).far (by simp) _).far (by simp) _))
  have hB7 : Below W.heap.size W w7 := bthen ((((hB.setCell (Nat.le_refl _) _).setCell (Nat.le_refl _) _).setCell (Nat.le_refl _) _).setCell (Nat.le_refl _) _) b7
  go_wp2_with (refine wpList_store_ins rfl (.tmp 4) (.tmp 52) rfl (W.heap.size + 1) (dataI w ({ i with rm := fld w 3 0, shift := fld w 6 5, form := 2, amount := fld w 11 7 } : Ins)) zIns rfl rfl hZ7 ?_; intro w8 B8 g8)
  refine ret_ins 4 (W.heap.size + 1) (dataI w ({ i with rm := fld w 3 0, shift := fld w 6 5, form := 2, amount := fld w 11 7 } : Ins)) rfl rfl B8 rfl ⟨rfl, ?_⟩
  exact bgrow hB7 g8 (by omega)
end Go.Proofs.Ytpfhplhamnohjaa
namespace Go.Proofs.Ytpfhplhamnohjaa
set_option maxHeartbeats 25600000
set_option maxRecDepth 100000
open Go.RowKit

theorem first_is (w : Int) (h0 : 0 ≤ w) (h1 : w < 4294967296) (i : Ins) (W : World) :
    Calls Try.prog 39 #[.int .u32 w, (.agg (insA i))] W fun e w' => e = .returned (.agg (insCells (firstI w i)).toArray) ∧ Below W.heap.size W w' := by
  by_cases p1 : fld w 7 4 = 9
  · have e : firstI w i = productI w i := by simp [firstI, p1]
    rw [e]; exact first_1 w h0 h1 i W (beqT p1)
  by_cases p2 : bt w 7 = true
  · by_cases p3 : bt w 4 = true
    · have e : firstI w i = halvesI w i := by simp [firstI, p1, p2, p3]
      rw [e]; exact first_2 w h0 h1 i W (beqF p1) p2 p3
    · by_cases p4 : fld w 24 23 = 2
      · by_cases p5 : bt w 20 = true
        · have e : firstI w i = dataI w { i with rm := fld w 3 0, shift := fld w 6 5, form := 2, amount := fld w 11 7 } := by simp [firstI, p1, p2, p3, p4, p5]
          rw [e]; exact first_4byf w h0 h1 i W (beqF p1) p2 (btF p3) (beqT p4) p5
        · have e : firstI w i = specialI w i := by simp [firstI, p1, p2, p3, p4, p5]
          rw [e]; exact first_3b w h0 h1 i W (beqF p1) p2 (btF p3) (beqT p4) (btF p5)
      · have e : firstI w i = dataI w { i with rm := fld w 3 0, shift := fld w 6 5, form := 2, amount := fld w 11 7 } := by simp [firstI, p1, p2, p3, p4]
        rw [e]; exact first_4bxf w h0 h1 i W (beqF p1) p2 (btF p3) (beqF p4)
  by_cases p4 : fld w 24 23 = 2
  · by_cases p5 : bt w 20 = true
    · by_cases p3 : bt w 4 = true
      · have e : firstI w i = dataI w { i with rm := fld w 3 0, shift := fld w 6 5, form := 3, rs := fld w 11 8 } := by simp [firstI, p1, p2, p3, p4, p5]
        rw [e]; exact first_4ayt w h0 h1 i W (beqF p1) (btF p2) (beqT p4) p5 p3
      · have e : firstI w i = dataI w { i with rm := fld w 3 0, shift := fld w 6 5, form := 2, amount := fld w 11 7 } := by simp [firstI, p1, p2, p3, p4, p5]
        rw [e]; exact first_4ayf w h0 h1 i W (beqF p1) (btF p2) (beqT p4) p5 (btF p3)
    · have e : firstI w i = specialI w i := by simp [firstI, p1, p2, p4, p5]
      rw [e]; exact first_3a w h0 h1 i W (beqF p1) (btF p2) (beqT p4) (btF p5)
  · by_cases p3 : bt w 4 = true
    · have e : firstI w i = dataI w { i with rm := fld w 3 0, shift := fld w 6 5, form := 3, rs := fld w 11 8 } := by simp [firstI, p1, p2, p3, p4]
      rw [e]; exact first_4axt w h0 h1 i W (beqF p1) (btF p2) (beqF p4) p3
    · have e : firstI w i = dataI w { i with rm := fld w 3 0, shift := fld w 6 5, form := 2, amount := fld w 11 7 } := by simp [firstI, p1, p2, p3, p4]
      rw [e]; exact first_4axf w h0 h1 i W (beqF p1) (btF p2) (beqF p4) (btF p3)
theorem says_0 (w : Int) (h0 : 0 ≤ w) (h1 : w < 4294967296) (W : World) (k0 : (fld w 27 25 == 0) = true) :
    Calls Try.prog 32 #[.int .u32 w] W fun e w' => e = .returned (.agg (insCells (firstI w ({ zIns with cond := fld w 31 28 } : Ins))).toArray) ∧ Below W.heap.size W w' := by
  have G := Lib.hid (fun hi lo hl hm hh W => get_any w h0 h1 hi lo hl hm hh W)
  have B := Lib.hid (fun i hl hh W => bit_any w h0 h1 i hl hh W)
  have hZ : Blok (W.alloc (.cells zInsA 61)) W.heap.size 61 (insCells zIns) := Blok.new W _ (insCells zIns)
  have hB : Below W.heap.size W (W.alloc (.cells zInsA 61)) := (Below.refl _ _).alloc (Nat.le_refl _) _
  go_enter Try.func32, Try.ntmps32
  go_upto_region 1 with fail
  generalize W.alloc (.cells zInsA 61) = W1 at hZ hB ⊢
  have hlt := hZ.lt
  have hN := Blok.new W1 61 (insCells zIns)
  have hZ1 := hZ.alloc (.cells (insCells zIns).toArray 61)
  have hB1 : Below W.heap.size W (W1.alloc (.cells (insCells zIns).toArray 61)) := hB.alloc (Nat.le_of_lt hlt) _
  go_upto_region 2 with (first | (first | (go_at_call 38; with_reducible refine (G.out _ _ ?_ ?_ ?_ _).mono ?_; (any_goals (first | omega | decide)); rintro e w' ⟨rfl, rfl⟩) | (go_at_call 41; with_reducible refine (B.out _ ?_ ?_ _).mono ?_; (any_goals (first | omega | decide)); rintro e w' ⟨rfl, rfl⟩) | (go_at_call 76; with_reducible refine (compares_is _ _).mono ?_; rintro e w' ⟨rfl, rfl⟩) | (go_at_call 77; with_reducible refine (moves_is _ _).mono ?_; rintro e w' ⟨rfl, rfl⟩)) | (refine wpList_store_ins rfl (.tmp 3) (.tmp 6) rfl W1.heap.size ({ zIns with cond := fld w 31 28 } : Ins) zIns rfl rfl hN ?_; intro w8 B8 g8))
  have hZ8 : Blok w8 W.heap.size 61 (insCells zIns) := hZ1.grown g8 (by simp; omega)
  have hB8 : Below W.heap.size W w8 := bgrow hB1 g8 (Nat.le_of_lt hlt)
  clear hZ hN hZ1 g8 hB1 hB
  generalize W1.heap.size = g at B8 hlt ⊢
  generalize Value.agg #[.int .i64 ({ zIns with cond := fld w 31 28 } : Ins).cond, .int .i64 ({ zIns with cond := fld w 31 28 } : Ins).op, .bool ({ zIns with cond := fld w 31 28 } : Ins).s, .int .i64 ({ zIns with cond := fld w 31 28 } : Ins).form, .int .i64 ({ zIns with cond := fld w 31 28 } : Ins).rd, .int .i64 ({ zIns with cond := fld w 31 28 } : Ins).rn, .int .i64 ({ zIns with cond := fld w 31 28 } : Ins).rm, .int .i64 ({ zIns with cond := fld w 31 28 } : Ins).rs, .int .i64 ({ zIns with cond := fld w 31 28 } : Ins).ra, .int .u32 ({ zIns with cond := fld w 31 28 } : Ins).imm, .int .i64 ({ zIns with cond := fld w 31 28 } : Ins).shift, .int .i64 ({ zIns with cond := fld w 31 28 } : Ins).amount, .bool ({ zIns with cond := fld w 31 28 } : Ins).pre, .bool ({ zIns with cond := fld w 31 28 } : Ins).up, .bool ({ zIns with cond := fld w 31 28 } : Ins).write, .int .u16 ({ zIns with cond := fld w 31 28 } : Ins).list, .int .i64 ({ zIns with cond := fld w 31 28 } : Ins).crn, .int .i64 ({ zIns with cond := fld w 31 28 } : Ins).op1, .int .i64 ({ zIns with cond := fld w 31 28 } : Ins).crm, .int .i64 ({ zIns with cond := fld w 31 28 } : Ins).op2] = vi
  go_upto_region 7 with (first | (first | (go_at_call 38; with_reducible refine (G.out _ _ ?_ ?_ ?_ _).mono ?_; (any_goals (first | omega | decide)); rintro e w' ⟨rfl, rfl⟩) | (go_at_call 41; with_reducible refine (B.out _ ?_ ?_ _).mono ?_; (any_goals (first | omega | decide)); rintro e w' ⟨rfl, rfl⟩) | (go_at_call 76; with_reducible refine (compares_is _ _).mono ?_; rintro e w' ⟨rfl, rfl⟩) | (go_at_call 77; with_reducible refine (moves_is _ _).mono ?_; rintro e w' ⟨rfl, rfl⟩)))
  go_wp2_with (refine wpList_load_ins rfl (.tmp 3) rfl g ({ zIns with cond := fld w 31 28 } : Ins) rfl B8 ?_)
  refine (first_is w h0 h1 ({ zIns with cond := fld w 31 28 } : Ins) _).mono ?_
  rintro e w7 ⟨rfl, b7⟩
  have hZ7 : Blok w7 W.heap.size 61 (insCells zIns) := Blok.below hZ8 b7 (Blok.lt hZ8)
  have hB7 : Below W.heap.size W w7 := bthen hB8 b7
  go_wp2_with (refine wpList_store_ins rfl (.tmp 2) (.tmp 19) rfl W.heap.size (firstI w ({ zIns with cond := fld w 31 28 } : Ins)) zIns rfl rfl hZ7 ?_; intro w9 B9 g9)
  refine ret_ins 2 W.heap.size (firstI w ({ zIns with cond := fld w 31 28 } : Ins)) rfl rfl B9 rfl ⟨rfl, ?_⟩
  exact bgrow hB7 g9 (Nat.le_refl _)
theorem says_1 (w : Int) (h0 : 0 ≤ w) (h1 : w < 4294967296) (W : World) (k0 : (fld w 27 25 == 0) = false) (k1 : (fld w 27 25 == 1) = true) :
    Calls Try.prog 32 #[.int .u32 w] W fun e w' => e = .returned (.agg (insCells (secondI w ({ zIns with cond := fld w 31 28 } : Ins))).toArray) ∧ Below W.heap.size W w' := by
  have G := Lib.hid (fun hi lo hl hm hh W => get_any w h0 h1 hi lo hl hm hh W)
  have B := Lib.hid (fun i hl hh W => bit_any w h0 h1 i hl hh W)
  have hZ : Blok (W.alloc (.cells zInsA 61)) W.heap.size 61 (insCells zIns) := Blok.new W _ (insCells zIns)
  have hB : Below W.heap.size W (W.alloc (.cells zInsA 61)) := (Below.refl _ _).alloc (Nat.le_refl _) _
  go_enter Try.func32, Try.ntmps32
  go_upto_region 1 with fail
  generalize W.alloc (.cells zInsA 61) = W1 at hZ hB ⊢
  have hlt := hZ.lt
  have hN := Blok.new W1 61 (insCells zIns)
  have hZ1 := hZ.alloc (.cells (insCells zIns).toArray 61)
  have hB1 : Below W.heap.size W (W1.alloc (.cells (insCells zIns).toArray 61)) := hB.alloc (Nat.le_of_lt hlt) _
  go_upto_region 2 with (first | (first | (go_at_call 38; with_reducible refine (G.out _ _ ?_ ?_ ?_ _).mono ?_; (any_goals (first | omega | decide)); rintro e w' ⟨rfl, rfl⟩) | (go_at_call 41; with_reducible refine (B.out _ ?_ ?_ _).mono ?_; (any_goals (first | omega | decide)); rintro e w' ⟨rfl, rfl⟩) | (go_at_call 76; with_reducible refine (compares_is _ _).mono ?_; rintro e w' ⟨rfl, rfl⟩) | (go_at_call 77; with_reducible refine (moves_is _ _).mono ?_; rintro e w' ⟨rfl, rfl⟩)) | (refine wpList_store_ins rfl (.tmp 3) (.tmp 6) rfl W1.heap.size ({ zIns with cond := fld w 31 28 } : Ins) zIns rfl rfl hN ?_; intro w8 B8 g8))
  have hZ8 : Blok w8 W.heap.size 61 (insCells zIns) := hZ1.grown g8 (by simp; omega)
  have hB8 : Below W.heap.size W w8 := bgrow hB1 g8 (Nat.le_of_lt hlt)
  clear hZ hN hZ1 g8 hB1 hB
  generalize W1.heap.size = g at B8 hlt ⊢
  generalize Value.agg #[.int .i64 ({ zIns with cond := fld w 31 28 } : Ins).cond, .int .i64 ({ zIns with cond := fld w 31 28 } : Ins).op, .bool ({ zIns with cond := fld w 31 28 } : Ins).s, .int .i64 ({ zIns with cond := fld w 31 28 } : Ins).form, .int .i64 ({ zIns with cond := fld w 31 28 } : Ins).rd, .int .i64 ({ zIns with cond := fld w 31 28 } : Ins).rn, .int .i64 ({ zIns with cond := fld w 31 28 } : Ins).rm, .int .i64 ({ zIns with cond := fld w 31 28 } : Ins).rs, .int .i64 ({ zIns with cond := fld w 31 28 } : Ins).ra, .int .u32 ({ zIns with cond := fld w 31 28 } : Ins).imm, .int .i64 ({ zIns with cond := fld w 31 28 } : Ins).shift, .int .i64 ({ zIns with cond := fld w 31 28 } : Ins).amount, .bool ({ zIns with cond := fld w 31 28 } : Ins).pre, .bool ({ zIns with cond := fld w 31 28 } : Ins).up, .bool ({ zIns with cond := fld w 31 28 } : Ins).write, .int .u16 ({ zIns with cond := fld w 31 28 } : Ins).list, .int .i64 ({ zIns with cond := fld w 31 28 } : Ins).crn, .int .i64 ({ zIns with cond := fld w 31 28 } : Ins).op1, .int .i64 ({ zIns with cond := fld w 31 28 } : Ins).crm, .int .i64 ({ zIns with cond := fld w 31 28 } : Ins).op2] = vi
  go_upto_region 8 with (first | (first | (go_at_call 38; with_reducible refine (G.out _ _ ?_ ?_ ?_ _).mono ?_; (any_goals (first | omega | decide)); rintro e w' ⟨rfl, rfl⟩) | (go_at_call 41; with_reducible refine (B.out _ ?_ ?_ _).mono ?_; (any_goals (first | omega | decide)); rintro e w' ⟨rfl, rfl⟩) | (go_at_call 76; with_reducible refine (compares_is _ _).mono ?_; rintro e w' ⟨rfl, rfl⟩) | (go_at_call 77; with_reducible refine (moves_is _ _).mono ?_; rintro e w' ⟨rfl, rfl⟩)))
  go_wp2_with (refine wpList_load_ins rfl (.tmp 3) rfl g ({ zIns with cond := fld w 31 28 } : Ins) rfl B8 ?_)
  refine (second_is w h0 h1 ({ zIns with cond := fld w 31 28 } : Ins) _).mono ?_
  rintro e w7 ⟨rfl, b7⟩
  have hZ7 : Blok w7 W.heap.size 61 (insCells zIns) := Blok.below hZ8 b7 (Blok.lt hZ8)
  have hB7 : Below W.heap.size W w7 := bthen hB8 b7
  go_wp2_with (refine wpList_store_ins rfl (.tmp 2) (.tmp 22) rfl W.heap.size (secondI w ({ zIns with cond := fld w 31 28 } : Ins)) zIns rfl rfl hZ7 ?_; intro w9 B9 g9)
  refine ret_ins 2 W.heap.size (secondI w ({ zIns with cond := fld w 31 28 } : Ins)) rfl rfl B9 rfl ⟨rfl, ?_⟩
  exact bgrow hB7 g9 (Nat.le_refl _)
theorem says_3t (w : Int) (h0 : 0 ≤ w) (h1 : w < 4294967296) (W : World) (k0 : (fld w 27 25 == 0) = false) (k1 : (fld w 27 25 == 1) = false) (k3 : (fld w 27 25 == 3) = true) (p : bt w 4 = true) :
    Calls Try.prog 32 #[.int .u32 w] W fun e w' => e = .returned (.agg (insCells (mediaI w ({ zIns with cond := fld w 31 28 } : Ins))).toArray) ∧ Below W.heap.size W w' := by
  have G := Lib.hid (fun hi lo hl hm hh W => get_any w h0 h1 hi lo hl hm hh W)
  have B := Lib.hid (fun i hl hh W => bit_any w h0 h1 i hl hh W)
  have hZ : Blok (W.alloc (.cells zInsA 61)) W.heap.size 61 (insCells zIns) := Blok.new W _ (insCells zIns)
  have hB : Below W.heap.size W (W.alloc (.cells zInsA 61)) := (Below.refl _ _).alloc (Nat.le_refl _) _
  go_enter Try.func32, Try.ntmps32
  go_upto_region 1 with fail
  generalize W.alloc (.cells zInsA 61) = W1 at hZ hB ⊢
  have hlt := hZ.lt
  have hN := Blok.new W1 61 (insCells zIns)
  have hZ1 := hZ.alloc (.cells (insCells zIns).toArray 61)
  have hB1 : Below W.heap.size W (W1.alloc (.cells (insCells zIns).toArray 61)) := hB.alloc (Nat.le_of_lt hlt) _
  go_upto_region 2 with (first | (first | (go_at_call 38; with_reducible refine (G.out _ _ ?_ ?_ ?_ _).mono ?_; (any_goals (first | omega | decide)); rintro e w' ⟨rfl, rfl⟩) | (go_at_call 41; with_reducible refine (B.out _ ?_ ?_ _).mono ?_; (any_goals (first | omega | decide)); rintro e w' ⟨rfl, rfl⟩) | (go_at_call 76; with_reducible refine (compares_is _ _).mono ?_; rintro e w' ⟨rfl, rfl⟩) | (go_at_call 77; with_reducible refine (moves_is _ _).mono ?_; rintro e w' ⟨rfl, rfl⟩)) | (refine wpList_store_ins rfl (.tmp 3) (.tmp 6) rfl W1.heap.size ({ zIns with cond := fld w 31 28 } : Ins) zIns rfl rfl hN ?_; intro w8 B8 g8))
  have hZ8 : Blok w8 W.heap.size 61 (insCells zIns) := hZ1.grown g8 (by simp; omega)
  have hB8 : Below W.heap.size W w8 := bgrow hB1 g8 (Nat.le_of_lt hlt)
  clear hZ hN hZ1 g8 hB1 hB
  generalize W1.heap.size = g at B8 hlt ⊢
  generalize Value.agg #[.int .i64 ({ zIns with cond := fld w 31 28 } : Ins).cond, .int .i64 ({ zIns with cond := fld w 31 28 } : Ins).op, .bool ({ zIns with cond := fld w 31 28 } : Ins).s, .int .i64 ({ zIns with cond := fld w 31 28 } : Ins).form, .int .i64 ({ zIns with cond := fld w 31 28 } : Ins).rd, .int .i64 ({ zIns with cond := fld w 31 28 } : Ins).rn, .int .i64 ({ zIns with cond := fld w 31 28 } : Ins).rm, .int .i64 ({ zIns with cond := fld w 31 28 } : Ins).rs, .int .i64 ({ zIns with cond := fld w 31 28 } : Ins).ra, .int .u32 ({ zIns with cond := fld w 31 28 } : Ins).imm, .int .i64 ({ zIns with cond := fld w 31 28 } : Ins).shift, .int .i64 ({ zIns with cond := fld w 31 28 } : Ins).amount, .bool ({ zIns with cond := fld w 31 28 } : Ins).pre, .bool ({ zIns with cond := fld w 31 28 } : Ins).up, .bool ({ zIns with cond := fld w 31 28 } : Ins).write, .int .u16 ({ zIns with cond := fld w 31 28 } : Ins).list, .int .i64 ({ zIns with cond := fld w 31 28 } : Ins).crn, .int .i64 ({ zIns with cond := fld w 31 28 } : Ins).op1, .int .i64 ({ zIns with cond := fld w 31 28 } : Ins).crm, .int .i64 ({ zIns with cond := fld w 31 28 } : Ins).op2] = vi
  go_upto_region 10 with (first | (first | (go_at_call 38; with_reducible refine (G.out _ _ ?_ ?_ ?_ _).mono ?_; (any_goals (first | omega | decide)); rintro e w' ⟨rfl, rfl⟩) | (go_at_call 41; with_reducible refine (B.out _ ?_ ?_ _).mono ?_; (any_goals (first | omega | decide)); rintro e w' ⟨rfl, rfl⟩) | (go_at_call 76; with_reducible refine (compares_is _ _).mono ?_; rintro e w' ⟨rfl, rfl⟩) | (go_at_call 77; with_reducible refine (moves_is _ _).mono ?_; rintro e w' ⟨rfl, rfl⟩)))
  go_wp2_with (refine wpList_load_ins rfl (.tmp 3) rfl g ({ zIns with cond := fld w 31 28 } : Ins) rfl B8 ?_)
  refine (media_is w h0 h1 ({ zIns with cond := fld w 31 28 } : Ins) _).mono ?_
  rintro e w7 ⟨rfl, b7⟩
  have hZ7 : Blok w7 W.heap.size 61 (insCells zIns) := Blok.below hZ8 b7 (Blok.lt hZ8)
  have hB7 : Below W.heap.size W w7 := bthen hB8 b7
  go_wp2_with (refine wpList_store_ins rfl (.tmp 2) (.tmp 27) rfl W.heap.size (mediaI w ({ zIns with cond := fld w 31 28 } : Ins)) zIns rfl rfl hZ7 ?_; intro w9 B9 g9)
  refine ret_ins 2 W.heap.size (mediaI w ({ zIns with cond := fld w 31 28 } : Ins)) rfl rfl B9 rfl ⟨rfl, ?_⟩
  exact bgrow hB7 g9 (Nat.le_refl _)
theorem says_3f (w : Int) (h0 : 0 ≤ w) (h1 : w < 4294967296) (W : World) (k0 : (fld w 27 25 == 0) = false) (k1 : (fld w 27 25 == 1) = false) (k3 : (fld w 27 25 == 3) = true) (p : bt w 4 = false) :
    Calls Try.prog 32 #[.int .u32 w] W fun e w' => e = .returned (.agg (insCells (singleI w ({ zIns with cond := fld w 31 28 } : Ins))).toArray) ∧ Below W.heap.size W w' := by
  have G := Lib.hid (fun hi lo hl hm hh W => get_any w h0 h1 hi lo hl hm hh W)
  have B := Lib.hid (fun i hl hh W => bit_any w h0 h1 i hl hh W)
  have hZ : Blok (W.alloc (.cells zInsA 61)) W.heap.size 61 (insCells zIns) := Blok.new W _ (insCells zIns)
  have hB : Below W.heap.size W (W.alloc (.cells zInsA 61)) := (Below.refl _ _).alloc (Nat.le_refl _) _
  go_enter Try.func32, Try.ntmps32
  go_upto_region 1 with fail
  generalize W.alloc (.cells zInsA 61) = W1 at hZ hB ⊢
  have hlt := hZ.lt
  have hN := Blok.new W1 61 (insCells zIns)
  have hZ1 := hZ.alloc (.cells (insCells zIns).toArray 61)
  have hB1 : Below W.heap.size W (W1.alloc (.cells (insCells zIns).toArray 61)) := hB.alloc (Nat.le_of_lt hlt) _
  go_upto_region 2 with (first | (first | (go_at_call 38; with_reducible refine (G.out _ _ ?_ ?_ ?_ _).mono ?_; (any_goals (first | omega | decide)); rintro e w' ⟨rfl, rfl⟩) | (go_at_call 41; with_reducible refine (B.out _ ?_ ?_ _).mono ?_; (any_goals (first | omega | decide)); rintro e w' ⟨rfl, rfl⟩) | (go_at_call 76; with_reducible refine (compares_is _ _).mono ?_; rintro e w' ⟨rfl, rfl⟩) | (go_at_call 77; with_reducible refine (moves_is _ _).mono ?_; rintro e w' ⟨rfl, rfl⟩)) | (refine wpList_store_ins rfl (.tmp 3) (.tmp 6) rfl W1.heap.size ({ zIns with cond := fld w 31 28 } : Ins) zIns rfl rfl hN ?_; intro w8 B8 g8))
  have hZ8 : Blok w8 W.heap.size 61 (insCells zIns) := hZ1.grown g8 (by simp; omega)
  have hB8 : Below W.heap.size W w8 := bgrow hB1 g8 (Nat.le_of_lt hlt)
  clear hZ hN hZ1 g8 hB1 hB
  generalize W1.heap.size = g at B8 hlt ⊢
  generalize Value.agg #[.int .i64 ({ zIns with cond := fld w 31 28 } : Ins).cond, .int .i64 ({ zIns with cond := fld w 31 28 } : Ins).op, .bool ({ zIns with cond := fld w 31 28 } : Ins).s, .int .i64 ({ zIns with cond := fld w 31 28 } : Ins).form, .int .i64 ({ zIns with cond := fld w 31 28 } : Ins).rd, .int .i64 ({ zIns with cond := fld w 31 28 } : Ins).rn, .int .i64 ({ zIns with cond := fld w 31 28 } : Ins).rm, .int .i64 ({ zIns with cond := fld w 31 28 } : Ins).rs, .int .i64 ({ zIns with cond := fld w 31 28 } : Ins).ra, .int .u32 ({ zIns with cond := fld w 31 28 } : Ins).imm, .int .i64 ({ zIns with cond := fld w 31 28 } : Ins).shift, .int .i64 ({ zIns with cond := fld w 31 28 } : Ins).amount, .bool ({ zIns with cond := fld w 31 28 } : Ins).pre, .bool ({ zIns with cond := fld w 31 28 } : Ins).up, .bool ({ zIns with cond := fld w 31 28 } : Ins).write, .int .u16 ({ zIns with cond := fld w 31 28 } : Ins).list, .int .i64 ({ zIns with cond := fld w 31 28 } : Ins).crn, .int .i64 ({ zIns with cond := fld w 31 28 } : Ins).op1, .int .i64 ({ zIns with cond := fld w 31 28 } : Ins).crm, .int .i64 ({ zIns with cond := fld w 31 28 } : Ins).op2] = vi
  go_upto_region 11 with (first | (first | (go_at_call 38; with_reducible refine (G.out _ _ ?_ ?_ ?_ _).mono ?_; (any_goals (first | omega | decide)); rintro e w' ⟨rfl, rfl⟩) | (go_at_call 41; with_reducible refine (B.out _ ?_ ?_ _).mono ?_; (any_goals (first | omega | decide)); rintro e w' ⟨rfl, rfl⟩) | (go_at_call 76; with_reducible refine (compares_is _ _).mono ?_; rintro e w' ⟨rfl, rfl⟩) | (go_at_call 77; with_reducible refine (moves_is _ _).mono ?_; rintro e w' ⟨rfl, rfl⟩)))
  go_wp2_with (refine wpList_load_ins rfl (.tmp 3) rfl g ({ zIns with cond := fld w 31 28 } : Ins) rfl B8 ?_)
  refine (single_is w h0 h1 ({ zIns with cond := fld w 31 28 } : Ins) _).mono ?_
  rintro e w7 ⟨rfl, b7⟩
  have hZ7 : Blok w7 W.heap.size 61 (insCells zIns) := Blok.below hZ8 b7 (Blok.lt hZ8)
  have hB7 : Below W.heap.size W w7 := bthen hB8 b7
  go_wp2_with (refine wpList_store_ins rfl (.tmp 2) (.tmp 30) rfl W.heap.size (singleI w ({ zIns with cond := fld w 31 28 } : Ins)) zIns rfl rfl hZ7 ?_; intro w9 B9 g9)
  refine ret_ins 2 W.heap.size (singleI w ({ zIns with cond := fld w 31 28 } : Ins)) rfl rfl B9 rfl ⟨rfl, ?_⟩
  exact bgrow hB7 g9 (Nat.le_refl _)
theorem says_2 (w : Int) (h0 : 0 ≤ w) (h1 : w < 4294967296) (W : World) (k0 : (fld w 27 25 == 0) = false) (k1 : (fld w 27 25 == 1) = false) (k3 : (fld w 27 25 == 3) = false) (k2 : (fld w 27 25 == 2) = true) :
    Calls Try.prog 32 #[.int .u32 w] W fun e w' => e = .returned (.agg (insCells (singleI w ({ zIns with cond := fld w 31 28 } : Ins))).toArray) ∧ Below W.heap.size W w' := by
  have G := Lib.hid (fun hi lo hl hm hh W => get_any w h0 h1 hi lo hl hm hh W)
  have B := Lib.hid (fun i hl hh W => bit_any w h0 h1 i hl hh W)
  have hZ : Blok (W.alloc (.cells zInsA 61)) W.heap.size 61 (insCells zIns) := Blok.new W _ (insCells zIns)
  have hB : Below W.heap.size W (W.alloc (.cells zInsA 61)) := (Below.refl _ _).alloc (Nat.le_refl _) _
  go_enter Try.func32, Try.ntmps32
  go_upto_region 1 with fail
  generalize W.alloc (.cells zInsA 61) = W1 at hZ hB ⊢
  have hlt := hZ.lt
  have hN := Blok.new W1 61 (insCells zIns)
  have hZ1 := hZ.alloc (.cells (insCells zIns).toArray 61)
  have hB1 : Below W.heap.size W (W1.alloc (.cells (insCells zIns).toArray 61)) := hB.alloc (Nat.le_of_lt hlt) _
  go_upto_region 2 with (first | (first | (go_at_call 38; with_reducible refine (G.out _ _ ?_ ?_ ?_ _).mono ?_; (any_goals (first | omega | decide)); rintro e w' ⟨rfl, rfl⟩) | (go_at_call 41; with_reducible refine (B.out _ ?_ ?_ _).mono ?_; (any_goals (first | omega | decide)); rintro e w' ⟨rfl, rfl⟩) | (go_at_call 76; with_reducible refine (compares_is _ _).mono ?_; rintro e w' ⟨rfl, rfl⟩) | (go_at_call 77; with_reducible refine (moves_is _ _).mono ?_; rintro e w' ⟨rfl, rfl⟩)) | (refine wpList_store_ins rfl (.tmp 3) (.tmp 6) rfl W1.heap.size ({ zIns with cond := fld w 31 28 } : Ins) zIns rfl rfl hN ?_; intro w8 B8 g8))
  have hZ8 : Blok w8 W.heap.size 61 (insCells zIns) := hZ1.grown g8 (by simp; omega)
  have hB8 : Below W.heap.size W w8 := bgrow hB1 g8 (Nat.le_of_lt hlt)
  clear hZ hN hZ1 g8 hB1 hB
  generalize W1.heap.size = g at B8 hlt ⊢
  generalize Value.agg #[.int .i64 ({ zIns with cond := fld w 31 28 } : Ins).cond, .int .i64 ({ zIns with cond := fld w 31 28 } : Ins).op, .bool ({ zIns with cond := fld w 31 28 } : Ins).s, .int .i64 ({ zIns with cond := fld w 31 28 } : Ins).form, .int .i64 ({ zIns with cond := fld w 31 28 } : Ins).rd, .int .i64 ({ zIns with cond := fld w 31 28 } : Ins).rn, .int .i64 ({ zIns with cond := fld w 31 28 } : Ins).rm, .int .i64 ({ zIns with cond := fld w 31 28 } : Ins).rs, .int .i64 ({ zIns with cond := fld w 31 28 } : Ins).ra, .int .u32 ({ zIns with cond := fld w 31 28 } : Ins).imm, .int .i64 ({ zIns with cond := fld w 31 28 } : Ins).shift, .int .i64 ({ zIns with cond := fld w 31 28 } : Ins).amount, .bool ({ zIns with cond := fld w 31 28 } : Ins).pre, .bool ({ zIns with cond := fld w 31 28 } : Ins).up, .bool ({ zIns with cond := fld w 31 28 } : Ins).write, .int .u16 ({ zIns with cond := fld w 31 28 } : Ins).list, .int .i64 ({ zIns with cond := fld w 31 28 } : Ins).crn, .int .i64 ({ zIns with cond := fld w 31 28 } : Ins).op1, .int .i64 ({ zIns with cond := fld w 31 28 } : Ins).crm, .int .i64 ({ zIns with cond := fld w 31 28 } : Ins).op2] = vi
  go_upto_region 11 with (first | (first | (go_at_call 38; with_reducible refine (G.out _ _ ?_ ?_ ?_ _).mono ?_; (any_goals (first | omega | decide)); rintro e w' ⟨rfl, rfl⟩) | (go_at_call 41; with_reducible refine (B.out _ ?_ ?_ _).mono ?_; (any_goals (first | omega | decide)); rintro e w' ⟨rfl, rfl⟩) | (go_at_call 76; with_reducible refine (compares_is _ _).mono ?_; rintro e w' ⟨rfl, rfl⟩) | (go_at_call 77; with_reducible refine (moves_is _ _).mono ?_; rintro e w' ⟨rfl, rfl⟩)))
  go_wp2_with (refine wpList_load_ins rfl (.tmp 3) rfl g ({ zIns with cond := fld w 31 28 } : Ins) rfl B8 ?_)
  refine (single_is w h0 h1 ({ zIns with cond := fld w 31 28 } : Ins) _).mono ?_
  rintro e w7 ⟨rfl, b7⟩
  have hZ7 : Blok w7 W.heap.size 61 (insCells zIns) := Blok.below hZ8 b7 (Blok.lt hZ8)
  have hB7 : Below W.heap.size W w7 := bthen hB8 b7
  go_wp2_with (refine wpList_store_ins rfl (.tmp 2) (.tmp 30) rfl W.heap.size (singleI w ({ zIns with cond := fld w 31 28 } : Ins)) zIns rfl rfl hZ7 ?_; intro w9 B9 g9)
  refine ret_ins 2 W.heap.size (singleI w ({ zIns with cond := fld w 31 28 } : Ins)) rfl rfl B9 rfl ⟨rfl, ?_⟩
  exact bgrow hB7 g9 (Nat.le_refl _)
theorem says_4 (w : Int) (h0 : 0 ≤ w) (h1 : w < 4294967296) (W : World) (k0 : (fld w 27 25 == 0) = false) (k1 : (fld w 27 25 == 1) = false) (k3 : (fld w 27 25 == 3) = false) (k2 : (fld w 27 25 == 2) = false) :
    Calls Try.prog 32 #[.int .u32 w] W fun e w' => e = .returned (.agg (insCells (restI w ({ zIns with cond := fld w 31 28 } : Ins))).toArray) ∧ Below W.heap.size W w' := by
  have G := Lib.hid (fun hi lo hl hm hh W => get_any w h0 h1 hi lo hl hm hh W)
  have B := Lib.hid (fun i hl hh W => bit_any w h0 h1 i hl hh W)
  have hZ : Blok (W.alloc (.cells zInsA 61)) W.heap.size 61 (insCells zIns) := Blok.new W _ (insCells zIns)
  have hB : Below W.heap.size W (W.alloc (.cells zInsA 61)) := (Below.refl _ _).alloc (Nat.le_refl _) _
  go_enter Try.func32, Try.ntmps32
  go_upto_region 1 with fail
  generalize W.alloc (.cells zInsA 61) = W1 at hZ hB ⊢
  have hlt := hZ.lt
  have hN := Blok.new W1 61 (insCells zIns)
  have hZ1 := hZ.alloc (.cells (insCells zIns).toArray 61)
  have hB1 : Below W.heap.size W (W1.alloc (.cells (insCells zIns).toArray 61)) := hB.alloc (Nat.le_of_lt hlt) _
  go_upto_region 2 with (first | (first | (go_at_call 38; with_reducible refine (G.out _ _ ?_ ?_ ?_ _).mono ?_; (any_goals (first | omega | decide)); rintro e w' ⟨rfl, rfl⟩) | (go_at_call 41; with_reducible refine (B.out _ ?_ ?_ _).mono ?_; (any_goals (first | omega | decide)); rintro e w' ⟨rfl, rfl⟩) | (go_at_call 76; with_reducible refine (compares_is _ _).mono ?_; rintro e w' ⟨rfl, rfl⟩) | (go_at_call 77; with_reducible refine (moves_is _ _).mono ?_; rintro e w' ⟨rfl, rfl⟩)) | (refine wpList_store_ins rfl (.tmp 3) (.tmp 6) rfl W1.heap.size ({ zIns with cond := fld w 31 28 } : Ins) zIns rfl rfl hN ?_; intro w8 B8 g8))
  have hZ8 : Blok w8 W.heap.size 61 (insCells zIns) := hZ1.grown g8 (by simp; omega)
  have hB8 : Below W.heap.size W w8 := bgrow hB1 g8 (Nat.le_of_lt hlt)
  clear hZ hN hZ1 g8 hB1 hB
  generalize W1.heap.size = g at B8 hlt ⊢
  generalize Value.agg #[.int .i64 ({ zIns with cond := fld w 31 28 } : Ins).cond, .int .i64 ({ zIns with cond := fld w 31 28 } : Ins).op, .bool ({ zIns with cond := fld w 31 28 } : Ins).s, .int .i64 ({ zIns with cond := fld w 31 28 } : Ins).form, .int .i64 ({ zIns with cond := fld w 31 28 } : Ins).rd, .int .i64 ({ zIns with cond := fld w 31 28 } : Ins).rn, .int .i64 ({ zIns with cond := fld w 31 28 } : Ins).rm, .int .i64 ({ zIns with cond := fld w 31 28 } : Ins).rs, .int .i64 ({ zIns with cond := fld w 31 28 } : Ins).ra, .int .u32 ({ zIns with cond := fld w 31 28 } : Ins).imm, .int .i64 ({ zIns with cond := fld w 31 28 } : Ins).shift, .int .i64 ({ zIns with cond := fld w 31 28 } : Ins).amount, .bool ({ zIns with cond := fld w 31 28 } : Ins).pre, .bool ({ zIns with cond := fld w 31 28 } : Ins).up, .bool ({ zIns with cond := fld w 31 28 } : Ins).write, .int .u16 ({ zIns with cond := fld w 31 28 } : Ins).list, .int .i64 ({ zIns with cond := fld w 31 28 } : Ins).crn, .int .i64 ({ zIns with cond := fld w 31 28 } : Ins).op1, .int .i64 ({ zIns with cond := fld w 31 28 } : Ins).crm, .int .i64 ({ zIns with cond := fld w 31 28 } : Ins).op2] = vi
  go_upto_region 12 with (first | (first | (go_at_call 38; with_reducible refine (G.out _ _ ?_ ?_ ?_ _).mono ?_; (any_goals (first | omega | decide)); rintro e w' ⟨rfl, rfl⟩) | (go_at_call 41; with_reducible refine (B.out _ ?_ ?_ _).mono ?_; (any_goals (first | omega | decide)); rintro e w' ⟨rfl, rfl⟩) | (go_at_call 76; with_reducible refine (compares_is _ _).mono ?_; rintro e w' ⟨rfl, rfl⟩) | (go_at_call 77; with_reducible refine (moves_is _ _).mono ?_; rintro e w' ⟨rfl, rfl⟩)))
  go_wp2_with (refine wpList_load_ins rfl (.tmp 3) rfl g ({ zIns with cond := fld w 31 28 } : Ins) rfl B8 ?_)
  refine (rest_is w h0 h1 ({ zIns with cond := fld w 31 28 } : Ins) _).mono ?_
  rintro e w7 ⟨rfl, b7⟩
  have hZ7 : Blok w7 W.heap.size 61 (insCells zIns) := Blok.below hZ8 b7 (Blok.lt hZ8)
  have hB7 : Below W.heap.size W w7 := bthen hB8 b7
  go_wp2_with (refine wpList_store_ins rfl (.tmp 2) (.tmp 33) rfl W.heap.size (restI w ({ zIns with cond := fld w 31 28 } : Ins)) zIns rfl rfl hZ7 ?_; intro w9 B9 g9)
  refine ret_ins 2 W.heap.size (restI w ({ zIns with cond := fld w 31 28 } : Ins)) rfl rfl B9 rfl ⟨rfl, ?_⟩
  exact bgrow hB7 g9 (Nat.le_refl _)
theorem says_is (w : Int) (h0 : 0 ≤ w) (h1 : w < 4294967296) (W : World) :
    Calls Try.prog 32 #[.int .u32 w] W fun e w' => e = .returned (.agg (insCells (saysI w)).toArray) ∧ Below W.heap.size W w' := by
  by_cases k0 : fld w 27 25 = 0
  · have e : saysI w = firstI w ({ zIns with cond := fld w 31 28 } : Ins) := by simp [saysI, k0]
    rw [e]; exact says_0 w h0 h1 W (beqT k0)
  by_cases k1 : fld w 27 25 = 1
  · have e : saysI w = secondI w ({ zIns with cond := fld w 31 28 } : Ins) := by simp [saysI, k1]
    rw [e]; exact says_1 w h0 h1 W (beqF k0) (beqT k1)
  by_cases k3 : fld w 27 25 = 3
  · by_cases p : bt w 4 = true
    · have e : saysI w = mediaI w ({ zIns with cond := fld w 31 28 } : Ins) := by simp [saysI, k3, p]
      rw [e]; exact says_3t w h0 h1 W (beqF k0) (beqF k1) (beqT k3) p
    · have e : saysI w = singleI w ({ zIns with cond := fld w 31 28 } : Ins) := by simp [saysI, k3, p]
      rw [e]; exact says_3f w h0 h1 W (beqF k0) (beqF k1) (beqT k3) (btF p)
  by_cases k2 : fld w 27 25 = 2
  · have e : saysI w = singleI w ({ zIns with cond := fld w 31 28 } : Ins) := by simp [saysI, k2]
    rw [e]; exact says_2 w h0 h1 W (beqF k0) (beqF k1) (beqF k3) (beqT k2)
  have e : saysI w = restI w ({ zIns with cond := fld w 31 28 } : Ins) := by simp [saysI, k0, k1, k2, k3]
  rw [e]; exact says_4 w h0 h1 W (beqF k0) (beqF k1) (beqF k3) (beqF k2)
end Go.Proofs.Ytpfhplhamnohjaa
namespace Go.Proofs.Ytpfhplhamnohjaa
set_option maxHeartbeats 25600000
set_option maxRecDepth 100000
open Go.RowKit

theorem any15_is (g : Nat) (x0 x1 x2 x3 : Int) (W : World) (c0 : W.cell? ⟨g, 0, none⟩ = some (.int .i64 x0)) (c1 : W.cell? ⟨g, 1, none⟩ = some (.int .i64 x1))
    (c2 : W.cell? ⟨g, 2, none⟩ = some (.int .i64 x2)) (c3 : W.cell? ⟨g, 3, none⟩ = some (.int .i64 x3)) :
    Calls Try.prog 45 #[.slice (some ⟨g, 0, none⟩) 4 4] W fun e w' => e = .returned (.bool (decide (x0 = 15) || decide (x1 = 15) || decide (x2 = 15) || decide (x3 = 15))) ∧ W = w' := by
  by_cases e0 : x0 = 15
  · have d0 : (x0 == 15) = true := by simp [e0]
    have HE := Lib.hid (show (decide (x0 = 15) || decide (x1 = 15) || decide (x2 = 15) || decide (x3 = 15)) = true by simp [e0])
    clear e0
    go_enter Try.func45, Try.ntmps45
    go_wp2
    refine wp_loop_rounds 5 ?_
    rw [rounds_succ]
    go_wp2
    go_ret
    exact ⟨by rw [HE.out]; rfl, rfl⟩
  have d0 : (x0 == 15) = false := by simp [e0]
  by_cases e1 : x1 = 15
  · have d1 : (x1 == 15) = true := by simp [e1]
    have HE := Lib.hid (show (decide (x0 = 15) || decide (x1 = 15) || decide (x2 = 15) || decide (x3 = 15)) = true by simp [e1])
    clear e0 e1
    go_enter Try.func45, Try.ntmps45
    go_wp2
    refine wp_loop_rounds 5 ?_
    rw [rounds_succ]
    go_wp2
    rw [rounds_succ]
    go_wp2
    go_ret
    exact ⟨by rw [HE.out]; rfl, rfl⟩
  have d1 : (x1 == 15) = false := by simp [e1]
  by_cases e2 : x2 = 15
  · have d2 : (x2 == 15) = true := by simp [e2]
    have HE := Lib.hid (show (decide (x0 = 15) || decide (x1 = 15) || decide (x2 = 15) || decide (x3 = 15)) = true by simp [e2])
    clear e0 e1 e2
    go_enter Try.func45, Try.ntmps45
    go_wp2
    refine wp_loop_rounds 5 ?_
    rw [rounds_succ]
    go_wp2
    rw [rounds_succ]
    go_wp2
    rw [rounds_succ]
    go_wp2
    go_ret
    exact ⟨by rw [HE.out]; rfl, rfl⟩
  have d2 : (x2 == 15) = false := by simp [e2]
  have HE := Lib.hid (show (decide (x0 = 15) || decide (x1 = 15) || decide (x2 = 15) || decide (x3 = 15)) = (x3 == 15) by simp [e0, e1, e2]; rfl)
  clear e0 e1 e2
  cases d3 : (x3 == 15)
  · rw [d3] at HE
    go_enter Try.func45, Try.ntmps45
    go_wp2
    refine wp_loop_rounds 5 ?_
    rw [rounds_succ]
    go_wp2
    rw [rounds_succ]
    go_wp2
    rw [rounds_succ]
    go_wp2
    rw [rounds_succ]
    go_wp2
    rw [rounds_succ]
    go_wp2
    go_ret
    exact ⟨by rw [HE.out]; rfl, rfl⟩
  · rw [d3] at HE
    go_enter Try.func45, Try.ntmps45
    go_wp2
    refine wp_loop_rounds 5 ?_
    rw [rounds_succ]
    go_wp2
    rw [rounds_succ]
    go_wp2
    rw [rounds_succ]
    go_wp2
    rw [rounds_succ]
    go_wp2
    go_ret
    exact ⟨by rw [HE.out]; rfl, rfl⟩
end Go.Proofs.Ytpfhplhamnohjaa
