/- Layer 19: may whole; Decode. Layer 19: Decode. -/
import Derived.Test.YtpfhplhamnohjaaUIsmm
namespace Go.Proofs.Ytpfhplhamnohjaa
open Go.RowKit

theorem wrap16u (n : Int) (h0 : 0 ≤ n) (h1 : n < 65536) : IntKind.u16.wrap n = n := by rw [IntKind.wrap_u16]; omega
theorem and16_1 (v : Int) (h0 : 0 ≤ v) (h1 : v < 65536) : bits .and .u16 v 1 = v % 2 := by
  have := bits_mask .u16 16 (by decide) (fun n h0 h1 => wrap16u n h0 (by simpa using h1)) 1 (by decide) v h0 (by simpa using h1)
  simpa using this
theorem inlist (l n : Int) (l0 : 0 ≤ l) (l1 : l < 65536) : (bits .and .u16 (l / 2 ^ n.toNat) 1 == 1) = decide (l / 2 ^ n.toNat % 2 = 1) := by
  have hp : (0 : Int) < 2 ^ n.toNat := Int.pow_pos (by decide)
  have h0 : 0 ≤ l / 2 ^ n.toNat := Int.ediv_nonneg l0 (by omega)
  have h1 : l / 2 ^ n.toNat < 65536 := Int.lt_of_le_of_lt (Int.ediv_le_self _ l0) l1
  rw [and16_1 _ h0 h1]
  rfl
theorem may_is (i : Ins) (l0 : 0 ≤ i.list) (l1 : i.list < 65536) (r0 : 0 ≤ i.rn) (r1 : i.rn < 16) (W : World) :
    Calls Try.prog 33 #[(.agg (insA i))] W fun e w' => e = .returned (.bool (mayB i)) ∧ Below W.heap.size W w' := by
  have HX := inlist i.list i.rn l0 l1
  rcases Bool.eq_false_or_eq_true (i.cond == 15) with q0 | q0
  · have p0 := eq_of_beq q0
    have e : mayB i = false := by rw [Bool.eq_iff_iff]; simp [mayB, *]
    rw [e]; exact may_a1 i W q0
  · rcases Bool.eq_false_or_eq_true (i.op == 0) with q1 | q1
    · have p0 := ne_of_beq_false q0
      have p1 := eq_of_beq q1
      have e : mayB i = false := by rw [Bool.eq_iff_iff]; simp [mayB, *]
      rw [e]; exact may_a2 i W q0 q1
    · rcases Bool.eq_false_or_eq_true (decide (i.op ≤ 16)) with q2 | q2
      · rcases Bool.eq_false_or_eq_true (i.form != 3) with q3 | q3
        · have p0 := ne_of_beq_false q0
          have p1 := ne_of_beq_false q1
          have p2 := of_decide_eq_true q2
          have p3 : ¬ i.form = 3 := by simpa using q3
          have e : mayB i = true := by rw [Bool.eq_iff_iff]; simp [mayB, *]
          rw [e]; exact may_b1 i W q0 q1 q2 q3
        · have p0 := ne_of_beq_false q0
          have p1 := ne_of_beq_false q1
          have p2 := of_decide_eq_true q2
          have p3 : i.form = 3 := by simpa using q3
          have e : mayB i = (!decide (i.rd = 15) && !decide (i.rn = 15) && !decide (i.rm = 15) && !decide (i.rs = 15)) := by rw [Bool.eq_iff_iff]; simp [mayB, *]
          rw [e]; exact may_b2 i W q0 q1 q2 q3
      · rcases Bool.eq_false_or_eq_true (decide (i.op ≤ 30)) with q3 | q3
        · rcases Bool.eq_false_or_eq_true ((decide (i.rd = 15) || decide (i.rm = 15) || decide (i.rs = 15) || decide (i.ra = 15))) with q4 | q4
          · have p0 := ne_of_beq_false q0
            have p1 := ne_of_beq_false q1
            have p2 := of_decide_eq_false q2
            have p3 := of_decide_eq_true q3
            have e : mayB i = false := by
              simp only [Bool.or_eq_true, decide_eq_true_eq] at q4
              simp [mayB, *]
              rcases q4 with ((h | h) | h) | h <;> simp [h]
            rw [e]; exact may_c1 i W q0 q1 q2 q3 q4
          · rcases Bool.eq_false_or_eq_true (wideB i.op) with q5 | q5
            · have p0 := ne_of_beq_false q0
              have p1 := ne_of_beq_false q1
              have p2 := of_decide_eq_false q2
              have p3 := of_decide_eq_true q3
              have p5 := q5
              have e : mayB i = (i.rd != i.ra) := by
                simp only [Bool.or_eq_false_iff, decide_eq_false_iff_not] at q4
                rw [Bool.eq_iff_iff]; simp [mayB, *]
              rw [e]; exact may_c3 i W q0 q1 q2 q3 q4 q5
            · have p0 := ne_of_beq_false q0
              have p1 := ne_of_beq_false q1
              have p2 := of_decide_eq_false q2
              have p3 := of_decide_eq_true q3
              have p5 := q5
              have e : mayB i = true := by
                simp only [Bool.or_eq_false_iff, decide_eq_false_iff_not] at q4
                rw [Bool.eq_iff_iff]; simp [mayB, *]
              rw [e]; exact may_c2 i W q0 q1 q2 q3 q4 q5
        · rcases Bool.eq_false_or_eq_true (decide (i.op ≤ 38)) with q4 | q4
          · rcases Bool.eq_false_or_eq_true (i.write) with q5 | q5
            · rcases Bool.eq_false_or_eq_true (i.pre) with q6 | q6
              · rcases Bool.eq_false_or_eq_true (i.rn == 15) with q7 | q7
                · have p0 := ne_of_beq_false q0
                  have p1 := ne_of_beq_false q1
                  have p2 := of_decide_eq_false q2
                  have p3 := of_decide_eq_false q3
                  have p4 := of_decide_eq_true q4
                  have p5 := q5
                  have p6 := q6
                  have p7 := eq_of_beq q7
                  have e : mayB i = false := by rw [Bool.eq_iff_iff]; simp [mayB, *]
                  rw [e]; exact may_d2a i W q0 q1 q2 q3 q4 q5 q6 q7
                · rcases Bool.eq_false_or_eq_true (i.rn == i.rd) with q8 | q8
                  · have p0 := ne_of_beq_false q0
                    have p1 := ne_of_beq_false q1
                    have p2 := of_decide_eq_false q2
                    have p3 := of_decide_eq_false q3
                    have p4 := of_decide_eq_true q4
                    have p5 := q5
                    have p6 := q6
                    have p7 := ne_of_beq_false q7
                    have p8 := eq_of_beq q8
                    have e : mayB i = false := by rw [Bool.eq_iff_iff]; simp [mayB, *]
                    rw [e]; exact may_d2b i W q0 q1 q2 q3 q4 q5 q6 q7 q8
                  · rcases Bool.eq_false_or_eq_true (i.form == 2) with q9 | q9
                    · rcases Bool.eq_false_or_eq_true (i.rm == 15) with q10 | q10
                      · have p0 := ne_of_beq_false q0
                        have p1 := ne_of_beq_false q1
                        have p2 := of_decide_eq_false q2
                        have p3 := of_decide_eq_false q3
                        have p4 := of_decide_eq_true q4
                        have p5 := q5
                        have p6 := q6
                        have p7 := ne_of_beq_false q7
                        have p8 := ne_of_beq_false q8
                        have p9 := eq_of_beq q9
                        have p10 := eq_of_beq q10
                        have e : mayB i = false := by rw [Bool.eq_iff_iff]; simp [mayB, *]
                        rw [e]; exact may_d2z i W q0 q1 q2 q3 q4 q5 q6 q7 q8 q9 q10
                      · rcases Bool.eq_false_or_eq_true (i.rd != 15) with q11 | q11
                        · have p0 := ne_of_beq_false q0
                          have p1 := ne_of_beq_false q1
                          have p2 := of_decide_eq_false q2
                          have p3 := of_decide_eq_false q3
                          have p4 := of_decide_eq_true q4
                          have p5 := q5
                          have p6 := q6
                          have p7 := ne_of_beq_false q7
                          have p8 := ne_of_beq_false q8
                          have p9 := eq_of_beq q9
                          have p10 := ne_of_beq_false q10
                          have p11 : ¬ i.rd = 15 := by simpa using q11
                          have e : mayB i = true := by rw [Bool.eq_iff_iff]; simp [mayB, *]
                          rw [e]; exact may_d2x1 i W q0 q1 q2 q3 q4 q5 q6 q7 q8 q9 q10 q11
                        · have p0 := ne_of_beq_false q0
                          have p1 := ne_of_beq_false q1
                          have p2 := of_decide_eq_false q2
                          have p3 := of_decide_eq_false q3
                          have p4 := of_decide_eq_true q4
                          have p5 := q5
                          have p6 := q6
                          have p7 := ne_of_beq_false q7
                          have p8 := ne_of_beq_false q8
                          have p9 := eq_of_beq q9
                          have p10 := ne_of_beq_false q10
                          have p11 : i.rd = 15 := by simpa using q11
                          have e : mayB i = (i.op == 31) := by rw [Bool.eq_iff_iff]; simp [mayB, *]
                          rw [e]; exact may_d2x2 i W q0 q1 q2 q3 q4 q5 q6 q7 q8 q9 q10 q11
                    · rcases Bool.eq_false_or_eq_true (i.rd != 15) with q10 | q10
                      · have p0 := ne_of_beq_false q0
                        have p1 := ne_of_beq_false q1
                        have p2 := of_decide_eq_false q2
                        have p3 := of_decide_eq_false q3
                        have p4 := of_decide_eq_true q4
                        have p5 := q5
                        have p6 := q6
                        have p7 := ne_of_beq_false q7
                        have p8 := ne_of_beq_false q8
                        have p9 := ne_of_beq_false q9
                        have p10 : ¬ i.rd = 15 := by simpa using q10
                        have e : mayB i = true := by rw [Bool.eq_iff_iff]; simp [mayB, *]
                        rw [e]; exact may_d2y1 i W q0 q1 q2 q3 q4 q5 q6 q7 q8 q9 q10
                      · have p0 := ne_of_beq_false q0
                        have p1 := ne_of_beq_false q1
                        have p2 := of_decide_eq_false q2
                        have p3 := of_decide_eq_false q3
                        have p4 := of_decide_eq_true q4
                        have p5 := q5
                        have p6 := q6
                        have p7 := ne_of_beq_false q7
                        have p8 := ne_of_beq_false q8
                        have p9 := ne_of_beq_false q9
                        have p10 : i.rd = 15 := by simpa using q10
                        have e : mayB i = (i.op == 31) := by rw [Bool.eq_iff_iff]; simp [mayB, *]
                        rw [e]; exact may_d2y2 i W q0 q1 q2 q3 q4 q5 q6 q7 q8 q9 q10
              · have p0 := ne_of_beq_false q0
                have p1 := ne_of_beq_false q1
                have p2 := of_decide_eq_false q2
                have p3 := of_decide_eq_false q3
                have p4 := of_decide_eq_true q4
                have p5 := q5
                have p6 := q6
                have e : mayB i = false := by rw [Bool.eq_iff_iff]; simp [mayB, *]
                rw [e]; exact may_d1 i W q0 q1 q2 q3 q4 q5 q6
            · rcases Bool.eq_false_or_eq_true (i.pre) with q6 | q6
              · rcases Bool.eq_false_or_eq_true (i.form == 2) with q7 | q7
                · rcases Bool.eq_false_or_eq_true (i.rm == 15) with q8 | q8
                  · have p0 := ne_of_beq_false q0
                    have p1 := ne_of_beq_false q1
                    have p2 := of_decide_eq_false q2
                    have p3 := of_decide_eq_false q3
                    have p4 := of_decide_eq_true q4
                    have p5 := q5
                    have p6 := q6
                    have p7 := eq_of_beq q7
                    have p8 := eq_of_beq q8
                    have e : mayB i = false := by rw [Bool.eq_iff_iff]; simp [mayB, *]
                    rw [e]; exact may_d4z i W q0 q1 q2 q3 q4 q5 q6 q7 q8
                  · rcases Bool.eq_false_or_eq_true (i.rd != 15) with q9 | q9
                    · have p0 := ne_of_beq_false q0
                      have p1 := ne_of_beq_false q1
                      have p2 := of_decide_eq_false q2
                      have p3 := of_decide_eq_false q3
                      have p4 := of_decide_eq_true q4
                      have p5 := q5
                      have p6 := q6
                      have p7 := eq_of_beq q7
                      have p8 := ne_of_beq_false q8
                      have p9 : ¬ i.rd = 15 := by simpa using q9
                      have e : mayB i = true := by rw [Bool.eq_iff_iff]; simp [mayB, *]
                      rw [e]; exact may_d4x1 i W q0 q1 q2 q3 q4 q5 q6 q7 q8 q9
                    · have p0 := ne_of_beq_false q0
                      have p1 := ne_of_beq_false q1
                      have p2 := of_decide_eq_false q2
                      have p3 := of_decide_eq_false q3
                      have p4 := of_decide_eq_true q4
                      have p5 := q5
                      have p6 := q6
                      have p7 := eq_of_beq q7
                      have p8 := ne_of_beq_false q8
                      have p9 : i.rd = 15 := by simpa using q9
                      have e : mayB i = (i.op == 31) := by rw [Bool.eq_iff_iff]; simp [mayB, *]
                      rw [e]; exact may_d4x2 i W q0 q1 q2 q3 q4 q5 q6 q7 q8 q9
                · rcases Bool.eq_false_or_eq_true (i.rd != 15) with q8 | q8
                  · have p0 := ne_of_beq_false q0
                    have p1 := ne_of_beq_false q1
                    have p2 := of_decide_eq_false q2
                    have p3 := of_decide_eq_false q3
                    have p4 := of_decide_eq_true q4
                    have p5 := q5
                    have p6 := q6
                    have p7 := ne_of_beq_false q7
                    have p8 : ¬ i.rd = 15 := by simpa using q8
                    have e : mayB i = true := by rw [Bool.eq_iff_iff]; simp [mayB, *]
                    rw [e]; exact may_d4y1 i W q0 q1 q2 q3 q4 q5 q6 q7 q8
                  · have p0 := ne_of_beq_false q0
                    have p1 := ne_of_beq_false q1
                    have p2 := of_decide_eq_false q2
                    have p3 := of_decide_eq_false q3
                    have p4 := of_decide_eq_true q4
                    have p5 := q5
                    have p6 := q6
                    have p7 := ne_of_beq_false q7
                    have p8 : i.rd = 15 := by simpa using q8
                    have e : mayB i = (i.op == 31) := by rw [Bool.eq_iff_iff]; simp [mayB, *]
                    rw [e]; exact may_d4y2 i W q0 q1 q2 q3 q4 q5 q6 q7 q8
              · rcases Bool.eq_false_or_eq_true (i.rn == 15) with q7 | q7
                · have p0 := ne_of_beq_false q0
                  have p1 := ne_of_beq_false q1
                  have p2 := of_decide_eq_false q2
                  have p3 := of_decide_eq_false q3
                  have p4 := of_decide_eq_true q4
                  have p5 := q5
                  have p6 := q6
                  have p7 := eq_of_beq q7
                  have e : mayB i = false := by rw [Bool.eq_iff_iff]; simp [mayB, *]
                  rw [e]; exact may_d3a i W q0 q1 q2 q3 q4 q5 q6 q7
                · rcases Bool.eq_false_or_eq_true (i.rn == i.rd) with q8 | q8
                  · have p0 := ne_of_beq_false q0
                    have p1 := ne_of_beq_false q1
                    have p2 := of_decide_eq_false q2
                    have p3 := of_decide_eq_false q3
                    have p4 := of_decide_eq_true q4
                    have p5 := q5
                    have p6 := q6
                    have p7 := ne_of_beq_false q7
                    have p8 := eq_of_beq q8
                    have e : mayB i = false := by rw [Bool.eq_iff_iff]; simp [mayB, *]
                    rw [e]; exact may_d3b i W q0 q1 q2 q3 q4 q5 q6 q7 q8
                  · rcases Bool.eq_false_or_eq_true (i.form == 2) with q9 | q9
                    · rcases Bool.eq_false_or_eq_true (i.rm == 15) with q10 | q10
                      · have p0 := ne_of_beq_false q0
                        have p1 := ne_of_beq_false q1
                        have p2 := of_decide_eq_false q2
                        have p3 := of_decide_eq_false q3
                        have p4 := of_decide_eq_true q4
                        have p5 := q5
                        have p6 := q6
                        have p7 := ne_of_beq_false q7
                        have p8 := ne_of_beq_false q8
                        have p9 := eq_of_beq q9
                        have p10 := eq_of_beq q10
                        have e : mayB i = false := by rw [Bool.eq_iff_iff]; simp [mayB, *]
                        rw [e]; exact may_d3z i W q0 q1 q2 q3 q4 q5 q6 q7 q8 q9 q10
                      · rcases Bool.eq_false_or_eq_true (i.rd != 15) with q11 | q11
                        · have p0 := ne_of_beq_false q0
                          have p1 := ne_of_beq_false q1
                          have p2 := of_decide_eq_false q2
                          have p3 := of_decide_eq_false q3
                          have p4 := of_decide_eq_true q4
                          have p5 := q5
                          have p6 := q6
                          have p7 := ne_of_beq_false q7
                          have p8 := ne_of_beq_false q8
                          have p9 := eq_of_beq q9
                          have p10 := ne_of_beq_false q10
                          have p11 : ¬ i.rd = 15 := by simpa using q11
                          have e : mayB i = true := by rw [Bool.eq_iff_iff]; simp [mayB, *]
                          rw [e]; exact may_d3x1 i W q0 q1 q2 q3 q4 q5 q6 q7 q8 q9 q10 q11
                        · have p0 := ne_of_beq_false q0
                          have p1 := ne_of_beq_false q1
                          have p2 := of_decide_eq_false q2
                          have p3 := of_decide_eq_false q3
                          have p4 := of_decide_eq_true q4
                          have p5 := q5
                          have p6 := q6
                          have p7 := ne_of_beq_false q7
                          have p8 := ne_of_beq_false q8
                          have p9 := eq_of_beq q9
                          have p10 := ne_of_beq_false q10
                          have p11 : i.rd = 15 := by simpa using q11
                          have e : mayB i = (i.op == 31) := by rw [Bool.eq_iff_iff]; simp [mayB, *]
                          rw [e]; exact may_d3x2 i W q0 q1 q2 q3 q4 q5 q6 q7 q8 q9 q10 q11
                    · rcases Bool.eq_false_or_eq_true (i.rd != 15) with q10 | q10
                      · have p0 := ne_of_beq_false q0
                        have p1 := ne_of_beq_false q1
                        have p2 := of_decide_eq_false q2
                        have p3 := of_decide_eq_false q3
                        have p4 := of_decide_eq_true q4
                        have p5 := q5
                        have p6 := q6
                        have p7 := ne_of_beq_false q7
                        have p8 := ne_of_beq_false q8
                        have p9 := ne_of_beq_false q9
                        have p10 : ¬ i.rd = 15 := by simpa using q10
                        have e : mayB i = true := by rw [Bool.eq_iff_iff]; simp [mayB, *]
                        rw [e]; exact may_d3y1 i W q0 q1 q2 q3 q4 q5 q6 q7 q8 q9 q10
                      · have p0 := ne_of_beq_false q0
                        have p1 := ne_of_beq_false q1
                        have p2 := of_decide_eq_false q2
                        have p3 := of_decide_eq_false q3
                        have p4 := of_decide_eq_true q4
                        have p5 := q5
                        have p6 := q6
                        have p7 := ne_of_beq_false q7
                        have p8 := ne_of_beq_false q8
                        have p9 := ne_of_beq_false q9
                        have p10 : i.rd = 15 := by simpa using q10
                        have e : mayB i = (i.op == 31) := by rw [Bool.eq_iff_iff]; simp [mayB, *]
                        rw [e]; exact may_d3y2 i W q0 q1 q2 q3 q4 q5 q6 q7 q8 q9 q10
          · rcases Bool.eq_false_or_eq_true (decide (i.op ≤ 40)) with q5 | q5
            · rcases Bool.eq_false_or_eq_true (i.list != 0) with q6 | q6
              · rcases Bool.eq_false_or_eq_true (i.rn != 15) with q7 | q7
                · rcases Bool.eq_false_or_eq_true (i.write) with q8 | q8
                  · rcases Bool.eq_false_or_eq_true (bits .and .u16 (i.list / 2 ^ i.rn.toNat) 1 == 1) with q9 | q9
                    · have p0 := ne_of_beq_false q0
                      have p1 := ne_of_beq_false q1
                      have p2 := of_decide_eq_false q2
                      have p3 := of_decide_eq_false q3
                      have p4 := of_decide_eq_false q4
                      have p5 := of_decide_eq_true q5
                      have p6 : ¬ i.list = 0 := by simpa using q6
                      have p7 : ¬ i.rn = 15 := by simpa using q7
                      have p8 := q8
                      have p9 := q9; rw [HX] at p9; simp only [decide_eq_true_eq] at p9
                      have e : mayB i = false := by rw [Bool.eq_iff_iff]; simp [mayB, *]
                      rw [e]; exact may_e3 i W r0 r1 q0 q1 q2 q3 q4 q5 q6 q7 q8 q9
                    · rcases Bool.eq_false_or_eq_true (i.op == 40) with q10 | q10
                      · have p0 := ne_of_beq_false q0
                        have p1 := ne_of_beq_false q1
                        have p2 := of_decide_eq_false q2
                        have p3 := of_decide_eq_false q3
                        have p4 := of_decide_eq_false q4
                        have p5 := of_decide_eq_true q5
                        have p6 : ¬ i.list = 0 := by simpa using q6
                        have p7 : ¬ i.rn = 15 := by simpa using q7
                        have p8 := q8
                        have p9 := q9; rw [HX] at p9; simp only [decide_eq_false_iff_not] at p9
                        have p10 := eq_of_beq q10
                        have e : mayB i = (!(i.list / 32768 == 1)) := by rw [Bool.eq_iff_iff]; simp [mayB, *]
                        rw [e]; exact may_e5b i W r0 r1 q0 q1 q2 q3 q4 q5 q6 q7 q8 q9 q10
                      · have p0 := ne_of_beq_false q0
                        have p1 := ne_of_beq_false q1
                        have p2 := of_decide_eq_false q2
                        have p3 := of_decide_eq_false q3
                        have p4 := of_decide_eq_false q4
                        have p5 := of_decide_eq_true q5
                        have p6 : ¬ i.list = 0 := by simpa using q6
                        have p7 : ¬ i.rn = 15 := by simpa using q7
                        have p8 := q8
                        have p9 := q9; rw [HX] at p9; simp only [decide_eq_false_iff_not] at p9
                        have p10 := ne_of_beq_false q10
                        have e : mayB i = true := by rw [Bool.eq_iff_iff]; simp [mayB, *]
                        rw [e]; exact may_e5a i W r0 r1 q0 q1 q2 q3 q4 q5 q6 q7 q8 q9 q10
                  · rcases Bool.eq_false_or_eq_true (i.op == 40) with q9 | q9
                    · have p0 := ne_of_beq_false q0
                      have p1 := ne_of_beq_false q1
                      have p2 := of_decide_eq_false q2
                      have p3 := of_decide_eq_false q3
                      have p4 := of_decide_eq_false q4
                      have p5 := of_decide_eq_true q5
                      have p6 : ¬ i.list = 0 := by simpa using q6
                      have p7 : ¬ i.rn = 15 := by simpa using q7
                      have p8 := q8
                      have p9 := eq_of_beq q9
                      have e : mayB i = (!(i.list / 32768 == 1)) := by rw [Bool.eq_iff_iff]; simp [mayB, *]
                      rw [e]; exact may_e4b i W r0 r1 q0 q1 q2 q3 q4 q5 q6 q7 q8 q9
                    · have p0 := ne_of_beq_false q0
                      have p1 := ne_of_beq_false q1
                      have p2 := of_decide_eq_false q2
                      have p3 := of_decide_eq_false q3
                      have p4 := of_decide_eq_false q4
                      have p5 := of_decide_eq_true q5
                      have p6 : ¬ i.list = 0 := by simpa using q6
                      have p7 : ¬ i.rn = 15 := by simpa using q7
                      have p8 := q8
                      have p9 := ne_of_beq_false q9
                      have e : mayB i = true := by rw [Bool.eq_iff_iff]; simp [mayB, *]
                      rw [e]; exact may_e4a i W r0 r1 q0 q1 q2 q3 q4 q5 q6 q7 q8 q9
                · have p0 := ne_of_beq_false q0
                  have p1 := ne_of_beq_false q1
                  have p2 := of_decide_eq_false q2
                  have p3 := of_decide_eq_false q3
                  have p4 := of_decide_eq_false q4
                  have p5 := of_decide_eq_true q5
                  have p6 : ¬ i.list = 0 := by simpa using q6
                  have p7 : i.rn = 15 := by simpa using q7
                  have e : mayB i = false := by rw [Bool.eq_iff_iff]; simp [mayB, *]
                  rw [e]; exact may_e2 i W r0 r1 q0 q1 q2 q3 q4 q5 q6 q7
              · have p0 := ne_of_beq_false q0
                have p1 := ne_of_beq_false q1
                have p2 := of_decide_eq_false q2
                have p3 := of_decide_eq_false q3
                have p4 := of_decide_eq_false q4
                have p5 := of_decide_eq_true q5
                have p6 : i.list = 0 := by simpa using q6
                have e : mayB i = false := by rw [Bool.eq_iff_iff]; simp [mayB, *]
                rw [e]; exact may_e1 i W r0 r1 q0 q1 q2 q3 q4 q5 q6
            · rcases Bool.eq_false_or_eq_true (i.op == 43) with q6 | q6
              · have p0 := ne_of_beq_false q0
                have p1 := ne_of_beq_false q1
                have p2 := of_decide_eq_false q2
                have p3 := of_decide_eq_false q3
                have p4 := of_decide_eq_false q4
                have p5 := of_decide_eq_false q5
                have p6 := eq_of_beq q6
                have e : mayB i = (i.rm != 15) := by rw [Bool.eq_iff_iff]; simp [mayB, *]
                rw [e]; exact may_k1 i W q0 q1 q2 q3 q4 q5 q6
              · rcases Bool.eq_false_or_eq_true (i.op == 44) with q7 | q7
                · have p0 := ne_of_beq_false q0
                  have p1 := ne_of_beq_false q1
                  have p2 := of_decide_eq_false q2
                  have p3 := of_decide_eq_false q3
                  have p4 := of_decide_eq_false q4
                  have p5 := of_decide_eq_false q5
                  have p6 := ne_of_beq_false q6
                  have p7 := eq_of_beq q7
                  have e : mayB i = (i.rm != 15) := by rw [Bool.eq_iff_iff]; simp [mayB, *]
                  rw [e]; exact may_k2 i W q0 q1 q2 q3 q4 q5 q6 q7
                · rcases Bool.eq_false_or_eq_true (i.op == 47) with q8 | q8
                  · have p0 := ne_of_beq_false q0
                    have p1 := ne_of_beq_false q1
                    have p2 := of_decide_eq_false q2
                    have p3 := of_decide_eq_false q3
                    have p4 := of_decide_eq_false q4
                    have p5 := of_decide_eq_false q5
                    have p6 := ne_of_beq_false q6
                    have p7 := ne_of_beq_false q7
                    have p8 := eq_of_beq q8
                    have e : mayB i = (i.rd != 15) := by rw [Bool.eq_iff_iff]; simp [mayB, *]
                    rw [e]; exact may_k3 i W q0 q1 q2 q3 q4 q5 q6 q7 q8
                  · rcases Bool.eq_false_or_eq_true (i.op == 49) with q9 | q9
                    · have p0 := ne_of_beq_false q0
                      have p1 := ne_of_beq_false q1
                      have p2 := of_decide_eq_false q2
                      have p3 := of_decide_eq_false q3
                      have p4 := of_decide_eq_false q4
                      have p5 := of_decide_eq_false q5
                      have p6 := ne_of_beq_false q6
                      have p7 := ne_of_beq_false q7
                      have p8 := ne_of_beq_false q8
                      have p9 := eq_of_beq q9
                      have e : mayB i = (i.rd != 15) := by rw [Bool.eq_iff_iff]; simp [mayB, *]
                      rw [e]; exact may_k4 i W q0 q1 q2 q3 q4 q5 q6 q7 q8 q9
                    · rcases Bool.eq_false_or_eq_true (i.op == 50) with q10 | q10
                      · have p0 := ne_of_beq_false q0
                        have p1 := ne_of_beq_false q1
                        have p2 := of_decide_eq_false q2
                        have p3 := of_decide_eq_false q3
                        have p4 := of_decide_eq_false q4
                        have p5 := of_decide_eq_false q5
                        have p6 := ne_of_beq_false q6
                        have p7 := ne_of_beq_false q7
                        have p8 := ne_of_beq_false q8
                        have p9 := ne_of_beq_false q9
                        have p10 := eq_of_beq q10
                        have e : mayB i = (i.rd != 15) := by rw [Bool.eq_iff_iff]; simp [mayB, *]
                        rw [e]; exact may_k5 i W q0 q1 q2 q3 q4 q5 q6 q7 q8 q9 q10
                      · rcases Bool.eq_false_or_eq_true (i.op == 48) with q11 | q11
                        · rcases Bool.eq_false_or_eq_true (i.amount != 0) with q12 | q12
                          · have p0 := ne_of_beq_false q0
                            have p1 := ne_of_beq_false q1
                            have p2 := of_decide_eq_false q2
                            have p3 := of_decide_eq_false q3
                            have p4 := of_decide_eq_false q4
                            have p5 := of_decide_eq_false q5
                            have p6 := ne_of_beq_false q6
                            have p7 := ne_of_beq_false q7
                            have p8 := ne_of_beq_false q8
                            have p9 := ne_of_beq_false q9
                            have p10 := ne_of_beq_false q10
                            have p11 := eq_of_beq q11
                            have p12 : ¬ i.amount = 0 := by simpa using q12
                            have e : mayB i = (i.rm != 15) := by rw [Bool.eq_iff_iff]; simp [mayB, *]
                            rw [e]; exact may_k7 i W q0 q1 q2 q3 q4 q5 q6 q7 q8 q9 q10 q11 q12
                          · have p0 := ne_of_beq_false q0
                            have p1 := ne_of_beq_false q1
                            have p2 := of_decide_eq_false q2
                            have p3 := of_decide_eq_false q3
                            have p4 := of_decide_eq_false q4
                            have p5 := of_decide_eq_false q5
                            have p6 := ne_of_beq_false q6
                            have p7 := ne_of_beq_false q7
                            have p8 := ne_of_beq_false q8
                            have p9 := ne_of_beq_false q9
                            have p10 := ne_of_beq_false q10
                            have p11 := eq_of_beq q11
                            have p12 : i.amount = 0 := by simpa using q12
                            have e : mayB i = false := by rw [Bool.eq_iff_iff]; simp [mayB, *]
                            rw [e]; exact may_k6 i W q0 q1 q2 q3 q4 q5 q6 q7 q8 q9 q10 q11 q12
                        · rcases Bool.eq_false_or_eq_true (i.op == 46) with q12 | q12
                          · have p0 := ne_of_beq_false q0
                            have p1 := ne_of_beq_false q1
                            have p2 := of_decide_eq_false q2
                            have p3 := of_decide_eq_false q3
                            have p4 := of_decide_eq_false q4
                            have p5 := of_decide_eq_false q5
                            have p6 := ne_of_beq_false q6
                            have p7 := ne_of_beq_false q7
                            have p8 := ne_of_beq_false q8
                            have p9 := ne_of_beq_false q9
                            have p10 := ne_of_beq_false q10
                            have p11 := ne_of_beq_false q11
                            have p12 := eq_of_beq q12
                            have e : mayB i = (i.cond == 14) := by rw [Bool.eq_iff_iff]; simp [mayB, *]
                            rw [e]; exact may_k8 i W q0 q1 q2 q3 q4 q5 q6 q7 q8 q9 q10 q11 q12
                          · have p0 := ne_of_beq_false q0
                            have p1 := ne_of_beq_false q1
                            have p2 := of_decide_eq_false q2
                            have p3 := of_decide_eq_false q3
                            have p4 := of_decide_eq_false q4
                            have p5 := of_decide_eq_false q5
                            have p6 := ne_of_beq_false q6
                            have p7 := ne_of_beq_false q7
                            have p8 := ne_of_beq_false q8
                            have p9 := ne_of_beq_false q9
                            have p10 := ne_of_beq_false q10
                            have p11 := ne_of_beq_false q11
                            have p12 := ne_of_beq_false q12
                            have e : mayB i = true := by rw [Bool.eq_iff_iff]; simp [mayB, *]
                            rw [e]; exact may_k9 i W q0 q1 q2 q3 q4 q5 q6 q7 q8 q9 q10 q11 q12
end Go.Proofs.Ytpfhplhamnohjaa
namespace Go.Proofs.Ytpfhplhamnohjaa
set_option maxHeartbeats 25600000
set_option maxRecDepth 100000
open Go.RowKit

def OkI (i : Ins) : Prop := 0 ≤ i.list ∧ i.list < 65536 ∧ 0 ≤ i.rn ∧ i.rn < 16
theorem fld19 (w : Int) : 0 ≤ fld w 19 16 ∧ fld w 19 16 < 16 := by have := fld_le w 19 16; simpa using this
theorem z_ok : OkI zIns := by simp [OkI, zIns]
theorem dataI_ok (w : Int) (i : Ins) (h : OkI i) : OkI (dataI w i) := by
  unfold dataI; dsimp only; split
  · exact z_ok
  · exact ⟨h.1, h.2.1, (fld19 w).1, (fld19 w).2⟩
theorem productI_ok (w : Int) (i : Ins) (h : OkI i) : OkI (productI w i) := by
  unfold productI; dsimp only; (repeat' split) <;> first | exact z_ok | exact ⟨h.1, h.2.1, h.2.2.1, h.2.2.2⟩
theorem halvesI_ok (w : Int) (i : Ins) (h : OkI i) : OkI (halvesI w i) := by
  unfold halvesI; dsimp only; (repeat' split) <;> first | exact z_ok | exact ⟨h.1, h.2.1, (fld19 w).1, (fld19 w).2⟩
theorem specialI_ok (w : Int) (i : Ins) (h : OkI i) : OkI (specialI w i) := by
  unfold specialI; (repeat' split) <;> first | exact z_ok | exact ⟨h.1, h.2.1, h.2.2.1, h.2.2.2⟩
theorem firstI_ok (w : Int) (i : Ins) (h : OkI i) : OkI (firstI w i) := by
  unfold firstI; dsimp only; (repeat' split) <;> first | exact productI_ok w i h | exact halvesI_ok w i h | exact specialI_ok w i h | exact dataI_ok w _ ⟨h.1, h.2.1, h.2.2.1, h.2.2.2⟩
theorem secondI_ok (w : Int) (i : Ins) (h : OkI i) : OkI (secondI w i) := by
  unfold secondI; dsimp only; (repeat' split) <;> first | exact z_ok | exact dataI_ok w _ ⟨h.1, h.2.1, h.2.2.1, h.2.2.2⟩ | exact ⟨h.1, h.2.1, h.2.2.1, h.2.2.2⟩
theorem singleI_ok (w : Int) (i : Ins) (h : OkI i) : OkI (singleI w i) := by
  unfold singleI; dsimp only; split <;> exact ⟨h.1, h.2.1, (fld19 w).1, (fld19 w).2⟩
theorem mediaI_ok (w : Int) (i : Ins) (h : OkI i) : OkI (mediaI w i) := by
  unfold mediaI; dsimp only; (repeat' split) <;> first | exact z_ok | exact ⟨h.1, h.2.1, h.2.2.1, h.2.2.2⟩
theorem restI_ok (w : Int) (i : Ins) (h : OkI i) : OkI (restI w i) := by
  have a : 0 ≤ w % 65536 := by omega
  have b : w % 65536 < 65536 := by omega
  unfold restI; dsimp only; (repeat' split) <;> first | exact z_ok | exact ⟨h.1, h.2.1, h.2.2.1, h.2.2.2⟩ | exact ⟨a, b, (fld19 w).1, (fld19 w).2⟩
theorem saysI_ok (w : Int) : OkI (saysI w) := by
  have h : OkI { zIns with cond := fld w 31 28 } := z_ok
  unfold saysI; dsimp only; (repeat' split) <;> first | exact firstI_ok w _ h | exact secondI_ok w _ h | exact mediaI_ok w _ h | exact singleI_ok w _ h | exact restI_ok w _ h
theorem ret_ins2 {fn : Func} {R : Ending → World → Prop} {a : Act} {w : World} (k u : Nat) (g : Nat) (J : Ins) (b : Value) (hr : fn.results = #[.cell k 61, .tmp u]) (ht : a.tmps.getD k undef = .pointer (some ⟨g, 0, none⟩)) (hv : a.tmps.getD u undef = b)
    (hb : Blok w g 61 (insCells J)) (hdef : a.defers = []) (hR : R (.returned (.tuple #[.agg (insCells J).toArray, b])) w) : bodyPost Try.prog fn R .ret a w := by
  refine bodyPost_ret (v := .tuple #[.agg (insCells J).toArray, b]) ?_ hdef hR
  have ht' : a.tmps[k]?.getD undef = .pointer (some ⟨g, 0, none⟩) := by simpa using ht
  have hv' : a.tmps[u]?.getD undef = b := by simpa using hv
  simp [results, hr, ht', hv', asAddr, run_loadVar_mid w g 0 61 (insCells J) _ hb.range Try.underlying61 rfl (by rw [ins_size, insCells_len])]
theorem Decode_to (b : Bool) (J : Ins) (w : Int) (W : World)
    (SI : Hid (∀ W, Calls Try.prog 32 #[.int .u32 w] W fun e w' => e = .returned (.agg (insCells J).toArray) ∧ Below W.heap.size W w'))
    (MI : Hid (∀ W, Calls Try.prog 33 #[.agg (insCells J).toArray] W fun e w' => e = .returned (.bool b) ∧ Below W.heap.size W w')) :
    Calls Try.prog 20 #[.int .u32 w] W fun e w' => e = .returned (.tuple #[.agg (insCells (if b = true then J else zIns)).toArray, .bool b]) ∧ Below W.heap.size W w' := by
  have hZ : Blok (W.alloc (.cells zInsA 61)) W.heap.size 61 (insCells zIns) := Blok.new W _ (insCells zIns)
  have hB : Below W.heap.size W (W.alloc (.cells zInsA 61)) := (Below.refl _ _).alloc (Nat.le_refl _) _
  go_enter Try.func20, Try.ntmps20
  go_upto_region 1 with fail
  generalize W.alloc (.cells zInsA 61) = W1 at hZ hB ⊢
  have hlt := hZ.lt
  go_upto_region 2 with (first | (go_at_call 32; (with_reducible refine (SI.out _).mono ?_); rintro e w2 ⟨rfl, b2⟩; have hZ2 := hZ.below b2 hlt; have hB2 := bthen hB b2; have hl2 := hZ2.lt) | (refine wpList_store_ins rfl (.tmp 4) (.tmp 6) rfl w2.heap.size J zIns rfl rfl (Blok.new w2 _ (insCells zIns)) ?_; intro w3 B3 g3))
  have hZ3 : Blok w3 W.heap.size 61 (insCells zIns) := (hZ2.alloc _).grown g3 (by simp; omega)
  have hB3 : Below W.heap.size W w3 := bgrow (hB2.alloc (Nat.le_of_lt hl2) _) g3 (Nat.le_of_lt hl2)
  clear hZ hB hlt b2 hZ2 hB2 g3
  generalize w2.heap.size = g at B3 hl2 ⊢
  cases b
  · go_upto_region 3 with (first | (go_at_call 33; (with_reducible refine (MI.out _).mono ?_); rintro e w4 ⟨rfl, b4⟩; have B4 := B3.below b4 B3.lt; have hZ4 := hZ3.below b4 hZ3.lt; have hB4 := bthen hB3 b4) | (refine wpList_load_ins rfl (.tmp 4) rfl g J rfl B3 ?_))
    go_wp2_with (refine wpList_store_ins rfl (.tmp 2) (.tmp 10) rfl W.heap.size zIns zIns rfl rfl hZ4 ?_; intro w5 B5 g5)
    refine ret_ins2 2 3 W.heap.size zIns (.bool false) rfl rfl rfl B5 rfl ⟨rfl, ?_⟩
    exact bgrow hB4 g5 (Nat.le_refl _)
  · go_upto_region 4 with (first | (go_at_call 33; (with_reducible refine (MI.out _).mono ?_); rintro e w4 ⟨rfl, b4⟩; have B4 := B3.below b4 B3.lt; have hZ4 := hZ3.below b4 hZ3.lt; have hB4 := bthen hB3 b4) | (refine wpList_load_ins rfl (.tmp 4) rfl g J rfl B3 ?_))
    go_wp2_with (first | (refine wpList_load_ins rfl (.tmp 4) rfl g J rfl B4 ?_) | (refine wpList_store_ins rfl (.tmp 2) (.tmp 11) rfl W.heap.size J zIns rfl rfl hZ4 ?_; intro w5 B5 g5))
    refine ret_ins2 2 3 W.heap.size J (.bool true) rfl rfl rfl B5 rfl ⟨rfl, ?_⟩
    exact bgrow hB4 g5 (Nat.le_refl _)
theorem Decode_is (w : Int) (h0 : 0 ≤ w) (h1 : w < 4294967296) (W : World) :
    Calls Try.prog 20 #[.int .u32 w] W fun e w' => e = .returned (.tuple #[.agg (insCells (decodeI w).1).toArray, .bool (decodeI w).2]) ∧ Below W.heap.size W w' := by
  have k := saysI_ok w
  have t := Decode_to (mayB (saysI w)) (saysI w) w W (Lib.hid (says_is w h0 h1)) (Lib.hid (fun W => may_is (saysI w) k.1 k.2.1 k.2.2.1 k.2.2.2 W))
  have e : decodeI w = (if mayB (saysI w) = true then saysI w else zIns, mayB (saysI w)) := by
    unfold decodeI; cases mayB (saysI w) <;> simp
  rw [e]; exact t
end Go.Proofs.Ytpfhplhamnohjaa
