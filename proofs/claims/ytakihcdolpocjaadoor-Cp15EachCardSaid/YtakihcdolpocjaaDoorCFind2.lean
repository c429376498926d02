/- What find of the program's coprocessor comes to at the other tuples. -/
import Derived.Test.YtakihcdolpocjaaDoorCFindD
namespace Go.Proofs.YtakihcdolpocjaaDoor
open Go.RowKit

set_option maxHeartbeats 1600000 in
theorem find_a0 (w : World) : Calls Tryd.prog 29 #[.agg #[.int .i64 7, .int .i64 0, .int .i64 8, .int .i64 0]] w fun e w' => ∃ p, e = .returned (.agg #[.func (.func 37) #[] #[.pointer (some ⟨p, 0, none⟩)], .bool false]) ∧ Blok w' p 31 [.int .i64 7, .int .i64 0, .int .i64 8, .int .i64 0] ∧ Below w.heap.size w w' := by
  go_enter Tryd.func29, Tryd.ntmps29
  go_wp2
  refine bodyPost_ret (v := .agg #[.func (.func 37) #[] #[.pointer (some ⟨w.heap.size, 0, none⟩)], .bool false]) (by simp [results, Tryd.results29, go_sem]) rfl ⟨w.heap.size, rfl, ((Blok.new w _ _).alloc _).alloc _, below3 w _ _ _⟩
set_option maxHeartbeats 1600000 in
theorem find_a1 (w : World) : Calls Tryd.prog 29 #[.agg #[.int .i64 7, .int .i64 0, .int .i64 8, .int .i64 1]] w fun e w' => ∃ p, e = .returned (.agg #[.func (.func 37) #[] #[.pointer (some ⟨p, 0, none⟩)], .bool false]) ∧ Blok w' p 31 [.int .i64 7, .int .i64 0, .int .i64 8, .int .i64 1] ∧ Below w.heap.size w w' := by
  go_enter Tryd.func29, Tryd.ntmps29
  go_wp2
  refine bodyPost_ret (v := .agg #[.func (.func 37) #[] #[.pointer (some ⟨w.heap.size, 0, none⟩)], .bool false]) (by simp [results, Tryd.results29, go_sem]) rfl ⟨w.heap.size, rfl, ((Blok.new w _ _).alloc _).alloc _, below3 w _ _ _⟩
set_option maxHeartbeats 1600000 in
theorem find_a2 (w : World) : Calls Tryd.prog 29 #[.agg #[.int .i64 7, .int .i64 0, .int .i64 8, .int .i64 2]] w fun e w' => ∃ p, e = .returned (.agg #[.func (.func 37) #[] #[.pointer (some ⟨p, 0, none⟩)], .bool false]) ∧ Blok w' p 31 [.int .i64 7, .int .i64 0, .int .i64 8, .int .i64 2] ∧ Below w.heap.size w w' := by
  go_enter Tryd.func29, Tryd.ntmps29
  go_wp2
  refine bodyPost_ret (v := .agg #[.func (.func 37) #[] #[.pointer (some ⟨w.heap.size, 0, none⟩)], .bool false]) (by simp [results, Tryd.results29, go_sem]) rfl ⟨w.heap.size, rfl, ((Blok.new w _ _).alloc _).alloc _, below3 w _ _ _⟩
set_option maxHeartbeats 1600000 in
theorem find_a3 (w : World) : Calls Tryd.prog 29 #[.agg #[.int .i64 7, .int .i64 0, .int .i64 8, .int .i64 3]] w fun e w' => ∃ p, e = .returned (.agg #[.func (.func 37) #[] #[.pointer (some ⟨p, 0, none⟩)], .bool false]) ∧ Blok w' p 31 [.int .i64 7, .int .i64 0, .int .i64 8, .int .i64 3] ∧ Below w.heap.size w w' := by
  go_enter Tryd.func29, Tryd.ntmps29
  go_wp2
  refine bodyPost_ret (v := .agg #[.func (.func 37) #[] #[.pointer (some ⟨w.heap.size, 0, none⟩)], .bool false]) (by simp [results, Tryd.results29, go_sem]) rfl ⟨w.heap.size, rfl, ((Blok.new w _ _).alloc _).alloc _, below3 w _ _ _⟩
theorem find_ask (t : Tup) (h : asksB t = true) (w : World) : Calls Tryd.prog 29 #[(.agg #[.int .i64 t.crn, .int .i64 t.op1, .int .i64 t.crm, .int .i64 t.op2])] w fun e w' => ∃ p, e = .returned (.agg #[.func (.func 37) #[] #[.pointer (some ⟨p, 0, none⟩)], .bool false]) ∧ Blok w' p 31 #[.int .i64 t.crn, .int .i64 t.op1, .int .i64 t.crm, .int .i64 t.op2].toList ∧ Below w.heap.size w w' := by
  obtain ⟨a, b, c, d⟩ := t
  simp [asksB] at h
  obtain ⟨⟨⟨⟨rfl, rfl⟩, rfl⟩, h3⟩, h4⟩ := h
  have hd : d = 0 ∨ d = 1 ∨ d = 2 ∨ d = 3 := by omega
  rcases hd with rfl | rfl | rfl | rfl
  · exact find_a0 w
  · exact find_a1 w
  · exact find_a2 w
  · exact find_a3 w
set_option maxHeartbeats 1600000 in
theorem find_b5_4 (w : World) : Calls Tryd.prog 29 #[.agg #[.int .i64 7, .int .i64 0, .int .i64 5, .int .i64 4]] w fun e w' => e = .returned (.agg #[.func (.func 38) #[] #[], .bool true]) ∧ Below w.heap.size w w' := by
  go_enter Tryd.func29, Tryd.ntmps29
  go_wp2
  refine bodyPost_ret (v := .agg #[.func (.func 38) #[] #[], .bool true]) (by simp [results, Tryd.results29, go_sem]) rfl ⟨rfl, below3 w _ _ _⟩
set_option maxHeartbeats 1600000 in
theorem find_b10_4 (w : World) : Calls Tryd.prog 29 #[.agg #[.int .i64 7, .int .i64 0, .int .i64 10, .int .i64 4]] w fun e w' => e = .returned (.agg #[.func (.func 38) #[] #[], .bool true]) ∧ Below w.heap.size w w' := by
  go_enter Tryd.func29, Tryd.ntmps29
  go_wp2
  refine bodyPost_ret (v := .agg #[.func (.func 38) #[] #[], .bool true]) (by simp [results, Tryd.results29, go_sem]) rfl ⟨rfl, below3 w _ _ _⟩
set_option maxHeartbeats 1600000 in
theorem find_b10_5 (w : World) : Calls Tryd.prog 29 #[.agg #[.int .i64 7, .int .i64 0, .int .i64 10, .int .i64 5]] w fun e w' => e = .returned (.agg #[.func (.func 38) #[] #[], .bool true]) ∧ Below w.heap.size w w' := by
  go_enter Tryd.func29, Tryd.ntmps29
  go_wp2
  refine bodyPost_ret (v := .agg #[.func (.func 38) #[] #[], .bool true]) (by simp [results, Tryd.results29, go_sem]) rfl ⟨rfl, below3 w _ _ _⟩
theorem find_bar (t : Tup) (h : barB t = true) (w : World) : Calls Tryd.prog 29 #[(.agg #[.int .i64 t.crn, .int .i64 t.op1, .int .i64 t.crm, .int .i64 t.op2])] w fun e w' => e = .returned (.agg #[.func (.func 38) #[] #[], .bool true]) ∧ Below w.heap.size w w' := by
  obtain ⟨a, b, c, d⟩ := t
  simp [barB] at h
  obtain ⟨⟨rfl, rfl⟩, ⟨rfl, rfl⟩ | ⟨rfl, rfl | rfl⟩⟩ := h
  · exact find_b5_4 w
  · exact find_b10_4 w
  · exact find_b10_5 w
set_option maxHeartbeats 1600000 in
theorem find_n1 (a b c d : Int) (h0 : b ≠ 0) (w : World) : Calls Tryd.prog 29 #[.agg #[.int .i64 a, .int .i64 b, .int .i64 c, .int .i64 d]] w fun e w' => e = .returned (.agg #[.nilFunc, .bool false]) ∧ Below w.heap.size w w' := by
  have f0 : (b != 0) = true := by simpa using h0
  clear h0
  go_enter Tryd.func29, Tryd.ntmps29
  go_wp2
  refine bodyPost_ret (v := .agg #[.nilFunc, .bool false]) (by simp [results, Tryd.results29, go_sem]) rfl ⟨rfl, below3 w _ _ _⟩
set_option maxHeartbeats 1600000 in
theorem find_n2 (a c d : Int) (h0 : d < 0) (w : World) : Calls Tryd.prog 29 #[.agg #[.int .i64 a, .int .i64 0, .int .i64 c, .int .i64 d]] w fun e w' => e = .returned (.agg #[.nilFunc, .bool false]) ∧ Below w.heap.size w w' := by
  have f0 : decide (d < 0) = true := decide_eq_true (by omega)
  clear h0
  go_enter Tryd.func29, Tryd.ntmps29
  go_wp2
  refine bodyPost_ret (v := .agg #[.nilFunc, .bool false]) (by simp [results, Tryd.results29, go_sem]) rfl ⟨rfl, below3 w _ _ _⟩
set_option maxHeartbeats 1600000 in
theorem find_n3 (a c d : Int) (h0 : 0 ≤ d) (h1 : a ≠ 8) (h2 : a ≠ 7) (w : World) : Calls Tryd.prog 29 #[.agg #[.int .i64 a, .int .i64 0, .int .i64 c, .int .i64 d]] w fun e w' => e = .returned (.agg #[.nilFunc, .bool false]) ∧ Below w.heap.size w w' := by
  have f0 : decide (d < 0) = false := decide_eq_false (by omega)
  have f1 : (a == 8) = false := beq_eq_false_iff_ne.2 (by omega)
  have f2 : (a == 7) = false := beq_eq_false_iff_ne.2 (by omega)
  clear h0 h1 h2
  go_enter Tryd.func29, Tryd.ntmps29
  go_wp2
  refine bodyPost_ret (v := .agg #[.nilFunc, .bool false]) (by simp [results, Tryd.results29, go_sem]) rfl ⟨rfl, below3 w _ _ _⟩
set_option maxHeartbeats 1600000 in
theorem find_n4 (c d : Int) (h0 : 4 ≤ d) (w : World) : Calls Tryd.prog 29 #[.agg #[.int .i64 8, .int .i64 0, .int .i64 c, .int .i64 d]] w fun e w' => e = .returned (.agg #[.nilFunc, .bool false]) ∧ Below w.heap.size w w' := by
  have f0 : decide (d < 0) = false := decide_eq_false (by omega)
  have f1 : decide (d < 4) = false := decide_eq_false (by omega)
  clear h0
  go_enter Tryd.func29, Tryd.ntmps29
  go_wp2
  refine bodyPost_ret (v := .agg #[.nilFunc, .bool false]) (by simp [results, Tryd.results29, go_sem]) rfl ⟨rfl, below3 w _ _ _⟩
set_option maxHeartbeats 1600000 in
theorem find_n5 (c : Int) (h0 : c ≠ 3) (h1 : c ≠ 7) (w : World) : Calls Tryd.prog 29 #[.agg #[.int .i64 8, .int .i64 0, .int .i64 c, .int .i64 3]] w fun e w' => e = .returned (.agg #[.nilFunc, .bool false]) ∧ Below w.heap.size w w' := by
  have f0 : (c == 3) = false := beq_eq_false_iff_ne.2 (by omega)
  have f1 : (c == 7) = false := beq_eq_false_iff_ne.2 (by omega)
  clear h0 h1
  go_enter Tryd.func29, Tryd.ntmps29
  go_wp2
  refine bodyPost_ret (v := .agg #[.nilFunc, .bool false]) (by simp [results, Tryd.results29, go_sem]) rfl ⟨rfl, below3 w _ _ _⟩
set_option maxHeartbeats 1600000 in
theorem find_n6 (c d : Int) (h0 : 0 ≤ d) (h1 : d < 3) (h2 : c ≠ 3) (h3 : c ≠ 7) (h4 : c ≠ 5) (h5 : c ≠ 6) (w : World) : Calls Tryd.prog 29 #[.agg #[.int .i64 8, .int .i64 0, .int .i64 c, .int .i64 d]] w fun e w' => e = .returned (.agg #[.nilFunc, .bool false]) ∧ Below w.heap.size w w' := by
  have f0 : decide (d < 0) = false := decide_eq_false (by omega)
  have f1 : decide (d < 4) = true := decide_eq_true (by omega)
  have f2 : decide (d < 3) = true := decide_eq_true (by omega)
  have f3 : (c == 3) = false := beq_eq_false_iff_ne.2 (by omega)
  have f4 : (c == 7) = false := beq_eq_false_iff_ne.2 (by omega)
  have f5 : (c == 5) = false := beq_eq_false_iff_ne.2 (by omega)
  have f6 : (c == 6) = false := beq_eq_false_iff_ne.2 (by omega)
  clear h0 h1 h2 h3 h4 h5
  go_enter Tryd.func29, Tryd.ntmps29
  go_wp2
  refine bodyPost_ret (v := .agg #[.nilFunc, .bool false]) (by simp [results, Tryd.results29, go_sem]) rfl ⟨rfl, below3 w _ _ _⟩
set_option maxHeartbeats 1600000 in
theorem find_n7 (d : Int) (h0 : 4 ≤ d) (w : World) : Calls Tryd.prog 29 #[.agg #[.int .i64 7, .int .i64 0, .int .i64 8, .int .i64 d]] w fun e w' => e = .returned (.agg #[.nilFunc, .bool false]) ∧ Below w.heap.size w w' := by
  have f0 : decide (d < 0) = false := decide_eq_false (by omega)
  have f1 : decide (d < 4) = false := decide_eq_false (by omega)
  clear h0
  go_enter Tryd.func29, Tryd.ntmps29
  go_wp2
  refine bodyPost_ret (v := .agg #[.nilFunc, .bool false]) (by simp [results, Tryd.results29, go_sem]) rfl ⟨rfl, below3 w _ _ _⟩
set_option maxHeartbeats 1600000 in
theorem find_n8 (d : Int) (h0 : 0 ≤ d) (h1 : d ≠ 4) (w : World) : Calls Tryd.prog 29 #[.agg #[.int .i64 7, .int .i64 0, .int .i64 5, .int .i64 d]] w fun e w' => e = .returned (.agg #[.nilFunc, .bool false]) ∧ Below w.heap.size w w' := by
  have f0 : decide (d < 0) = false := decide_eq_false (by omega)
  have f1 : (d == 4) = false := beq_eq_false_iff_ne.2 (by omega)
  clear h0 h1
  go_enter Tryd.func29, Tryd.ntmps29
  go_wp2
  refine bodyPost_ret (v := .agg #[.nilFunc, .bool false]) (by simp [results, Tryd.results29, go_sem]) rfl ⟨rfl, below3 w _ _ _⟩
set_option maxHeartbeats 1600000 in
theorem find_n9 (d : Int) (h0 : 0 ≤ d) (h1 : d ≠ 4) (h2 : d ≠ 5) (w : World) : Calls Tryd.prog 29 #[.agg #[.int .i64 7, .int .i64 0, .int .i64 10, .int .i64 d]] w fun e w' => e = .returned (.agg #[.nilFunc, .bool false]) ∧ Below w.heap.size w w' := by
  have f0 : decide (d < 0) = false := decide_eq_false (by omega)
  have f1 : (d == 4) = false := beq_eq_false_iff_ne.2 (by omega)
  have f2 : (d == 5) = false := beq_eq_false_iff_ne.2 (by omega)
  clear h0 h1 h2
  go_enter Tryd.func29, Tryd.ntmps29
  go_wp2
  refine bodyPost_ret (v := .agg #[.nilFunc, .bool false]) (by simp [results, Tryd.results29, go_sem]) rfl ⟨rfl, below3 w _ _ _⟩
set_option maxHeartbeats 1600000 in
theorem find_n10 (c d : Int) (h0 : 0 ≤ d) (h1 : c ≠ 8) (h2 : c ≠ 5) (h3 : c ≠ 10) (w : World) : Calls Tryd.prog 29 #[.agg #[.int .i64 7, .int .i64 0, .int .i64 c, .int .i64 d]] w fun e w' => e = .returned (.agg #[.nilFunc, .bool false]) ∧ Below w.heap.size w w' := by
  have f0 : decide (d < 0) = false := decide_eq_false (by omega)
  have f1 : (c == 8) = false := beq_eq_false_iff_ne.2 (by omega)
  have f2 : (c == 5) = false := beq_eq_false_iff_ne.2 (by omega)
  have f3 : (c == 10) = false := beq_eq_false_iff_ne.2 (by omega)
  clear h0 h1 h2 h3
  go_enter Tryd.func29, Tryd.ntmps29
  go_wp2
  refine bodyPost_ret (v := .agg #[.nilFunc, .bool false]) (by simp [results, Tryd.results29, go_sem]) rfl ⟨rfl, below3 w _ _ _⟩
theorem find_none (t : Tup) (h1 : dropsB t = false) (h2 : asksB t = false) (h3 : barB t = false) (w : World) : Calls Tryd.prog 29 #[(.agg #[.int .i64 t.crn, .int .i64 t.op1, .int .i64 t.crm, .int .i64 t.op2])] w fun e w' => e = .returned (.agg #[.nilFunc, .bool false]) ∧ Below w.heap.size w w' := by
  obtain ⟨a, b, c, d⟩ := t
  simp only [dropsB, asksB, barB] at h1 h2 h3
  by_cases hb : b = 0
  · subst hb
    by_cases hd : d < 0
    · exact find_n2 a c d hd w
    · by_cases ha : a = 8
      · subst ha
        by_cases h4 : 4 ≤ d
        · exact find_n4 c d h4 w
        · have c3 : c ≠ 3 := fun e => by subst e; simp at h1; omega
          have c7 : c ≠ 7 := fun e => by subst e; simp at h1; omega
          by_cases d3 : d = 3
          · subst d3; exact find_n5 c c3 c7 w
          · have c5 : c ≠ 5 := fun e => by subst e; simp at h1; omega
            have c6 : c ≠ 6 := fun e => by subst e; simp at h1; omega
            exact find_n6 c d (by omega) (by omega) c3 c7 c5 c6 w
      · by_cases ha7 : a = 7
        · subst ha7
          by_cases c8 : c = 8
          · subst c8
            have : 4 ≤ d := by simp at h2; omega
            exact find_n7 d this w
          · by_cases c5 : c = 5
            · subst c5
              have : d ≠ 4 := fun e => by subst e; simp at h3
              exact find_n8 d (by omega) this w
            · by_cases c10 : c = 10
              · subst c10
                have d4 : d ≠ 4 := fun e => by subst e; simp at h3
                have d5 : d ≠ 5 := fun e => by subst e; simp at h3
                exact find_n9 d (by omega) d4 d5 w
              · exact find_n10 c d (by omega) c8 c5 c10 w
        · exact find_n3 a c d (by omega) ha ha7 w
  · exact find_n1 a b c d hb w
end Go.Proofs.YtakihcdolpocjaaDoor
