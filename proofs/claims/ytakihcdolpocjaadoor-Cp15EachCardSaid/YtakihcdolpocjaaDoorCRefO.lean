/- What an operation is, by the document (atlasref08): barrier, asks, drops, Operation, act. -/
import Derived.Test.YtakihcdolpocjaaDoorCFind
namespace Go.Proofs.YtakihcdolpocjaaDoor
open Go.RowKit

theorem eql_tup_lit (t : Tup) (a b c d : Int) (w : World) : (binOp .eql 31 (.agg #[.int .i64 t.crn, .int .i64 t.op1, .int .i64 t.crm, .int .i64 t.op2]) (.agg #[.int .i64 a, .int .i64 b, .int .i64 c, .int .i64 d])).run Tryd.prog w = .ok (.bool (t.eqB ⟨a, b, c, d⟩)) w := eql_tup t ⟨a, b, c, d⟩ w
theorem barB_eq (t : Tup) : barB t = (t.eqB ⟨7, 0, 5, 4⟩ || (t.eqB ⟨7, 0, 10, 4⟩ || t.eqB ⟨7, 0, 10, 5⟩)) := by
  unfold barB Tup.eqB
  by_cases h1 : t.op1 = 0 <;> by_cases h2 : t.crn = 7 <;> by_cases h3 : t.crm = 5 <;> by_cases h4 : t.crm = 10 <;> by_cases h5 : t.op2 = 4 <;> by_cases h6 : t.op2 = 5 <;> simp [h1, h2, h3, h4, h5, h6]
set_option maxHeartbeats 1600000 in
theorem barrier_is (t : Tup) (w : World) : Calls Tryd.prog 32 #[(.agg #[.int .i64 t.crn, .int .i64 t.op1, .int .i64 t.crm, .int .i64 t.op2])] w fun e w' => e = .returned (.bool (barB t)) ∧ Below w.heap.size w w' := by
  rw [barB_eq]
  have e1 := eql_tup_lit t 7 0 5 4
  have e2 := eql_tup_lit t 7 0 10 4
  have e3 := eql_tup_lit t 7 0 10 5
  obtain ⟨a, ha⟩ : ∃ a, t.eqB ⟨7, 0, 5, 4⟩ = a := ⟨_, rfl⟩
  obtain ⟨b, hb⟩ : ∃ a, t.eqB ⟨7, 0, 10, 4⟩ = a := ⟨_, rfl⟩
  obtain ⟨c, hc⟩ : ∃ a, t.eqB ⟨7, 0, 10, 5⟩ = a := ⟨_, rfl⟩
  rw [ha] at e1 ⊢
  rw [hb] at e2 ⊢
  rw [hc] at e3 ⊢
  clear ha hb hc
  cases a <;> cases b <;> cases c
  all_goals
    go_enter Tryd.func32, Tryd.ntmps32
    go_wp2
    go_ret
    exact ⟨rfl, (Below.refl _ _).alloc (Nat.le_refl _) _⟩
set_option maxHeartbeats 1600000 in
theorem asks_is (t : Tup) (w : World) : Calls Tryd.prog 39 #[(.agg #[.int .i64 t.crn, .int .i64 t.op1, .int .i64 t.crm, .int .i64 t.op2])] w fun e w' => e = .returned (.bool (asksB t)) ∧ Below w.heap.size w w' := by
  obtain ⟨a, b, c, d⟩ := t
  dsimp only
  by_cases ha : a = 7
  case neg =>
    have f1 : (a == 7) = false := beq_eq_false_iff_ne.2 ha
    have e : asksB ⟨a, b, c, d⟩ = false := by simp [asksB, ha]
    rw [e]
    clear ha e
    go_enter Tryd.func39, Tryd.ntmps39
    go_wp2
    go_ret
    exact ⟨rfl, (Below.refl _ _).alloc (Nat.le_refl _) _⟩
  subst ha
  by_cases hb : b = 0
  case neg =>
    have f1 : (b == 0) = false := beq_eq_false_iff_ne.2 hb
    have e : asksB ⟨7, b, c, d⟩ = false := by simp [asksB, hb]
    rw [e]
    clear hb e
    go_enter Tryd.func39, Tryd.ntmps39
    go_wp2
    go_ret
    exact ⟨rfl, (Below.refl _ _).alloc (Nat.le_refl _) _⟩
  subst hb
  by_cases hc : c = 8
  case neg =>
    have f1 : (c == 8) = false := beq_eq_false_iff_ne.2 hc
    have e : asksB ⟨7, 0, c, d⟩ = false := by simp [asksB, hc]
    rw [e]
    clear hc e
    go_enter Tryd.func39, Tryd.ntmps39
    go_wp2
    go_ret
    exact ⟨rfl, (Below.refl _ _).alloc (Nat.le_refl _) _⟩
  subst hc
  by_cases hd : 0 ≤ d
  · by_cases hd2 : d ≤ 3
    · have e : asksB ⟨7, 0, 8, d⟩ = true := by simp [asksB]; omega
      rw [e]
      clear e
      go_enter Tryd.func39, Tryd.ntmps39
      go_wp2
      go_ret
      exact ⟨by simp [*] <;> omega, (Below.refl _ _).alloc (Nat.le_refl _) _⟩
    · have e : asksB ⟨7, 0, 8, d⟩ = false := by simp [asksB]; omega
      have f2 : decide (d ≤ 3) = false := decide_eq_false hd2
      rw [e]
      clear e
      go_enter Tryd.func39, Tryd.ntmps39
      go_wp2
      go_ret
      exact ⟨by simp [*] <;> omega, (Below.refl _ _).alloc (Nat.le_refl _) _⟩
  · have e : asksB ⟨7, 0, 8, d⟩ = false := by simp [asksB]; omega
    have f2 : decide (d ≥ 0) = false := decide_eq_false hd
    rw [e]
    clear e
    go_enter Tryd.func39, Tryd.ntmps39
    go_wp2
    go_ret
    exact ⟨by simp [*] <;> omega, (Below.refl _ _).alloc (Nat.le_refl _) _⟩
set_option maxHeartbeats 1600000 in
theorem drops_1 (a b c d : Int) (h0 : a ≠ 8) (w : World) : Calls Tryd.prog 40 #[.agg #[.int .i64 a, .int .i64 b, .int .i64 c, .int .i64 d]] w fun e w' => e = .returned (.bool false) ∧ Below w.heap.size w w' := by
  have f0 : (a != 8) = true := by rw [bne_iff_ne]; omega
  clear h0
  go_enter Tryd.func40, Tryd.ntmps40
  go_wp2
  go_ret
  exact ⟨rfl, (Below.refl _ _).alloc (Nat.le_refl _) _⟩
set_option maxHeartbeats 1600000 in
theorem drops_2 (b c d : Int) (h0 : b ≠ 0) (w : World) : Calls Tryd.prog 40 #[.agg #[.int .i64 8, .int .i64 b, .int .i64 c, .int .i64 d]] w fun e w' => e = .returned (.bool false) ∧ Below w.heap.size w w' := by
  have f0 : (b != 0) = true := by rw [bne_iff_ne]; omega
  clear h0
  go_enter Tryd.func40, Tryd.ntmps40
  go_wp2
  go_ret
  exact ⟨rfl, (Below.refl _ _).alloc (Nat.le_refl _) _⟩
set_option maxHeartbeats 1600000 in
theorem drops_3 (c d : Int) (h0 : d < 0) (w : World) : Calls Tryd.prog 40 #[.agg #[.int .i64 8, .int .i64 0, .int .i64 c, .int .i64 d]] w fun e w' => e = .returned (.bool false) ∧ Below w.heap.size w w' := by
  have f0 : decide (d < 0) = true := decide_eq_true (by omega)
  clear h0
  go_enter Tryd.func40, Tryd.ntmps40
  go_wp2
  go_ret
  exact ⟨rfl, (Below.refl _ _).alloc (Nat.le_refl _) _⟩
set_option maxHeartbeats 1600000 in
theorem drops_4 (c d : Int) (h0 : 0 ≤ d) (h1 : 3 < d) (w : World) : Calls Tryd.prog 40 #[.agg #[.int .i64 8, .int .i64 0, .int .i64 c, .int .i64 d]] w fun e w' => e = .returned (.bool false) ∧ Below w.heap.size w w' := by
  have f0 : decide (d < 0) = false := decide_eq_false (Int.not_lt.mpr h0)
  have f1 : decide (d > 3) = true := decide_eq_true (by omega)
  clear h0 h1
  go_enter Tryd.func40, Tryd.ntmps40
  go_wp2
  go_ret
  exact ⟨rfl, (Below.refl _ _).alloc (Nat.le_refl _) _⟩
set_option maxHeartbeats 1600000 in
theorem drops_5 (d : Int) (h0 : 0 ≤ d) (h1 : d ≤ 3) (w : World) : Calls Tryd.prog 40 #[.agg #[.int .i64 8, .int .i64 0, .int .i64 3, .int .i64 d]] w fun e w' => e = .returned (.bool true) ∧ Below w.heap.size w w' := by
  have f0 : decide (d < 0) = false := decide_eq_false (by omega)
  have f1 : decide (d > 3) = false := decide_eq_false (by omega)
  clear h0 h1
  go_enter Tryd.func40, Tryd.ntmps40
  go_wp2
  go_ret
  exact ⟨rfl, (Below.refl _ _).alloc (Nat.le_refl _) _⟩
set_option maxHeartbeats 1600000 in
theorem drops_6 (d : Int) (h0 : 0 ≤ d) (h1 : d ≤ 3) (w : World) : Calls Tryd.prog 40 #[.agg #[.int .i64 8, .int .i64 0, .int .i64 7, .int .i64 d]] w fun e w' => e = .returned (.bool true) ∧ Below w.heap.size w w' := by
  have f0 : decide (d < 0) = false := decide_eq_false (by omega)
  have f1 : decide (d > 3) = false := decide_eq_false (by omega)
  clear h0 h1
  go_enter Tryd.func40, Tryd.ntmps40
  go_wp2
  go_ret
  exact ⟨rfl, (Below.refl _ _).alloc (Nat.le_refl _) _⟩
set_option maxHeartbeats 1600000 in
theorem drops_7 (d : Int) (h0 : 0 ≤ d) (h1 : d < 3) (w : World) : Calls Tryd.prog 40 #[.agg #[.int .i64 8, .int .i64 0, .int .i64 5, .int .i64 d]] w fun e w' => e = .returned (.bool true) ∧ Below w.heap.size w w' := by
  have f0 : decide (d < 0) = false := decide_eq_false (by omega)
  have f1 : decide (d > 3) = false := decide_eq_false (by omega)
  have f2 : decide (d < 3) = true := decide_eq_true (by omega)
  clear h0 h1
  go_enter Tryd.func40, Tryd.ntmps40
  go_wp2
  go_ret
  exact ⟨rfl, (Below.refl _ _).alloc (Nat.le_refl _) _⟩
set_option maxHeartbeats 1600000 in
theorem drops_8 (d : Int) (h0 : 0 ≤ d) (h1 : d < 3) (w : World) : Calls Tryd.prog 40 #[.agg #[.int .i64 8, .int .i64 0, .int .i64 6, .int .i64 d]] w fun e w' => e = .returned (.bool true) ∧ Below w.heap.size w w' := by
  have f0 : decide (d < 0) = false := decide_eq_false (by omega)
  have f1 : decide (d > 3) = false := decide_eq_false (by omega)
  have f2 : decide (d < 3) = true := decide_eq_true (by omega)
  clear h0 h1
  go_enter Tryd.func40, Tryd.ntmps40
  go_wp2
  go_ret
  exact ⟨rfl, (Below.refl _ _).alloc (Nat.le_refl _) _⟩
set_option maxHeartbeats 1600000 in
theorem drops_9   (w : World) : Calls Tryd.prog 40 #[.agg #[.int .i64 8, .int .i64 0, .int .i64 5, .int .i64 3]] w fun e w' => e = .returned (.bool false) ∧ Below w.heap.size w w' := by
  go_enter Tryd.func40, Tryd.ntmps40
  go_wp2
  go_ret
  exact ⟨rfl, (Below.refl _ _).alloc (Nat.le_refl _) _⟩
set_option maxHeartbeats 1600000 in
theorem drops_10   (w : World) : Calls Tryd.prog 40 #[.agg #[.int .i64 8, .int .i64 0, .int .i64 6, .int .i64 3]] w fun e w' => e = .returned (.bool false) ∧ Below w.heap.size w w' := by
  go_enter Tryd.func40, Tryd.ntmps40
  go_wp2
  go_ret
  exact ⟨rfl, (Below.refl _ _).alloc (Nat.le_refl _) _⟩
set_option maxHeartbeats 1600000 in
theorem drops_11 (c d : Int) (h0 : 0 ≤ d) (h1 : d ≤ 3) (h2 : c ≠ 3) (h3 : c ≠ 7) (h4 : c ≠ 5) (h5 : c ≠ 6) (w : World) : Calls Tryd.prog 40 #[.agg #[.int .i64 8, .int .i64 0, .int .i64 c, .int .i64 d]] w fun e w' => e = .returned (.bool false) ∧ Below w.heap.size w w' := by
  have f0 : decide (d < 0) = false := decide_eq_false (by omega)
  have f1 : decide (d > 3) = false := decide_eq_false (by omega)
  have f2 : (c == 3) = false := beq_eq_false_iff_ne.2 (by omega)
  have f3 : (c == 7) = false := beq_eq_false_iff_ne.2 (by omega)
  have f4 : (c == 5) = false := beq_eq_false_iff_ne.2 (by omega)
  have f5 : (c == 6) = false := beq_eq_false_iff_ne.2 (by omega)
  clear h0 h1 h2 h3 h4 h5
  go_enter Tryd.func40, Tryd.ntmps40
  go_wp2
  go_ret
  exact ⟨rfl, (Below.refl _ _).alloc (Nat.le_refl _) _⟩
theorem drops_is (t : Tup) (w : World) : Calls Tryd.prog 40 #[(.agg #[.int .i64 t.crn, .int .i64 t.op1, .int .i64 t.crm, .int .i64 t.op2])] w fun e w' => e = .returned (.bool (dropsB t)) ∧ Below w.heap.size w w' := by
  obtain ⟨a, b, c, d⟩ := t
  dsimp only
  by_cases ha : a = 8
  case neg => rw [show dropsB ⟨a, b, c, d⟩ = false by simp [dropsB, ha]]; exact drops_1 a b c d ha w
  subst ha
  by_cases hb : b = 0
  case neg => rw [show dropsB ⟨8, b, c, d⟩ = false by simp [dropsB, hb]]; exact drops_2 b c d hb w
  subst hb
  by_cases h0 : d < 0
  · rw [show dropsB ⟨8, 0, c, d⟩ = false by simp [dropsB]; omega]; exact drops_3 c d h0 w
  by_cases h3 : 3 < d
  · rw [show dropsB ⟨8, 0, c, d⟩ = false by simp [dropsB]; omega]; exact drops_4 c d (by omega) h3 w
  by_cases c3 : c = 3
  · subst c3; rw [show dropsB ⟨8, 0, 3, d⟩ = true by simp [dropsB]; omega]; exact drops_5 d (by omega) (by omega) w
  by_cases c7 : c = 7
  · subst c7; rw [show dropsB ⟨8, 0, 7, d⟩ = true by simp [dropsB]; omega]; exact drops_6 d (by omega) (by omega) w
  by_cases d3 : d = 3
  · subst d3
    by_cases c5 : c = 5
    · subst c5; rw [show dropsB ⟨8, 0, 5, 3⟩ = false by simp [dropsB]]; exact drops_9 w
    by_cases c6 : c = 6
    · subst c6; rw [show dropsB ⟨8, 0, 6, 3⟩ = false by simp [dropsB]]; exact drops_10 w
    · rw [show dropsB ⟨8, 0, c, 3⟩ = false by simp [dropsB, c3, c7]]; exact drops_11 c 3 (by omega) (by omega) c3 c7 c5 c6 w
  · by_cases c5 : c = 5
    · subst c5; rw [show dropsB ⟨8, 0, 5, d⟩ = true by simp [dropsB]; omega]; exact drops_7 d (by omega) (by omega) w
    by_cases c6 : c = 6
    · subst c6; rw [show dropsB ⟨8, 0, 6, d⟩ = true by simp [dropsB]; omega]; exact drops_8 d (by omega) (by omega) w
    · rw [show dropsB ⟨8, 0, c, d⟩ = false by simp [dropsB, c3, c7, c5, c6]]; exact drops_11 c d (by omega) (by omega) c3 c7 c5 c6 w
def opB (t : Tup) : Bool := barB t || (asksB t || dropsB t)
set_option maxHeartbeats 1600000 in
theorem Operation_is (t : Tup) (w : World) : Calls Tryd.prog 31 #[(.agg #[.int .i64 t.crn, .int .i64 t.op1, .int .i64 t.crm, .int .i64 t.op2])] w fun e w' => e = .returned (.bool (opB t)) ∧ Below w.heap.size w w' := by
  have BR := fun W => barrier_is t W
  have AS := fun W => asks_is t W
  have DR := fun W => drops_is t W
  unfold opB
  obtain ⟨a, ha⟩ : ∃ a, barB t = a := ⟨_, rfl⟩
  obtain ⟨b, hb⟩ : ∃ a, asksB t = a := ⟨_, rfl⟩
  obtain ⟨c, hc⟩ : ∃ a, dropsB t = a := ⟨_, rfl⟩
  rw [ha] at BR ⊢
  rw [hb] at AS ⊢
  rw [hc] at DR ⊢
  have BR := Lib.hid BR
  have AS := Lib.hid AS
  have DR := Lib.hid DR
  (have x0 : ∀ w', Below (w.heap.size + 1) (w.alloc (.cells #[.int .i64 t.crn, .int .i64 t.op1, .int .i64 t.crm, .int .i64 t.op2] 31)) w' → w'.cell? ⟨w.heap.size, 0, none⟩ = some (.int .i64 t.crn) := fun w' h => (h.cell (by simp)).trans (by simp); have x1 : ∀ w', Below (w.heap.size + 1) (w.alloc (.cells #[.int .i64 t.crn, .int .i64 t.op1, .int .i64 t.crm, .int .i64 t.op2] 31)) w' → w'.cell? ⟨w.heap.size, 1, none⟩ = some (.int .i64 t.op1) := fun w' h => (h.cell (by simp)).trans (by simp); have x2 : ∀ w', Below (w.heap.size + 1) (w.alloc (.cells #[.int .i64 t.crn, .int .i64 t.op1, .int .i64 t.crm, .int .i64 t.op2] 31)) w' → w'.cell? ⟨w.heap.size, 2, none⟩ = some (.int .i64 t.crm) := fun w' h => (h.cell (by simp)).trans (by simp); have x3 : ∀ w', Below (w.heap.size + 1) (w.alloc (.cells #[.int .i64 t.crn, .int .i64 t.op1, .int .i64 t.crm, .int .i64 t.op2] 31)) w' → w'.cell? ⟨w.heap.size, 3, none⟩ = some (.int .i64 t.op2) := fun w' h => (h.cell (by simp)).trans (by simp))
  have b0 : Below (w.heap.size + 1) (w.alloc (.cells #[.int .i64 t.crn, .int .i64 t.op1, .int .i64 t.crm, .int .i64 t.op2] 31)) (w.alloc (.cells #[.int .i64 t.crn, .int .i64 t.op1, .int .i64 t.crm, .int .i64 t.op2] 31)) := Below.refl _ _
  clear ha hb hc
  cases a <;> cases b <;> cases c
  all_goals
    go_enter Tryd.func31, Tryd.ntmps31
    go_wp2_with (first
      | (go_at_call 40; refine (DR.out _).mono ?_; rintro e w3 ⟨rfl, h3⟩; have bz := bnext b2 h3 (by simp))
      | (go_at_call 39; refine (AS.out _).mono ?_; rintro e w2 ⟨rfl, h2⟩; have b2 := bnext b1 h2 (by simp); have bz := b2)
      | (go_at_call 32; refine (BR.out _).mono ?_; rintro e w1 ⟨rfl, h1⟩; have b1 := bnext b0 h1 (by simp); have bz := b1))
    go_ret
    exact ⟨rfl, bbox bz⟩
end Go.Proofs.YtakihcdolpocjaaDoor
