/- The law Cp15Tuples of layer 8, walked. -/
import Derived.Test.YtakihcdolpocjaaDoorCLive
import Derived.Test.YtakihcdolpocjaaDoorCAsk4
namespace Go.Proofs.YtakihcdolpocjaaDoor
open Go.RowKit

theorem rg_set (rs : List Int) (i k : Nat) (x : Int) (hi : i < rs.length) : rg (rs.set i x) k = if i = k then x else rg rs k := by
  unfold rg
  rw [List.getD_eq_getElem?_getD, List.getElem?_set]
  by_cases h : i = k
  · subst h; simp [hi]
  · simp [h, List.getD_eq_getElem?_getD]
theorem keep_ok (k : Nat) (v : Int) : 0 ≤ keep k v ∧ keep k v ≤ 4294967295 := by
  unfold keep bits
  simp only []
  rw [IntKind.wrap_u32]
  omega
theorem RegsOk.set_ {rs : List Int} (h : RegsOk rs) (i : Nat) (hi : i < 13) (v : Int) : RegsOk (rs.set i (keep i v)) := by
  refine ⟨by simp [h.1], fun k hk => ?_⟩
  rw [rg_set rs i k _ (by rw [h.1]; exact hi)]
  split
  · exact keep_ok i v
  · exact h.2 k hk
theorem writeR_ok {rs : List Int} (h : RegsOk rs) (t : Tup) (priv : Bool) (v : Int) : RegsOk (writeR t priv v rs).2.2 := by
  unfold writeR
  cases hr : regOf t with
  | some i =>
    dsimp only
    split
    · exact h.set_ i (regOf_lt hr) v
    · exact h
  | none =>
    dsimp only
    split
    · exact h
    · split
      · split <;> exact h
      · split
        · split <;> exact h
        · exact h
theorem startOk : RegsOk startL := ⟨rfl, fun k hk => by
  obtain rfl | rfl | rfl | rfl | rfl | rfl | rfl | rfl | rfl | rfl | rfl | rfl | rfl : k = 0 ∨ k = 1 ∨ k = 2 ∨ k = 3 ∨ k = 4 ∨ k = 5 ∨ k = 6 ∨ k = 7 ∨ k = 8 ∨ k = 9 ∨ k = 10 ∨ k = 11 ∨ k = 12 := by omega
  all_goals decide⟩
set_option maxHeartbeats 6400000 in
set_option maxRecDepth 100000 in
theorem tuples_walk (t : Tup) (v : Int) (v0 : 0 ≤ v) (v1 : v ≤ 4294967295) (w : World) (hs : Rul w) :
    Calls Tryd.prog 4 #[(.agg #[.int .i64 t.crn, .int .i64 t.op1, .int .i64 t.crm, .int .i64 t.op2]), .int .u32 v] w fun e w' => e = .returned (.bool true) ∧ Below w.heap.size w w' := by
  have hgp := hs.pos
  have s0 := hs.alloc (.cells #[.int .i64 t.crn, .int .i64 t.op1, .int .i64 t.crm, .int .i64 t.op2] 31)
  have t0 : Blok (w.alloc (.cells #[.int .i64 t.crn, .int .i64 t.op1, .int .i64 t.crm, .int .i64 t.op2] 31)) w.heap.size 31 #[.int .i64 t.crn, .int .i64 t.op1, .int .i64 t.crm, .int .i64 t.op2].toList := Blok.new w _ _
  have NW : Calls Tryd.prog 8 #[] (w.alloc (.cells #[.int .i64 t.crn, .int .i64 t.op1, .int .i64 t.crm, .int .i64 t.op2] 31)) fun e w' => ∃ fb, w.heap.size < fb ∧ e = .returned (.pointer (some ⟨fb, 0, none⟩)) ∧ IsFile w' 63 fb startL ∧ Below (w.alloc (.cells #[.int .i64 t.crn, .int .i64 t.op1, .int .i64 t.crm, .int .i64 t.op2] 31)).heap.size (w.alloc (.cells #[.int .i64 t.crn, .int .i64 t.op1, .int .i64 t.crm, .int .i64 t.op2] 31)) w' :=
    (New_is _ s0).mono fun e w' h => ⟨_, by simp, h⟩
  have NW := Lib.hid NW
  have NR : ∀ W, Calls Tryd.prog 9 #[] W fun e w' => ∃ rb, W.heap.size ≤ rb ∧ e = .returned (.pointer (some ⟨rb, 0, none⟩)) ∧ IsFile w' 68 rb startL ∧ Below W.heap.size W w' :=
    fun W => (refNew_is W).mono fun e w' h => ⟨_, Nat.le_refl _, h⟩
  have NR := Lib.hid NR
  go_enter Tryd.func4, Tryd.ntmps4
  go_wp2_with fail
  refine NW.out.mono ?_
  rintro e w1 ⟨fb, hfb, rfl, F1, b1⟩
  have s1 := s0.below b1
  have l1 := F1.b.lt
  go_wp2_with fail
  refine (NR.out _).mono ?_
  rintro e w2 ⟨rb, hrb, rfl, R2, b2⟩
  have s2 := s1.below b2
  have F2 := F1.below b2
  have l2 := R2.b.lt
  go_wp2_with fail
  refine (live_is w2 s2).mono ?_
  rintro e w3 ⟨rfl, b3⟩
  have s3 := s2.below b3
  have F3 := F2.below b3
  have R3 := R2.below b3
  have G3 : GrownS (w.alloc (.cells #[.int .i64 t.crn, .int .i64 t.op1, .int .i64 t.crm, .int .i64 t.op2] 31)) w3 (fun b => b = fb ∨ b = rb) := ((GrownS.ofBelow b1).below b2).below b3
  have hne : fb ≠ rb := by omega
  have hnb : ¬ (fun b => b = fb ∨ b = rb) w.heap.size := by intro h; have h : w.heap.size = fb ∨ w.heap.size = rb := h; omega
  have hsr : ¬ (fun b => b = fb ∨ b = rb) 0 := by intro h; have h : 0 = fb ∨ 0 = rb := h; omega
  have hS : ∀ i, (fun b => b = fb ∨ b = rb) i → w.heap.size ≤ i := by intro i h; have h : i = fb ∨ i = rb := h; omega
  clear hfb hrb l1 l2 hgp
  go_wp2_with fail
  go_loopw [7] (fun v7 wr => ∃ (k : Nat) (rs : List Int), k ≤ 2 ∧ v7 = .int .i64 k ∧ RegsOk rs ∧ Rul wr ∧ IsFile wr 63 fb rs ∧ IsFile wr 68 rb rs ∧ GrownS (w.alloc (.cells #[.int .i64 t.crn, .int .i64 t.op1, .int .i64 t.crm, .int .i64 t.op2] 31)) wr (fun b => b = fb ∨ b = rb)) (fun v7 _ => 2 - (intOf v7).toNat)
  case atStart => exact ⟨0, startL, Nat.zero_le _, rfl, startOk, s3, F3, R3, G3⟩
  case round =>
    obtain ⟨k, rs, hk, rfl, hok, s4, F4, R4, G4⟩ := hrel
    clear s3 F3 R3 G3 F2 F1 R2 s2 s1
    have t4 := t0.gs G4 hnb
    (have x40 : (wr).cell? ⟨w.heap.size, 0, none⟩ = some (.int .i64 t.crn) := (t4).cell 0; have x41 : (wr).cell? ⟨w.heap.size, 1, none⟩ = some (.int .i64 t.op1) := (t4).cell 1; have x42 : (wr).cell? ⟨w.heap.size, 2, none⟩ = some (.int .i64 t.crm) := (t4).cell 2; have x43 : (wr).cell? ⟨w.heap.size, 3, none⟩ = some (.int .i64 t.op2) := (t4).cell 3)
    have hok7 : ∀ priv, RegsOk (writeR t priv v rs).2.2 := fun priv => writeR_ok hok t priv v
    have hok7 := Lib.hid hok7
    obtain rfl | rfl | rfl : k = 0 ∨ k = 1 ∨ k = 2 := by omega
    case inr.inr =>
      go_wp2
      go_ret
      exact ⟨rfl, G4.unbox.bel (Nat.le_refl _) hS⟩
    case inl =>
      go_wp2_with fail
      refine (asked_6 fb rb rs t false 0 0 _ s4 F4 R4).mono ?_
      rintro e w5 ⟨rfl, F5, R5, g5⟩
      have s5 := s4.gs g5 hsr
      have G5 := G4.trans g5
      have t5 := t0.gs G5 hnb
      (have x50 : (w5).cell? ⟨w.heap.size, 0, none⟩ = some (.int .i64 t.crn) := (t5).cell 0; have x51 : (w5).cell? ⟨w.heap.size, 1, none⟩ = some (.int .i64 t.op1) := (t5).cell 1; have x52 : (w5).cell? ⟨w.heap.size, 2, none⟩ = some (.int .i64 t.crm) := (t5).cell 2; have x53 : (w5).cell? ⟨w.heap.size, 3, none⟩ = some (.int .i64 t.op2) := (t5).cell 3)
      go_wp2_with fail
      refine (asked_1 fb rb rs t false 0 0 _ s5 F5 R5).mono ?_
      rintro e w6 ⟨rfl, F6, R6, g6⟩
      have s6 := s5.gs g6 hsr
      have G6 := G5.trans g6
      have t6 := t0.gs G6 hnb
      (have x60 : (w6).cell? ⟨w.heap.size, 0, none⟩ = some (.int .i64 t.crn) := (t6).cell 0; have x61 : (w6).cell? ⟨w.heap.size, 1, none⟩ = some (.int .i64 t.op1) := (t6).cell 1; have x62 : (w6).cell? ⟨w.heap.size, 2, none⟩ = some (.int .i64 t.crm) := (t6).cell 2; have x63 : (w6).cell? ⟨w.heap.size, 3, none⟩ = some (.int .i64 t.op2) := (t6).cell 3)
      go_wp2_with fail
      refine (asked_2 fb rb hne rs t false v 0 v0 v1 _ s6 F6 R6).mono ?_
      rintro e w7 ⟨rfl, F7, R7, g7⟩
      have s7 := s6.gs g7 hsr
      have G7 := G6.trans g7
      have t7 := t0.gs G7 hnb
      (have x70 : (w7).cell? ⟨w.heap.size, 0, none⟩ = some (.int .i64 t.crn) := (t7).cell 0; have x71 : (w7).cell? ⟨w.heap.size, 1, none⟩ = some (.int .i64 t.op1) := (t7).cell 1; have x72 : (w7).cell? ⟨w.heap.size, 2, none⟩ = some (.int .i64 t.crm) := (t7).cell 2; have x73 : (w7).cell? ⟨w.heap.size, 3, none⟩ = some (.int .i64 t.op2) := (t7).cell 3)
      go_wp2_with fail
      refine (alike_is fb rb _ (hok7.out false) _ F7 R7).mono ?_
      rintro e w8 ⟨rfl, b8⟩
      have s8 := s7.below b8
      have F8 := F7.below b8
      have R8 := R7.below b8
      have G8 := G7.below b8
      go_wp2
      go_roundw
      case rel => exact ⟨1, _, by omega, by go_num, hok7.out false, s8, F8, R8, G8⟩
      case measure => simp [intOf]
    case inr.inl =>
      go_wp2_with fail
      refine (asked_6 fb rb rs t false 0 0 _ s4 F4 R4).mono ?_
      rintro e w5 ⟨rfl, F5, R5, g5⟩
      have s5 := s4.gs g5 hsr
      have G5 := G4.trans g5
      have t5 := t0.gs G5 hnb
      (have x50 : (w5).cell? ⟨w.heap.size, 0, none⟩ = some (.int .i64 t.crn) := (t5).cell 0; have x51 : (w5).cell? ⟨w.heap.size, 1, none⟩ = some (.int .i64 t.op1) := (t5).cell 1; have x52 : (w5).cell? ⟨w.heap.size, 2, none⟩ = some (.int .i64 t.crm) := (t5).cell 2; have x53 : (w5).cell? ⟨w.heap.size, 3, none⟩ = some (.int .i64 t.op2) := (t5).cell 3)
      go_wp2_with fail
      refine (asked_1 fb rb rs t true 0 0 _ s5 F5 R5).mono ?_
      rintro e w6 ⟨rfl, F6, R6, g6⟩
      have s6 := s5.gs g6 hsr
      have G6 := G5.trans g6
      have t6 := t0.gs G6 hnb
      (have x60 : (w6).cell? ⟨w.heap.size, 0, none⟩ = some (.int .i64 t.crn) := (t6).cell 0; have x61 : (w6).cell? ⟨w.heap.size, 1, none⟩ = some (.int .i64 t.op1) := (t6).cell 1; have x62 : (w6).cell? ⟨w.heap.size, 2, none⟩ = some (.int .i64 t.crm) := (t6).cell 2; have x63 : (w6).cell? ⟨w.heap.size, 3, none⟩ = some (.int .i64 t.op2) := (t6).cell 3)
      go_wp2_with fail
      refine (asked_2 fb rb hne rs t true v 0 v0 v1 _ s6 F6 R6).mono ?_
      rintro e w7 ⟨rfl, F7, R7, g7⟩
      have s7 := s6.gs g7 hsr
      have G7 := G6.trans g7
      have t7 := t0.gs G7 hnb
      (have x70 : (w7).cell? ⟨w.heap.size, 0, none⟩ = some (.int .i64 t.crn) := (t7).cell 0; have x71 : (w7).cell? ⟨w.heap.size, 1, none⟩ = some (.int .i64 t.op1) := (t7).cell 1; have x72 : (w7).cell? ⟨w.heap.size, 2, none⟩ = some (.int .i64 t.crm) := (t7).cell 2; have x73 : (w7).cell? ⟨w.heap.size, 3, none⟩ = some (.int .i64 t.op2) := (t7).cell 3)
      go_wp2_with fail
      refine (alike_is fb rb _ (hok7.out true) _ F7 R7).mono ?_
      rintro e w8 ⟨rfl, b8⟩
      have s8 := s7.below b8
      have F8 := F7.below b8
      have R8 := R7.below b8
      have G8 := G7.below b8
      go_wp2
      go_roundw
      case rel => exact ⟨2, _, by omega, by go_num, hok7.out true, s8, F8, R8, G8⟩
      case measure => simp [intOf]
end Go.Proofs.YtakihcdolpocjaaDoor
