/- The document's registers of layer 8 (atlasref08): Register, Get, Put, Read. -/
import Derived.Test.YtakihcdolpocjaaDoorCRefT
namespace Go.Proofs.YtakihcdolpocjaaDoor
open Go.RowKit

set_option maxHeartbeats 1600000 in
theorem refRegister_is (t : Tup) (w : World) : Calls Tryd.prog 28 #[(.agg #[.int .i64 t.crn, .int .i64 t.op1, .int .i64 t.crm, .int .i64 t.op2])] w fun e w' => e = .returned (regRes t) ∧ Below w.heap.size w w' := by
  have hbx : Blok (w.alloc (.cells #[.int .i64 t.crn, .int .i64 t.op1, .int .i64 t.crm, .int .i64 t.op2] 31)) w.heap.size 31 #[.int .i64 t.crn, .int .i64 t.op1, .int .i64 t.crm, .int .i64 t.op2].toList := Blok.new w _ _
  go_enter Tryd.func28, Tryd.ntmps28
  go_wp2
  go_loopw [4] (fun v4 wr => ∃ k : Nat, k ≤ 13 ∧ v4 = .int .i64 k ∧ NotTo t k ∧ Below (w.heap.size + 1) (w.alloc (.cells #[.int .i64 t.crn, .int .i64 t.op1, .int .i64 t.crm, .int .i64 t.op2] 31)) wr) (fun v4 _ => 13 - (intOf v4).toNat)
  case atStart => exact ⟨0, Nat.zero_le _, rfl, notTo_zero t, Below.refl _ _⟩
  case round =>
    obtain ⟨k, hk, rfl, hn, hB⟩ := hrel
    have HN := Lib.hid hn
    have hwz := hB.size
    simp at hwz
    by_cases hlt : k < 13
    · have hwl : w.heap.size < wr.heap.size := by omega
      have TU := Lib.hid (fun W => refTuple_is k hlt W)
      have d0 : ∀ w', Below (w.heap.size + 1) (w.alloc (.cells #[.int .i64 t.crn, .int .i64 t.op1, .int .i64 t.crm, .int .i64 t.op2] 31)) w' → w'.cell? ⟨w.heap.size, 0, none⟩ = some (.int .i64 t.crn) := fun w' g => (hbx.below g (by omega)).cell 0
      have d1 : ∀ w', Below (w.heap.size + 1) (w.alloc (.cells #[.int .i64 t.crn, .int .i64 t.op1, .int .i64 t.crm, .int .i64 t.op2] 31)) w' → w'.cell? ⟨w.heap.size, 1, none⟩ = some (.int .i64 t.op1) := fun w' g => (hbx.below g (by omega)).cell 1
      have d2 : ∀ w', Below (w.heap.size + 1) (w.alloc (.cells #[.int .i64 t.crn, .int .i64 t.op1, .int .i64 t.crm, .int .i64 t.op2] 31)) w' → w'.cell? ⟨w.heap.size, 2, none⟩ = some (.int .i64 t.crm) := fun w' g => (hbx.below g (by omega)).cell 2
      have d3 : ∀ w', Below (w.heap.size + 1) (w.alloc (.cells #[.int .i64 t.crn, .int .i64 t.op1, .int .i64 t.crm, .int .i64 t.op2] 31)) w' → w'.cell? ⟨w.heap.size, 3, none⟩ = some (.int .i64 t.op2) := fun w' g => (hbx.below g (by omega)).cell 3
      have hBd := bdrew hB
      obtain ⟨q, hq⟩ : ∃ q, (tupOf k).eqB t = q := ⟨_, rfl⟩
      have heq := fun W => eql_tup (tupOf k) t W
      rw [hq] at heq
      have HQ := Lib.hid hq
      clear hn hq
      go_wp2_with fail
      cases q
      · go_region_held3 (fun w' => Below (w.heap.size + 1) (w.alloc (.cells #[.int .i64 t.crn, .int .i64 t.op1, .int .i64 t.crm, .int .i64 t.op2] 31)) w')
          (first | with_reducible assumption)
          (first | (go_at_call 35; refine (TU.out _).mono ?_; rintro e w3 ⟨rfl, hb3⟩; have hB3 := bnext hBd hb3 (by simp)))
        all_goals
          have hB9 : Below (w.heap.size + 1) (w.alloc (.cells #[.int .i64 t.crn, .int .i64 t.op1, .int .i64 t.crm, .int .i64 t.op2] 31)) w3 := by with_reducible assumption
          go_wp2
          go_roundw
          case rel => exact ⟨k + 1, by omega, by go_num, notTo_next HN.out hlt HQ.out, hB9⟩
          case measure => simp [intOf]; omega
      · go_region_held3 (fun w' => Below (w.heap.size + 1) (w.alloc (.cells #[.int .i64 t.crn, .int .i64 t.op1, .int .i64 t.crm, .int .i64 t.op2] 31)) w')
          (first | with_reducible assumption)
          (first | (go_at_call 35; refine (TU.out _).mono ?_; rintro e w3 ⟨rfl, hb3⟩; have hB3 := bnext hBd hb3 (by simp)))
        all_goals
          have hB9 : Below (w.heap.size + 1) (w.alloc (.cells #[.int .i64 t.crn, .int .i64 t.op1, .int .i64 t.crm, .int .i64 t.op2] 31)) w3 := by with_reducible assumption
          go_wp2
          go_ret2
          exact ⟨by unfold regRes; rw [notTo_at HN.out hlt HQ.out]; rfl, bbox hB9⟩
    · obtain rfl : k = 13 := by omega
      clear hn
      go_wp2
      go_ret2
      exact ⟨by unfold regRes; rw [notTo_end HN.out]; rfl, bbox hB⟩
theorem refGet_yes (fb : Nat) (rs : List Int) (k : Nat) (hk : k < 13) (w : World) (h : IsFile w 68 fb rs) :
    Calls Tryd.prog 26 #[.pointer (some ⟨fb, 0, none⟩), .int .i64 k] w fun e w' => e = .returned (.tuple #[.int .u32 (rg rs k), .int .i64 0]) ∧ w = w' := by
  have c := h.cell k hk
  go_enter Tryd.func26, Tryd.ntmps26
  go_wp2
  go_ret2
  exact ⟨rfl, rfl⟩
theorem refGet_no (fb : Addr) (k : Int) (hk : k < 0 ∨ 13 ≤ k) (w : World) :
    Calls Tryd.prog 26 #[.pointer (some fb), .int .i64 k] w fun e w' => e = .returned (.tuple #[.int .u32 0, .int .i64 1]) ∧ w = w' := by
  have h12 : k < 0 ∨ 12 < k := by omega
  clear hk
  rcases h12 with hk | hk
  all_goals
    go_enter Tryd.func26, Tryd.ntmps26
    go_wp2
  all_goals
    go_ret2
    exact ⟨rfl, rfl⟩
theorem refPut_no (fb : Addr) (k v : Int) (hk : k < 0 ∨ 13 ≤ k) (w : World) :
    Calls Tryd.prog 27 #[.pointer (some fb), .int .i64 k, .int .u32 v] w fun e w' => e = .returned (.int .i64 1) ∧ w = w' := by
  have h12 : k < 0 ∨ 12 < k := by omega
  clear hk
  rcases h12 with hk | hk
  all_goals
    go_enter Tryd.func27, Tryd.ntmps27
    go_wp2
  all_goals
    go_ret
    exact ⟨rfl, rfl⟩
set_option maxHeartbeats 1600000 in
theorem refPut_yes (fb : Nat) (rs : List Int) (k : Nat) (hk : k < 13) (v : Int) (w : World) (h : IsFile w 68 fb rs) :
    Calls Tryd.prog 27 #[.pointer (some ⟨fb, 0, none⟩), .int .i64 k, .int .u32 v] w fun e w' => e = .returned (.int .i64 0) ∧ IsFile w' 68 fb (rs.set k (keep k v)) ∧ w.grownBy w' (some fb) := by
  have i0 : (0 : Int) ≤ ↑k := by omega
  have i1 : (↑k : Int) < 13 := by omega
  have i2 : decide ((k : Int) > 12) = false := decide_eq_false (by omega)
  have KP := Lib.hid (fun W => refKept_is k hk W)
  go_enter Tryd.func27, Tryd.ntmps27
  have hd := h.drew
  clear i2
  have i3 : (↑k : Int) ≤ 12 := by omega
  go_wp2_with fail
  go_region_held3 (fun w' => GrownS w w' (fun b => b = fb))
    (first | with_reducible assumption | exact GrownS.drew _ _ | exact g3.one (grown_setCell w3 fb k _) rfl)
    (first | (go_at_call 34; refine (KP.out _).mono ?_; rintro e w3 ⟨rfl, hb3⟩; have g3 : GrownS w w3 (fun b => b = fb) := (GrownS.drew w _).below hb3; have h3 := hd.below hb3; have c3 := h3.cell k hk; have f3 : w3.frozen? ⟨fb, k, none⟩ = false := h3.b.frozen k; have b3 : Below w.heap.size w w3 := bthen (bdrew (Below.refl _ _)) hb3))
  all_goals
    go_wp2
    go_ret
    exact ⟨rfl, h3.put k _, gtrans (grown_of b3 _) (grown_setCell w3 fb k _)⟩
theorem refRead_is (fb : Nat) (rs : List Int) (t : Tup) (priv : Bool) (w : World) (h : IsFile w 68 fb rs) :
    Calls Tryd.prog 24 #[.pointer (some ⟨fb, 0, none⟩), (.agg #[.int .i64 t.crn, .int .i64 t.op1, .int .i64 t.crm, .int .i64 t.op2]), .bool priv] w fun e w' => e = .returned (readRes t priv rs) ∧ Below w.heap.size w w' := by
  have RG := refRegister_is t (w.alloc (.cells #[.int .i64 t.crn, .int .i64 t.op1, .int .i64 t.crm, .int .i64 t.op2] 31))
  have h1 := h.alloc (.cells #[.int .i64 t.crn, .int .i64 t.op1, .int .i64 t.crm, .int .i64 t.op2] 31)
  unfold regRes at RG
  unfold readRes
  cases hr : regOf t with
  | none =>
    rw [hr] at RG
    have RG := Lib.hid RG
    clear hr
    go_enter Tryd.func24, Tryd.ntmps24
    go_wp2_with (go_at_call 28; refine RG.out.mono ?_; rintro e w1 ⟨rfl, hb1⟩)
    go_ret2
    exact ⟨rfl, bbox (by simpa using hb1)⟩
  | some i =>
    have hi := regOf_lt hr
    rw [hr] at RG
    have RG := Lib.hid RG
    have i0 : (0 : Int) ≤ ↑i := by omega
    have i1 : (↑i : Int) < 13 := by omega
    clear hr
    cases priv
    all_goals
      go_enter Tryd.func24, Tryd.ntmps24
      go_wp2_with (go_at_call 28; refine RG.out.mono ?_; rintro e w1 ⟨rfl, hb1⟩; have hc1 := (h1.below hb1).cell i hi)
      go_ret2
      exact ⟨rfl, bbox (by simpa using hb1)⟩
end Go.Proofs.YtakihcdolpocjaaDoor
