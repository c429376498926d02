/- The walk of the law HierMakes of layer 11: New of any sizes, and the places of all three behind it. -/
import Derived.Test.YtakihcdolpocjaaMkA
namespace Go.Proofs.Ytakihcdolpocjaa
open Go.RowKit

set_option maxHeartbeats 3200000 in
set_option maxRecDepth 100000 in
theorem makes_yes (n1 n2 n3 : Nat) (a1 : 1 ≤ n1) (b1 : n1 ≤ 64) (a2 : 1 ≤ n2) (b2 : n2 ≤ 64) (a3 : 1 ≤ n3) (b3 : n3 ≤ 64) (w : World) :
    Calls Try.prog 14 #[.int .i64 n1, .int .i64 n2, .int .i64 n3] w fun e w' => ∃ hb tb gb rb rtb rgb, e = .returned (.tuple #[.pointer (some ⟨hb, 0, none⟩), .pointer (some ⟨rb, 0, none⟩), .bool true]) ∧ IsHier w' hb tb gb (rows3 n1 n2 n3) ∧ IsRef w' rb rtb rgb (rows3 n1 n2 n3) ∧ Below w.heap.size w w' := by
  have HN := Lib.hid (hier_New_yes n1 n2 n3 a1 b1 a2 b2 a3 b3 w)
  have RN := Lib.hid (fun W => ref11_New_yes n1 n2 n3 a1 b1 a2 b2 a3 b3 W)
  go_enter Try.func14, Try.ntmps14
  go_wp2_with (first
    | (go_at_call 21; refine (RN.out _).mono ?_; rintro e w2 ⟨rb, rtb, rgb, rfl, hR2, hr2, hB2⟩)
    | (go_at_call 20; refine HN.out.mono ?_; rintro e w1 ⟨hb, tb, gb, rfl, hH1, hf1, hB1⟩))
  go_ret3
  exact ⟨hb, tb, gb, rb, rtb, rgb, rfl, hH1.below hB2, hR2, bthen hB1 hB2⟩
theorem Calls.bel {P : Program} {f : FuncId} {args : Array Value} {w : World} {v : Value} (h : Calls P f args w fun e w' => e = .returned v ∧ w = w') : Calls P f args w fun e w' => e = .returned v ∧ Below w.heap.size w w' :=
  h.mono fun _ _ ⟨he, hw⟩ => ⟨he, by rw [← hw]; exact Below.refl _ _⟩
set_option maxHeartbeats 6400000 in
set_option maxRecDepth 100000 in
theorem makes_all (n1 n2 n3 : Nat) (a1 : 1 ≤ n1) (b1 : n1 ≤ 64) (a2 : 1 ≤ n2) (b2 : n2 ≤ 64) (a3 : 1 ≤ n3) (b3 : n3 ≤ 64) (w : World) :
    Calls Try.prog 6 #[.int .i64 n1, .int .i64 n2, .int .i64 n3] w fun e w' => e = .returned (.bool true) ∧ Below w.heap.size w w' := by
  have BY := Lib.hid (makes_yes n1 n2 n3 a1 b1 a2 b2 a3 b3 w)
  obtain ⟨ys, hys⟩ : ∃ ys, rows3 n1 n2 n3 = ys := ⟨_, rfl⟩
  rw [hys] at BY
  clear hys
  go_enter Try.func6, Try.ntmps6
  go_wp2_with fail
  refine BY.out.mono ?_
  rintro e w1 ⟨hb, tb, gb, rb, rtb, rgb, rfl, hH, hR, hB⟩
  clear BY
  go_wp2_with fail
  go_loopw [10] (fun v10 wq => ∃ j : Nat, j ≤ 5 ∧ v10 = .int .i64 j ∧ IsHier wq hb tb gb ys ∧ IsRef wq rb rtb rgb ys ∧ Below w.heap.size w wq) (fun v10 _ => 5 - (intOf v10).toNat)
  case atStart => exact ⟨0, by omega, rfl, hH, hR, hB⟩
  case round =>
    clear hH hR hB
    obtain ⟨j, hj5, rfl, hHq, hRq, hBq⟩ := hrel
    by_cases hl5 : j < 5
    · by_cases hlj : 1 ≤ j ∧ j ≤ 3
      · obtain ⟨hj1, hj3⟩ := hlj
        have hle := (hHq.th.t j hj1 hj3).le
        have HF := Lib.hid (hier_Places_yes j hj1 hj3 hb tb gb ys _ hHq)
        have RF := Lib.hid (fun W hW => ref11_Places_yes j hj1 hj3 rb rtb rgb ys W hW)
        have SF := Lib.hid (fun ga gb ca cb W ha hb => slots_is ga gb (ys j).length ca cb (ys j) rfl hle W ha hb)
        clear hj1 hj3 hle
        go_wp2_with (first
          | (go_at_call 15; refine (SF.out _ _ _ _ _ (hA4.below hB5) hA5).mono ?_; rintro e w6 ⟨rfl, hB6⟩)
          | (go_at_call 17; refine (RF.out _ r4).mono ?_; rintro e w5 ⟨g, cap, rfl, hA5, hg5, hB5⟩)
          | (go_at_call 16; refine HF.out.mono ?_; rintro e w4 ⟨rfl, hL4, hz4, hB4⟩; have hA4 := RowAt.of hL4; have r4 := hRq.below hB4))
        go_roundw
        case rel => exact ⟨j + 1, by omega, by go_num, ((hHq.below hB4).below hB5).below hB6, (r4.below hB5).below hB6, bthen (bthen (bthen hBq hB4) hB5) hB6⟩
        case measure => simp [intOf]; omega
      · have hno : (j : Int) < 1 ∨ 3 < (j : Int) := by omega
        have HF := Lib.hid (fun W => Calls.bel (hier_Places_no j hno ⟨hb, 0, none⟩ W))
        have RF := Lib.hid (fun W => Calls.bel (ref11_Places_no j hno ⟨rb, 0, none⟩ W))
        have SF := Lib.hid (fun W => Calls.bel (slots_nil W))
        clear hlj hno
        go_wp2_with (first
          | (go_at_call 15; refine (SF.out _).mono ?_; rintro e w6 ⟨rfl, hB6⟩)
          | (go_at_call 17; refine (RF.out _).mono ?_; rintro e w5 ⟨rfl, hB5⟩)
          | (go_at_call 16; refine (HF.out _).mono ?_; rintro e w4 ⟨rfl, hB4⟩))
        go_roundw
        case rel => exact ⟨j + 1, by omega, by go_num, ((hHq.below hB4).below hB5).below hB6, ((hRq.below hB4).below hB5).below hB6, bthen (bthen (bthen hBq hB4) hB5) hB6⟩
        case measure => simp [intOf]; omega
    · go_wp2
      go_ret
      exact ⟨rfl, hBq⟩
theorem makes_walk (n1 n2 n3 : Int) (w : World) :
    Calls Try.prog 6 #[.int .i64 n1, .int .i64 n2, .int .i64 n3] w fun e w' => e = .returned (.bool true) ∧ Below w.heap.size w w' := by
  by_cases h : Ok1 n1 ∧ Ok1 n2 ∧ Ok1 n3
  · obtain ⟨⟨a1, b1⟩, ⟨a2, b2⟩, ⟨a3, b3⟩⟩ := h
    obtain ⟨m1, rfl⟩ := Int.eq_ofNat_of_zero_le (show 0 ≤ n1 by omega)
    obtain ⟨m2, rfl⟩ := Int.eq_ofNat_of_zero_le (show 0 ≤ n2 by omega)
    obtain ⟨m3, rfl⟩ := Int.eq_ofNat_of_zero_le (show 0 ≤ n3 by omega)
    exact makes_all m1 m2 m3 (by omega) (by omega) (by omega) (by omega) (by omega) (by omega) w
  · have BN := Lib.hid (both_no n1 n2 n3 h w)
    clear h
    go_enter Try.func6, Try.ntmps6
    go_wp2_with (go_at_call 14; refine BN.out.mono ?_; rintro e w1 ⟨rfl, hB1⟩)
    go_ret
    exact ⟨rfl, hB1⟩
end Go.Proofs.Ytakihcdolpocjaa
