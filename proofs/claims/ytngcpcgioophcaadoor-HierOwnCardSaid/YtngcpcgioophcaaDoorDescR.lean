/- The program's desc.Right and desc.Bytes, over every argument of its kind. -/
import Derived.Test.YtngcpcgioophcaaDoorDesc
namespace Go.Proofs.YtngcpcgioophcaaDoor
open Go.RowKit

theorem desc_Bytes_is (s : Int) (w : World) (hs : Shf w) : Calls Tryd.prog 66 #[.int .i64 s] w fun e w' => e = .returned (.int .u64 (bytesOf s)) ∧ ∃ n, w' = w.drewN n := by
  have hz := fun W => sized_is s W
  by_cases h : 1 ≤ s ∧ s ≤ 4
  · have e : sizedB s = true := by simp [sizedB]; omega
    rw [e] at hz
    have HZ := Lib.hid hz
    clear hz e
    obtain ⟨h0, h1, h2, h3, h4⟩ := hs
    obtain rfl | rfl | rfl | rfl : s = 1 ∨ s = 2 ∨ s = 3 ∨ s = 4 := by omega
    all_goals
      go_enter Tryd.func66, Tryd.ntmps66
      go_wp2_with (go_at_call 75; refine (HZ.out _).mono ?_; rintro e w' ⟨rfl, n, rfl⟩)
      go_ret
      exact ⟨rfl, n, rfl⟩
  · have e : sizedB s = false := by simp [sizedB]; omega
    rw [e] at hz
    have HZ := Lib.hid hz
    have e2 : bytesOf s = 0 := by unfold bytesOf; rw [if_neg (by omega), if_neg (by omega), if_neg (by omega), if_neg (by omega)]
    have E := Lib.hid e2
    clear hz e e2 h hs
    go_enter Tryd.func66, Tryd.ntmps66
    go_wp2_with (go_at_call 75; refine (HZ.out _).mono ?_; rintro e w' ⟨rfl, n, rfl⟩)
    go_ret
    exact ⟨by rw [E.out]; rfl, n, rfl⟩

set_option maxHeartbeats 3200000 in
theorem desc_Right_is (b : Blk) (hb : b.Ok) (w : World) (hs : Shf w) :
    Calls Tryd.prog 49 #[(.agg #[.int .i64 b.size, .int .u32 b.va, .int .u64 b.pa, .int .i64 b.dom, .int .i64 b.ap, .int .u32 b.bits, .bool b.ng, .bool b.xn])] w fun e w' => e = .returned (.bool (transB b)) ∧ Below w.heap.size w w' := by
  have hva0 := hb.va0
  have hva1 := hb.va1
  have hpa0 := hb.pa0
  have hz := fun W => sized_is b.size W
  by_cases h : 1 ≤ b.size ∧ b.size ≤ 4
  · have e : sizedB b.size = true := by simp [sizedB]; omega
    rw [e] at hz
    have HZ := Lib.hid hz
    have E1 := Lib.hid e
    clear hz e
    obtain ⟨h1, h4⟩ := h
    have h0 : 0 ≤ b.size := by omega
    have h5 : b.size < 5 := by omega
    have hg : ∀ o n, ((w.alloc o).drewN n).cell? ⟨0, b.size.toNat, none⟩ = some (.int .u64 (shiftOf b.size)) := fun o n => ((hs.alloc o).drewN n).at_ b.size (by omega) h4
    have hg1 : ∀ o, (w.alloc o).cell? ⟨0, b.size.toNat, none⟩ = some (.int .u64 (shiftOf b.size)) := fun o => (hs.alloc o).at_ b.size (by omega) h4
    have pl := fun W => place_is b.va (shiftOf b.size) 32 (shift_is b.size h1 h4) (.inl rfl) hva0 W
    have dm := fun W => domain_is b.dom W
    have bl := fun W (hW : Shf W) => block_is 0 b.pa 0 false b b.size h1 h4 hpa0 W hW
    obtain ⟨p, hp⟩ : ∃ p, placeB b.va (shiftOf b.size) 32 = p := ⟨_, rfl⟩
    obtain ⟨q, hq⟩ : ∃ q, domB b.dom = q := ⟨_, rfl⟩
    obtain ⟨r, hr⟩ : ∃ r, blockB b.pa b.ap b.bits b.size = r := ⟨_, rfl⟩
    rw [hp] at pl
    rw [hq] at dm
    rw [hr] at bl
    have fin : transB b = (p && q && !(decide (b.size = 4) && decide (b.dom ≠ 0)) && r) := by unfold transB; rw [E1.out, hp, hq, hr]; simp
    have HF := Lib.hid fin
    have PL := Lib.hid pl
    have DM := Lib.hid dm
    have BL := Lib.hid bl
    clear pl dm bl hp hq hr fin
    cases p
    · go_enter Tryd.func49, Tryd.ntmps49
      go_wp2_with fail
      go_quiet (first | (go_at_call 75; exact Calls.quiet_of (HZ.out _)) | (go_at_call 76; exact Calls.quiet_of (PL.out _)))
      go_wp2
      go_ret
      exact ⟨by rw [HF.out]; simp, bdrewN ((Below.refl _ _).alloc (Nat.le_refl _) _) _⟩
    · cases q
      · go_enter Tryd.func49, Tryd.ntmps49
        go_wp2_with fail
        go_quiet (first | (go_at_call 75; exact Calls.quiet_of (HZ.out _)) | (go_at_call 76; exact Calls.quiet_of (PL.out _)) | (go_at_call 77; exact Calls.quiet_of (DM.out _)))
        go_wp2
        go_ret
        exact ⟨by rw [HF.out]; simp, bdrewN ((Below.refl _ _).alloc (Nat.le_refl _) _) _⟩
      · by_cases c : b.size = 4
        · by_cases d : b.dom = 0
          · have c' : (b.size == 4) = true := beq_iff_eq.2 c
            have d' : (b.dom != 0) = false := by simp [d]
            have HF2 := Lib.hid (show transB b = r by rw [HF.out, d]; simp)
            clear c d
            go_enter Tryd.func49, Tryd.ntmps49
            go_wp2_with fail
            go_quiet (first | (go_at_call 75; exact Calls.quiet_of (HZ.out _)) | (go_at_call 76; exact Calls.quiet_of (PL.out _)) | (go_at_call 77; exact Calls.quiet_of (DM.out _)))
            go_wp2_with (go_at_call 78; refine (BL.out _ ((hs.alloc _).drewN _)).mono ?_; rintro e w' ⟨rfl, hb1⟩)
            go_ret
            exact ⟨by rw [HF2.out]; rfl, bnext (bdrewN ((Below.refl _ _).alloc (Nat.le_refl _) _) _) hb1 (Nat.le_refl _)⟩
          · have c' : (b.size == 4) = true := beq_iff_eq.2 c
            have d' : (b.dom != 0) = true := by simp [d]
            have HF2 := Lib.hid (show transB b = false by rw [HF.out]; simp [c, d])
            clear c d
            go_enter Tryd.func49, Tryd.ntmps49
            go_wp2_with fail
            go_quiet (first | (go_at_call 75; exact Calls.quiet_of (HZ.out _)) | (go_at_call 76; exact Calls.quiet_of (PL.out _)) | (go_at_call 77; exact Calls.quiet_of (DM.out _)))
            go_wp2
            go_ret
            exact ⟨by rw [HF2.out]; rfl, bdrewN ((Below.refl _ _).alloc (Nat.le_refl _) _) _⟩
        · have c' : (b.size == 4) = false := beq_eq_false_iff_ne.2 c
          have HF2 := Lib.hid (show transB b = r by rw [HF.out]; simp [c])
          clear c
          go_enter Tryd.func49, Tryd.ntmps49
          go_wp2_with fail
          go_quiet (first | (go_at_call 75; exact Calls.quiet_of (HZ.out _)) | (go_at_call 76; exact Calls.quiet_of (PL.out _)) | (go_at_call 77; exact Calls.quiet_of (DM.out _)))
          go_wp2_with (go_at_call 78; refine (BL.out _ ((hs.alloc _).drewN _)).mono ?_; rintro e w' ⟨rfl, hb1⟩)
          go_ret
          exact ⟨by rw [HF2.out]; rfl, bnext (bdrewN ((Below.refl _ _).alloc (Nat.le_refl _) _) _) hb1 (Nat.le_refl _)⟩
  · have e : sizedB b.size = false := by simp [sizedB]; omega
    rw [e] at hz
    have HZ := Lib.hid hz
    have E1 := Lib.hid e
    clear hz e h hs
    go_enter Tryd.func49, Tryd.ntmps49
    go_wp2_with fail
    go_quiet ((go_at_call 75; exact Calls.quiet_of (HZ.out _)))
    go_wp2
    go_ret
    exact ⟨by unfold transB; rw [E1.out]; rfl, bdrewN ((Below.refl _ _).alloc (Nat.le_refl _) _) _⟩
end Go.Proofs.YtngcpcgioophcaaDoor
