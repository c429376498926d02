/- Layer 20: status. -/
import Derived.Test.YtpfhplhamnohjaaUKem
namespace Go.Proofs.Ytpfhplhamnohjaa
set_option maxHeartbeats 25600000
set_option maxRecDepth 100000
open Go.RowKit

/-- the bits that an MSR writes -/
def msrB (i : Ins) : Int := bits .or .u32 (if bits .and .i64 i.amount 8 = 0 then 0 else 4026531840) (if bits .and .i64 i.amount 1 = 0 then 0 else 159)
def msrV (o : Sta) (at_ : Int) (i : Ins) : Int := if i.form = 1 then expW i.imm else getI o at_ i.rm
def msrX (old v m : Int) : Int := bits .or .u32 (bits .andNot .u32 old m) (bits .and .u32 v m)
def statS (o s : Sta) (at_ : Int) (i : Ins) : Option Sta :=
  if i.op = 47 then (if i.s then (if ownN o = 0 then none else some (putS s i.rd (o (23 + (ownN o).toNat)))) else some (putS s i.rd (o 29)))
  else if i.s then (if ownN o = 0 then none else some (set s (23 + (ownN o).toNat) (msrX (s (23 + (ownN o).toNat)) (msrV o at_ i) (msrB i))))
  else
    (let m := if userB o then bits .and .u32 (msrB i) 4026531840 else msrB i
     let v := msrX (o 29) (msrV o at_ i) m
     if (bankB (v % 32)).2 then some (set s 29 v) else none)
theorem own_lt (o : Sta) : 0 ≤ ownN o ∧ ownN o < 5 := bankW_lt _
theorem mrs_done (o s : Sta) (b : Value) (at_ : Int) (i : Ins) (wt : Bool) (g : Nat) (t : TypeId) (ho : OkS o) (hs : OkS s) (hi : InsOk i) (hop : i.op = 47) (W : World) (h : Blok W g t (workCells o s b at_ i wt)) :
    Calls Try.prog 55 #[.pointer (some ⟨g, 0, none⟩)] W (Done W g t o s b at_ i wt (statS o s at_ i)) := by
  have c63 : W.cell? ⟨g, 63, none⟩ = some (.int .i64 i.op) := h.cell 63
  have c64 : W.cell? ⟨g, 64, none⟩ = some (.bool i.s) := h.cell 64
  have c66 : W.cell? ⟨g, 66, none⟩ = some (.int .i64 i.rd) := h.cell 66
  have c29 := work_old h 29 (by omega)
  have PT := Lib.hid (fun v k => put_is o s b at_ i wt g t i.rd v hs hi.rd (W.drewN k) (h.drewN k))
  have PT0 := Lib.hid (fun v => put_is o s b at_ i wt g t i.rd v hs hi.rd W h)
  obtain ⟨r, hr⟩ : ∃ r, r = statS o s at_ i := ⟨_, rfl⟩
  rw [← hr]
  unfold statS at hr
  rw [if_pos hop] at hr
  rw [hop] at c63
  cases zs : i.s
  · rw [zs] at c64 hr
    have HR := Lib.hid (show r = some (putS s i.rd (o 29)) by rw [hr]; rfl)
    clear hr hop zs
    go_enter Try.func55, Try.ntmps55
    go_wp2_with (go_at_call 66; (with_reducible refine (PT0.out _).mono ?_); rintro e w2 ⟨rfl, B2, g2⟩)
    first | go_end0 | refine bodyPost_ret (results_none rfl _ _ _) rfl ?_
    rw [HR.out]
    exact ⟨rfl, B2, g2⟩
  rw [zs] at c64 hr
  by_cases h0 : ownN o = 0
  · have HR := Lib.hid (show r = none by rw [hr, if_pos h0]; rfl)
    have OW := Lib.hid (fun W' (k : Blok W' g t (workCells o s b at_ i wt)) => own_no o s b at_ i wt g t ho (by simp [h0]) W' k)
    clear hr hop zs h0
    go_enter Try.func55, Try.ntmps55
    go_wp2_with fail
    refine wp_region_held_drew (S := fun _ => True) (by kernel_rfl) trivial (fun hHeld => ?_)
    (refine take_at (i := 0) (d := some 24) (v := ?_) rfl (by rfl) (by kernel_rfl) (by kernel_rfl) (by kernel_rfl) (fun _ _ _ h => h) (Or.inl ⟨by rfl, ?_⟩) (by with_reducible assumption) ?_; rotate_left 1; (· ((intro w hSw); (try dsimp only at hSw); first | (go_simp; done) | (go_simp; with_reducible rfl))); (try simp only [Act.put, List.setIfInBounds_toArray, List.set_cons_zero, List.set_cons_succ]))
    (refine take_at (i := 1) (d := some 25) (v := ?_) rfl (by rfl) (by kernel_rfl) (by kernel_rfl) (by kernel_rfl) (fun _ _ _ h => h) (Or.inl ⟨by rfl, ?_⟩) (by with_reducible assumption) ?_; rotate_left 1; (· ((intro w hSw); (try dsimp only at hSw); first | (go_simp; done) | (go_simp; with_reducible rfl))); (try simp only [Act.put, List.setIfInBounds_toArray, List.set_cons_zero, List.set_cons_succ]))
    (refine take_at (i := 3) (d := some 27) (v := ?_) rfl (by rfl) (by kernel_rfl) (by kernel_rfl) (by kernel_rfl) (fun _ _ _ h => h) (Or.inl ⟨by rfl, ?_⟩) (by with_reducible assumption) ?_; rotate_left 1; (· ((intro w hSw); (try dsimp only at hSw); first | (go_simp; done) | (go_simp; with_reducible rfl))); (try simp only [Act.put, List.setIfInBounds_toArray, List.set_cons_zero, List.set_cons_succ]))
    (refine take_at (i := 4) (d := some 28) (v := ?_) rfl (by rfl) (by kernel_rfl) (by kernel_rfl) (by kernel_rfl) (fun _ _ _ h => h) (Or.inl ⟨by rfl, ?_⟩) (by with_reducible assumption) ?_; rotate_left 1; (· ((intro w hSw); (try dsimp only at hSw); first | (go_simp; done) | (go_simp; with_reducible rfl))); (try simp only [Act.put, List.setIfInBounds_toArray, List.set_cons_zero, List.set_cons_succ]))
    (refine take_at (i := 5) (d := some 29) (v := ?_) rfl (by rfl) (by kernel_rfl) (by kernel_rfl) (by kernel_rfl) (fun _ _ _ h => h) (Or.inl ⟨by rfl, ?_⟩) (by with_reducible assumption) ?_; rotate_left 1; (· ((intro w hSw); (try dsimp only at hSw); first | (go_simp; done) | (go_simp; with_reducible rfl))); (try simp only [Act.put, List.setIfInBounds_toArray, List.set_cons_zero, List.set_cons_succ]))
    refine wpAnyH_ready (rs := [2]) (by kernel_rfl) (by simp) ?_
    refine AllReadyH.cons rfl (fun K hK => ?_) AllReadyH.nil
    go_simp
    go_at_call 72
    refine (OW.out _ (h.drewN 1)).mono ?_
    rintro e w8 ⟨rfl, rfl⟩
    refine And.intro rfl ?_
    rw [HR.out]
    exact ⟨rfl, h.drewN 1, grown_drewN _ _ _⟩
  · have HR := Lib.hid (show r = some (putS s i.rd (o (23 + (ownN o).toNat))) by rw [hr, if_neg h0]; rfl)
    have OW := Lib.hid (fun W' (k : Blok W' g t (workCells o s b at_ i wt)) => own_yes o s b at_ i wt g t ho (by simp [h0]) W' k)
    have ol := own_lt o
    have cn := work_old h (23 + (ownN o).toNat) (by omega)
    clear hr hop zs h0
    generalize ownN o = n at OW HR cn ol
    obtain ⟨n0, n5⟩ := ol
    go_enter Try.func55, Try.ntmps55
    go_wp2_with fail
    go_quiet ((go_at_call 72; exact Calls.quiet_of_same ((OW.out _ (h.drewN _)).mono fun _ _ h => ⟨h.1, h.2.symm⟩)))
    go_wp2_with (go_at_call 66; (with_reducible refine (PT.out _ _).mono ?_); rintro e w2 ⟨rfl, B2, g2⟩)
    first | go_end0 | refine bodyPost_ret (results_none rfl _ _ _) rfl ?_
    rw [HR.out]
    exact ⟨rfl, B2, grown_then (bdrewN (Below.refl _ _) _) g2⟩
theorem and8 (n : Int) (hn : 0 ≤ n ∧ n < 32) : bits .and .i64 n 8 = 0 ∨ bits .and .i64 n 8 = 8 := by
  have : ∀ k : Fin 32, bits .and .i64 (k.val : Int) 8 = 0 ∨ bits .and .i64 (k.val : Int) 8 = 8 := by decide
  have h := this ⟨n.toNat, by omega⟩
  simpa [Int.toNat_of_nonneg hn.1] using h
theorem and1 (n : Int) (hn : 0 ≤ n ∧ n < 32) : bits .and .i64 n 1 = 0 ∨ bits .and .i64 n 1 = 1 := by
  have : ∀ k : Fin 32, bits .and .i64 (k.val : Int) 1 = 0 ∨ bits .and .i64 (k.val : Int) 1 = 1 := by decide
  have h := this ⟨n.toNat, by omega⟩
  simpa [Int.toNat_of_nonneg hn.1] using h
theorem msr_done (o s : Sta) (b : Value) (at_ : Int) (i : Ins) (wt : Bool) (g : Nat) (t : TypeId) (ho : OkS o) (hi : InsOk i) (hop : i.op = 48) (W : World) (h : Blok W g t (workCells o s b at_ i wt)) :
    Calls Try.prog 55 #[.pointer (some ⟨g, 0, none⟩)] W (Done W g t o s b at_ i wt (statS o s at_ i)) := by
  have c63 : W.cell? ⟨g, 63, none⟩ = some (.int .i64 i.op) := h.cell 63
  have c64 : W.cell? ⟨g, 64, none⟩ = some (.bool i.s) := h.cell 64
  have c65 : W.cell? ⟨g, 65, none⟩ = some (.int .i64 i.form) := h.cell 65
  have c68 : W.cell? ⟨g, 68, none⟩ = some (.int .i64 i.rm) := h.cell 68
  have c71 : W.cell? ⟨g, 71, none⟩ = some (.int .u32 i.imm) := h.cell 71
  have c73 : W.cell? ⟨g, 73, none⟩ = some (.int .i64 i.amount) := h.cell 73
  have c29 := work_old h 29 (by omega)
  have d29 : W.cell? ⟨g, 59, none⟩ = some (.int .u32 (s 29)) := work_new h 29 (by omega)
  have e29 := h.frozen 59
  have GM := Lib.hid (get_is' o s b at_ i wt g t i.rm ho hi.rm W h)
  have EX := Lib.hid (fun c W => Expand_is i.imm hi.imm.1 hi.imm.2 c W)
  have US := Lib.hid (fun k => user_is o s b at_ i wt g t ho (W.drewN k) (h.drewN k))
  rw [hop] at c63
  obtain ⟨r, hr⟩ : ∃ r, r = statS o s at_ i := ⟨_, rfl⟩
  rw [← hr]
  unfold statS at hr
  rw [if_neg (by omega)] at hr
  have HV := Lib.hid (show msrV o at_ i = if i.form = 1 then expW i.imm else getI o at_ i.rm from rfl)
  have HM := Lib.hid (show msrB i = bits .or .u32 (if bits .and .i64 i.amount 8 = 0 then 0 else 4026531840) (if bits .and .i64 i.amount 1 = 0 then 0 else 159) from rfl)
  generalize msrV o at_ i = v at hr HV
  generalize msrB i = m at hr HM
  generalize expW i.imm = ev at EX HV
  generalize getI o at_ i.rm = gv at GM HV
  have a8 := and8 i.amount hi.amount
  have a1 := and1 i.amount hi.amount
  generalize hx8 : bits .and .i64 i.amount 8 = x8 at HM a8
  generalize hx1 : bits .and .i64 i.amount 1 = x1 at HM a1
  have HR := Lib.hid hr
  have bz : bits .or .u32 0 4026531840 = 4026531840 := by decide
  have by1 : bits .or .u32 0 159 = 159 := by decide
  clear hr hop
  go_enter Try.func55, Try.ntmps55
  go_upto_if 52 with (go_at_call 64; (with_reducible refine (GM.out).mono ?_); rintro e w1 ⟨rfl, k, rfl⟩)
  go_cut [3] (fun s3 wx => s3 = .int .u32 v ∧ wx = W.drewN k)
  case first =>
    by_cases hf : i.form = 1
    · have z : (i.form == 1) = true := by simp [hf]
      have hv : v = ev := by rw [HV.out, if_pos hf]
      clear hf
      subst hv
      go_wp2_with (go_at_call 73; (with_reducible refine (EX.out _ _).mono ?_); rintro e w2 ⟨rfl, rfl⟩)
      go_meet
      exact ⟨rfl, rfl⟩
    · have z : (i.form == 1) = false := by simp [hf]
      have hv : v = gv := by rw [HV.out, if_neg hf]
      clear hf
      subst hv
      go_wp2_with fail
      go_meet
      exact ⟨rfl, rfl⟩
  case rest =>
    obtain ⟨rfl, rfl⟩ := hcut
    clear c65 c68 c71 GM EX HV
    go_upto_if 68 with fail
    go_cut [4] (fun s4 wx => s4 = .int .u32 (if x8 = 0 then 0 else 4026531840) ∧ wx = W.drewN k)
    case first =>
      rcases a8 with rfl | rfl
      · go_wp2_with fail
        go_meet
        exact ⟨rfl, rfl⟩
      · go_wp2_with fail
        go_meet
        exact ⟨by rw [← bz]; rfl, rfl⟩
    case rest =>
      obtain ⟨rfl, rfl⟩ := hcut
      go_upto_if 77 with fail
      go_cut [4] (fun s4 wx => s4 = .int .u32 m ∧ wx = W.drewN k)
      case first =>
        rcases a1 with rfl | rfl
        · rcases a8 with rfl | rfl
          · go_wp2_with fail
            go_meet
            exact ⟨by rw [HM.out]; rfl, rfl⟩
          · go_wp2_with fail
            go_meet
            exact ⟨by rw [HM.out]; rfl, rfl⟩
        · rcases a8 with rfl | rfl
          · go_wp2_with fail
            go_meet
            exact ⟨by rw [HM.out]; rfl, rfl⟩
          · go_wp2_with fail
            go_meet
            exact ⟨by rw [HM.out]; rfl, rfl⟩
      case rest =>
        obtain ⟨rfl, rfl⟩ := hcut
        have hR := HR.out
        have hk := h.drewN k
        have bk : Below W.heap.size W (W.drewN k) := bdrewN (Below.refl _ _) k
        clear HR HM hx8 hx1 a8 a1 c73 bz by1 c63 c64 c29 d29 e29 US
        generalize W.drewN k = V at hk bk ⊢
        have c64 : V.cell? ⟨g, 64, none⟩ = some (.bool i.s) := hk.cell 64
        cases zs : i.s
        · rw [zs] at c64 hR
          have c29 := work_old hk 29 (by omega)
          have d29 : V.cell? ⟨g, 59, none⟩ = some (.int .u32 (s 29)) := work_new hk 29 (by omega)
          have e29 := hk.frozen 59
          have US := Lib.hid (user_is o s b at_ i wt g t ho V hk)
          have HS := Lib.hid (fun x => (hk.setwork 29 (by omega) x : Blok (V.setCell ⟨g, 59, none⟩ (.int .u32 x)) g t _))
          have key : ∀ (m' : Int), Hid (r = if (bankB (msrX (o 29) v m' % 32)).2 = true then some (set s 29 (msrX (o 29) v m')) else none) → True := fun _ _ => trivial
          clear key
          cases hu : userB o
          all_goals
            rw [hu] at hR US
            simp only [Bool.false_eq_true, if_false, if_true] at hR
          · have ux : 0 ≤ msrX (o 29) v m ∧ msrX (o 29) v m < 4294967296 := bits32 _ _ _
            have HX : bits .or .u32 (bits .andNot .u32 (o 29) m) (bits .and .u32 v m) = msrX (o 29) v m := rfl
            have m2 : bits .and .u32 (msrX (o 29) v m) 31 = msrX (o 29) v m % 32 := and32 5 (by decide) _ ux.1 (by simpa using ux.2)
            have d1 : wrap64 (msrX (o 29) v m % 32) = msrX (o 29) v m % 32 := by unfold wrap64; omega
            clear ux
            generalize msrX (o 29) v m = x at m2 d1 HX hR
            have BK := Lib.hid (fun W => Bank_is (x % 32) W)
            generalize bankB (x % 32) = bb at BK hR
            obtain ⟨b1, b2⟩ := bb
            dsimp only at BK hR
            cases b2
            · have HN := Lib.hid (show r = none by rw [hR]; rfl)
              clear hR zs hu
              go_wp2_with (first | (go_at_call 74; (with_reducible refine (US.out).mono ?_); rintro e w4 ⟨rfl, rfl⟩) | (go_at_call 31; (with_reducible refine (BK.out _).mono ?_); rintro e w5 ⟨rfl, rfl⟩))
              refine And.intro rfl ?_
              rw [HN.out]
              exact ⟨rfl, hk, grown_of bk _⟩
            · have HN := Lib.hid (show r = some (set s 29 x) by rw [hR]; rfl)
              clear hR zs hu
              go_wp2_with (first | (go_at_call 74; (with_reducible refine (US.out).mono ?_); rintro e w4 ⟨rfl, rfl⟩) | (go_at_call 31; (with_reducible refine (BK.out _).mono ?_); rintro e w5 ⟨rfl, rfl⟩))
              go_end0
              rw [HN.out]
              exact ⟨rfl, HS.out _, grown_then bk (grown_one _ _ _ _)⟩
          · have ux : 0 ≤ msrX (o 29) v (bits .and .u32 m 4026531840) ∧ msrX (o 29) v (bits .and .u32 m 4026531840) < 4294967296 := bits32 _ _ _
            have HX : bits .or .u32 (bits .andNot .u32 (o 29) (bits .and .u32 m 4026531840)) (bits .and .u32 v (bits .and .u32 m 4026531840)) = msrX (o 29) v (bits .and .u32 m 4026531840) := rfl
            have m2 : bits .and .u32 (msrX (o 29) v (bits .and .u32 m 4026531840)) 31 = msrX (o 29) v (bits .and .u32 m 4026531840) % 32 := and32 5 (by decide) _ ux.1 (by simpa using ux.2)
            have d1 : wrap64 (msrX (o 29) v (bits .and .u32 m 4026531840) % 32) = msrX (o 29) v (bits .and .u32 m 4026531840) % 32 := by unfold wrap64; omega
            clear ux
            generalize msrX (o 29) v (bits .and .u32 m 4026531840) = x at m2 d1 HX hR
            have BK := Lib.hid (fun W => Bank_is (x % 32) W)
            generalize bankB (x % 32) = bb at BK hR
            obtain ⟨b1, b2⟩ := bb
            dsimp only at BK hR
            cases b2
            · have HN := Lib.hid (show r = none by rw [hR]; rfl)
              clear hR zs hu
              go_wp2_with (first | (go_at_call 74; (with_reducible refine (US.out).mono ?_); rintro e w4 ⟨rfl, rfl⟩) | (go_at_call 31; (with_reducible refine (BK.out _).mono ?_); rintro e w5 ⟨rfl, rfl⟩))
              refine And.intro rfl ?_
              rw [HN.out]
              exact ⟨rfl, hk, grown_of bk _⟩
            · have HN := Lib.hid (show r = some (set s 29 x) by rw [hR]; rfl)
              clear hR zs hu
              go_wp2_with (first | (go_at_call 74; (with_reducible refine (US.out).mono ?_); rintro e w4 ⟨rfl, rfl⟩) | (go_at_call 31; (with_reducible refine (BK.out _).mono ?_); rintro e w5 ⟨rfl, rfl⟩))
              go_end0
              rw [HN.out]
              exact ⟨rfl, HS.out _, grown_then bk (grown_one _ _ _ _)⟩
        · rw [zs] at c64 hR
          simp only [if_true] at hR
          by_cases h0 : ownN o = 0
          · have HN := Lib.hid (show r = none by rw [hR, if_pos h0])
            have OW := Lib.hid (fun W' (k : Blok W' g t (workCells o s b at_ i wt)) => own_no o s b at_ i wt g t ho (by simp [h0]) W' k)
            clear hR zs h0
            go_wp2_with fail
            refine wp_region_held_drew (S := fun _ => True) (by kernel_rfl) trivial (fun hHeld => ?_)
            (refine take_at (i := 0) (d := some 85) (v := ?_) rfl (by rfl) (by kernel_rfl) (by kernel_rfl) (by kernel_rfl) (fun _ _ _ h => h) (Or.inl ⟨by rfl, ?_⟩) (by with_reducible assumption) ?_; rotate_left 1; (· ((intro w hSw); (try dsimp only at hSw); first | (go_simp; done) | (go_simp; with_reducible rfl))); (try simp only [Act.put, List.setIfInBounds_toArray, List.set_cons_zero, List.set_cons_succ]))
            (refine take_at (i := 1) (d := some 86) (v := ?_) rfl (by rfl) (by kernel_rfl) (by kernel_rfl) (by kernel_rfl) (fun _ _ _ h => h) (Or.inl ⟨by rfl, ?_⟩) (by with_reducible assumption) ?_; rotate_left 1; (· ((intro w hSw); (try dsimp only at hSw); first | (go_simp; done) | (go_simp; with_reducible rfl))); (try simp only [Act.put, List.setIfInBounds_toArray, List.set_cons_zero, List.set_cons_succ]))
            (refine take_at (i := 3) (d := some 88) (v := ?_) rfl (by rfl) (by kernel_rfl) (by kernel_rfl) (by kernel_rfl) (fun _ _ _ h => h) (Or.inl ⟨by rfl, ?_⟩) (by with_reducible assumption) ?_; rotate_left 1; (· ((intro w hSw); (try dsimp only at hSw); first | (go_simp; done) | (go_simp; with_reducible rfl))); (try simp only [Act.put, List.setIfInBounds_toArray, List.set_cons_zero, List.set_cons_succ]))
            (refine take_at (i := 4) (d := some 89) (v := ?_) rfl (by rfl) (by kernel_rfl) (by kernel_rfl) (by kernel_rfl) (fun _ _ _ h => h) (Or.inl ⟨by rfl, ?_⟩) (by with_reducible assumption) ?_; rotate_left 1; (· ((intro w hSw); (try dsimp only at hSw); first | (go_simp; done) | (go_simp; with_reducible rfl))); (try simp only [Act.put, List.setIfInBounds_toArray, List.set_cons_zero, List.set_cons_succ]))
            (refine take_at (i := 5) (d := some 90) (v := ?_) rfl (by rfl) (by kernel_rfl) (by kernel_rfl) (by kernel_rfl) (fun _ _ _ h => h) (Or.inl ⟨by rfl, ?_⟩) (by with_reducible assumption) ?_; rotate_left 1; (· ((intro w hSw); (try dsimp only at hSw); first | (go_simp; done) | (go_simp; with_reducible rfl))); (try simp only [Act.put, List.setIfInBounds_toArray, List.set_cons_zero, List.set_cons_succ]))
            refine wpAnyH_ready (rs := [2]) (by kernel_rfl) (by simp) ?_
            refine AllReadyH.cons rfl (fun K hK => ?_) AllReadyH.nil
            go_simp
            go_at_call 72
            refine (OW.out _ (hk.drewN 1)).mono ?_
            rintro e w8 ⟨rfl, rfl⟩
            refine And.intro rfl ?_
            rw [HN.out]
            exact ⟨rfl, hk.drewN 1, grown_of (bdrewN bk 1) _⟩
          · have HN := Lib.hid (show r = some (set s (23 + (ownN o).toNat) (msrX (s (23 + (ownN o).toNat)) v m)) by rw [hR, if_neg h0])
            have OW := Lib.hid (fun W' (k : Blok W' g t (workCells o s b at_ i wt)) => own_yes o s b at_ i wt g t ho (by simp [h0]) W' k)
            have ol := own_lt o
            have hl : 23 + (ownN o).toNat < 30 := by omega
            have cn := work_new hk (23 + (ownN o).toNat) hl
            have fn := hk.frozen (30 + (23 + (ownN o).toNat))
            have HS := Lib.hid (fun q x => (hk.drewN q).setwork (23 + (ownN o).toNat) hl x)
            clear hR zs h0 hl
            generalize ownN o = n at OW HN cn fn ol HS
            obtain ⟨n0, n5⟩ := ol
            have ea : 30 + (23 + n.toNat) = 53 + n.toNat := by omega
            rw [ea] at cn fn
            have HA := Lib.hid ea
            clear ea
            go_wp2_with fail
            go_quiet ((go_at_call 72; exact Calls.quiet_of_same ((OW.out _ (hk.drewN _)).mono fun _ _ h => ⟨h.1, h.2.symm⟩)))
            go_wp2_with fail
            first | go_end0 | refine bodyPost_ret (results_none rfl _ _ _) rfl ?_
            rw [HN.out]
            have q := HS.out nq (msrX (s (23 + n.toNat)) v m)
            rw [HA.out] at q
            exact ⟨rfl, q, grown_then (bdrewN bk _) (grown_one _ _ _ _)⟩
end Go.Proofs.Ytpfhplhamnohjaa
