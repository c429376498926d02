/- The walk of the law Cp15Mask of layer 8. -/
import Derived.Test.YtakihcdolpocjaaDoorCTuples
import Derived.Test.YtakihcdolpocjaaDoorCHeld
import Derived.Test.YtakihcdolpocjaaDoorCNamed
import Derived.ChangeKeysEq
namespace Go.Proofs.YtakihcdolpocjaaDoor
open Go.RowKit

theorem regCells_lit0 (rs : List Int) (h : rs.length = 13) : (regCells rs).toArray = #[.int .u32 (rg rs 0), .int .u32 (rg rs 1), .int .u32 (rg rs 2), .int .u32 (rg rs 3), .int .u32 (rg rs 4), .int .u32 (rg rs 5), .int .u32 (rg rs 6), .int .u32 (rg rs 7), .int .u32 (rg rs 8), .int .u32 (rg rs 9), .int .u32 (rg rs 10), .int .u32 (rg rs 11), .int .u32 (rg rs 12)] := by
  match rs, h with
  | [a0, a1, a2, a3, a4, a5, a6, a7, a8, a9, a10, a11, a12], _ => rfl
set_option maxHeartbeats 1600000 in
theorem eqIn_regs (a0 a1 a2 a3 a4 a5 a6 a7 a8 a9 a10 a11 a12 : Int) (w : World) : (Op.equalIn (9999 + 1) 37 (.agg #[.int .u32 a0, .int .u32 a1, .int .u32 a2, .int .u32 a3, .int .u32 a4, .int .u32 a5, .int .u32 a6, .int .u32 a7, .int .u32 a8, .int .u32 a9, .int .u32 a10, .int .u32 a11, .int .u32 a12]) (.agg #[.int .u32 a0, .int .u32 a1, .int .u32 a2, .int .u32 a3, .int .u32 a4, .int .u32 a5, .int .u32 a6, .int .u32 a7, .int .u32 a8, .int .u32 a9, .int .u32 a10, .int .u32 a11, .int .u32 a12])).run Tryd.prog w = .ok true w := by
  rw [run_equalIn_array w 9999 _ _ Tryd.underlying37 rfl]
  rw [show Tryd.prog.cellsOf 32 = 1 by kernel_rfl]
  simp [Op.eqItems, List.range_succ, go_sem]
theorem bel_one {w u v : World} {b : Nat} (hb : w.heap.size ≤ b) (B : Below w.heap.size w u) (g : u.grownBy v (some b)) : Below w.heap.size w v := ((GrownS.ofBelow (S := fun b => w.heap.size ≤ b) B).one g hb).bel (Nat.le_refl _) (fun _ hi => hi)
def rgA (rs : List Int) : Array Value := #[.int .u32 (rg rs 0), .int .u32 (rg rs 1), .int .u32 (rg rs 2), .int .u32 (rg rs 3), .int .u32 (rg rs 4), .int .u32 (rg rs 5), .int .u32 (rg rs 6), .int .u32 (rg rs 7), .int .u32 (rg rs 8), .int .u32 (rg rs 9), .int .u32 (rg rs 10), .int .u32 (rg rs 11), .int .u32 (rg rs 12)]
theorem eql_regs (rs : List Int) (w : World) : (binOp .eql 37 (.agg (rgA rs)) (.agg (rgA rs))).run Tryd.prog w = .ok (.bool true) w := by
  rw [run_eql_struct, show (10000 : Nat) = 9999 + 1 from rfl]; unfold rgA; rw [eqIn_regs]; rfl
theorem neq_regs (rs : List Int) (w : World) : (binOp .neq 37 (.agg (rgA rs)) (.agg (rgA rs))).run Tryd.prog w = .ok (.bool false) w := by
  rw [run_neq_struct, show (10000 : Nat) = 9999 + 1 from rfl]; unfold rgA; rw [eqIn_regs]; rfl
theorem held_isA (fb : Nat) (rs : List Int) (w : World) (h : IsFile w 63 fb rs) :
    Calls Tryd.prog 13 #[.pointer (some ⟨fb, 0, none⟩)] w fun e w' => e = .returned (.agg (rgA rs)) ∧ Below w.heap.size w w' := by
  have := held_is fb rs w h
  rwa [regCells_lit0 rs h.len] at this
theorem regOf_tup (k : Nat) (hk : k < 13) : regOf (tupOf k) = some k := by
  obtain rfl | rfl | rfl | rfl | rfl | rfl | rfl | rfl | rfl | rfl | rfl | rfl | rfl : k = 0 ∨ k = 1 ∨ k = 2 ∨ k = 3 ∨ k = 4 ∨ k = 5 ∨ k = 6 ∨ k = 7 ∨ k = 8 ∨ k = 9 ∨ k = 10 ∨ k = 11 ∨ k = 12 := by omega
  all_goals rfl
theorem keep_ones (k : Nat) (hk : k < 13) : keep k 4294967295 = keptOf k ∧ keep k 0 = 0 := by
  obtain rfl | rfl | rfl | rfl | rfl | rfl | rfl | rfl | rfl | rfl | rfl | rfl | rfl : k = 0 ∨ k = 1 ∨ k = 2 ∨ k = 3 ∨ k = 4 ∨ k = 5 ∨ k = 6 ∨ k = 7 ∨ k = 8 ∨ k = 9 ∨ k = 10 ∨ k = 11 ∨ k = 12 := by omega
  all_goals exact ⟨by decide +kernel, by decide +kernel⟩
theorem set_set (rs : List Int) (k : Nat) (a b : Int) : (rs.set k a).set k b = rs.set k b := by simp
theorem rg_set_self (k : Nat) (hk : k < 13) (a : Int) : rg (startL.set k a) k = a := by rw [rg_set _ _ _ _ (by decide +revert), if_pos rfl]
set_option maxHeartbeats 6400000 in
set_option maxRecDepth 100000 in
theorem mask_no (reg word : Int) (hr : reg < 0 ∨ 13 ≤ reg) (w : World) (hs : Rul w) :
    Calls Tryd.prog 6 #[.int .i64 reg, .int .u32 word] w fun e w' => e = .returned (.bool true) ∧ Below w.heap.size w w' := by
  have NR : ∀ W, Rul W → Calls Tryd.prog 8 #[] W fun e w' => ∃ rb, W.heap.size ≤ rb ∧ e = .returned (.pointer (some ⟨rb, 0, none⟩)) ∧ IsFile w' 63 rb startL ∧ Below W.heap.size W w' :=
    fun W hW => (New_is W hW).mono fun e w' h => ⟨_, Nat.le_refl _, h⟩
  have NR := Lib.hid NR
  have GN := Lib.hid (fun fb W => Get_no ⟨fb, 0, none⟩ reg hr W)
  have PN := Lib.hid (fun fb W => Put_no ⟨fb, 0, none⟩ reg word hr W)
  have heq := eql_regs startL
  rcases hr with hr | hr
  all_goals
    go_enter Tryd.func6, Tryd.ntmps6
    go_wp2_with fail
    refine (NR.out _ hs).mono ?_
    rintro e w1 ⟨fb, hfb, rfl, F1, b1⟩
    have s1 := hs.below b1
    go_wp2_with fail
    refine (NR.out _ s1).mono ?_
    rintro e w2 ⟨gb, hgb, rfl, R2, b2⟩
    have s2 := s1.below b2
    have F2 := F1.below b2
    go_wp2_with fail
    refine (live_is w2 s2).mono ?_
    rintro e w3 ⟨rfl, b3⟩
    have F3 := F2.below b3
    have R3 := R2.below b3
    have B3 : Below w.heap.size w w3 := bthen (bthen b1 b2) b3
    clear hfb hgb s1 s2 F1 F2 R2 b1 b2 b3
    go_wp2_with fail
    refine (GN.out _ _).mono ?_
    rintro e w4 ⟨rfl, rfl⟩
    go_wp2_with (go_at_call 16; refine (no8_is _ _).mono ?_; rintro e w10 ⟨rfl, rfl⟩)
    refine (PN.out _ _).mono ?_
    rintro e w4 ⟨rfl, rfl⟩
    go_wp2_with (go_at_call 16; refine (no8_is _ _).mono ?_; rintro e w10 ⟨rfl, rfl⟩)
    refine (held_isA fb startL _ F3).mono ?_
    rintro e w5 ⟨rfl, b5⟩
    go_wp2_with fail
    refine (held_isA gb startL _ (R3.below b5)).mono ?_
    rintro e w6 ⟨rfl, b6⟩
    go_wp2_with fail
    go_ret
    exact ⟨rfl, bthen (bthen B3 b5) b6⟩
set_option maxHeartbeats 12800000 in
set_option maxRecDepth 100000 in
theorem mask_yes (k : Nat) (hk : k < 13) (word : Int) (v0 : 0 ≤ word) (v1 : word ≤ 4294967295) (w : World) (hs : Rul w) :
    Calls Tryd.prog 6 #[.int .i64 k, .int .u32 word] w fun e w' => e = .returned (.bool true) ∧ Below w.heap.size w w' := by
  have NR : ∀ W, Rul W → Calls Tryd.prog 8 #[] W fun e w' => ∃ rb, W.heap.size ≤ rb ∧ e = .returned (.pointer (some ⟨rb, 0, none⟩)) ∧ IsFile w' 63 rb startL ∧ Below W.heap.size W w' :=
    fun W hW => (New_is W hW).mono fun e w' h => ⟨_, Nat.le_refl _, h⟩
  have NR := Lib.hid NR
  have KO := Lib.hid (keep_ones k hk)
  have GT := Lib.hid (fun fb rs W hF => Get_yes 63 fb rs k hk W hF)
  have PT := Lib.hid (fun fb rs v W hW hF => Put_yes fb rs k hk v W hW hF)
  have ND := Lib.hid (fun W hW => named_is k hk W hW)
  obtain ⟨rs, hrs⟩ : ∃ rs, startL.set k (keep k word) = rs := ⟨_, rfl⟩
  have hrk : rg rs k = keep k word := by rw [← hrs]; exact rg_set_self k hk _
  have WR0 : ∀ gb W, Rul W → IsFile W 63 gb (startL.set k 0) → Calls Tryd.prog 20 #[.pointer (some ⟨gb, 0, none⟩), (.agg #[.int .i64 (tupOf k).crn, .int .i64 (tupOf k).op1, .int .i64 (tupOf k).crm, .int .i64 (tupOf k).op2]), .bool true, .int .u32 word] W fun e w' => e = .returned (.tuple #[.agg (if hidB k = true then zactA else regA), .int .i64 0]) ∧ IsFile w' 63 gb rs ∧ W.grownBy w' (some gb) := by
    intro gb W hW hF
    have := Write_is gb _ (tupOf k) true word v0 v1 W hW hF
    unfold WritePost writeR at this
    rw [regOf_tup k hk] at this
    simpa only [if_true, set_set, hrs] using this
  have WR := Lib.hid WR0
  have RD0 : ∀ gb W, Rul W → IsFile W 63 gb rs → Calls Tryd.prog 21 #[.pointer (some ⟨gb, 0, none⟩), (.agg #[.int .i64 (tupOf k).crn, .int .i64 (tupOf k).op1, .int .i64 (tupOf k).crm, .int .i64 (tupOf k).op2]), .bool true] W fun e w' => e = .returned (.tuple #[.int .u32 (keep k word), .int .i64 0]) ∧ Below W.heap.size W w' := by
    intro gb W hW hF
    have := Read_is gb rs (tupOf k) true W hW hF
    unfold readRes at this
    rw [regOf_tup k hk] at this
    simpa only [if_true, hrk] using this
  have RD := Lib.hid RD0
  have kw : bits .and .u32 word (keep k 4294967295) = keep k word := by rw [KO.out.1]; rfl
  have KW := Lib.hid kw
  have HK := Lib.hid hrk
  have HS := Lib.hid hrs
  have heq := eql_regs rs
  clear WR0 RD0 hrk kw hrs
  have hgp := hs.pos
  have i0 : (0 : Int) ≤ ↑k := by omega
  have i1 : (↑k : Int) < 13 := by omega
  have i2 : (↑k : Int) ≤ 12 := by omega
  clear v0 v1
  go_enter Tryd.func6, Tryd.ntmps6
  go_wp2_with fail
  refine (NR.out _ hs).mono ?_
  rintro e w1 ⟨fb, hfb, rfl, F1, b1⟩
  have s1 := hs.below b1
  have l1 := F1.b.lt
  go_wp2_with fail
  refine (NR.out _ s1).mono ?_
  rintro e w2 ⟨gb, hgb, rfl, R2, b2⟩
  have s2 := s1.below b2
  have F2 := F1.below b2
  go_wp2_with fail
  refine (live_is w2 s2).mono ?_
  rintro e w3 ⟨rfl, b3⟩
  have s3 := s2.below b3
  have F3 := F2.below b3
  have R3 := R2.below b3
  have B3 : Below w.heap.size w w3 := bthen (bthen b1 b2) b3
  have hne : fb ≠ gb := by omega
  have hfr : fb ≠ 0 := by omega
  have hgr : gb ≠ 0 := by omega
  have hgb' : w.heap.size ≤ gb := by omega
  have nfg : some fb ≠ some gb := by intro e; exact hne (Option.some.inj e)
  have ngf : some gb ≠ some fb := by intro e; exact hne (Option.some.inj e).symm
  have nfr : some fb ≠ some 0 := by intro e; exact hfr (Option.some.inj e)
  have ngr : some gb ≠ some 0 := by intro e; exact hgr (Option.some.inj e)
  clear hgb l1 hgp s1 s2 F1 F2 R2 b1 b2 b3
  have hneL := Lib.hid hne
  have nL := Lib.hid (And.intro nfg (And.intro ngf (And.intro nfr ngr)))
  clear hne hfr hgr nfg ngf nfr ngr
  go_wp2_with fail
  refine (PT.out _ _ _ _ s3 F3).mono ?_
  rintro e w4 ⟨rfl, F4, g4⟩
  have R4 := R3.far g4 nL.out.1
  have s4 := s3.grown g4 nL.out.2.2.1
  have B4 := bel_one hfb B3 g4
  go_wp2_with (go_at_call 16; refine (no8_is _ _).mono ?_; rintro e w10 ⟨rfl, rfl⟩)
  refine (GT.out _ _ _ F4).mono ?_
  rintro e w5 ⟨rfl, rfl⟩
  rw [rg_set_self k hk]
  go_wp2_with fail
  refine (PT.out _ _ _ _ s4 F4).mono ?_
  rintro e w5 ⟨rfl, F5, g5⟩
  rw [set_set, HS.out] at F5
  have R5 := R4.far g5 nL.out.1
  have s5 := s4.grown g5 nL.out.2.2.1
  have B5 := bel_one hfb B4 g5
  go_wp2_with (go_at_call 16; refine (no8_is _ _).mono ?_; rintro e w10 ⟨rfl, rfl⟩)
  refine (PT.out _ _ _ _ s5 R5).mono ?_
  rintro e w6 ⟨rfl, R6, g6⟩
  rw [KO.out.2] at R6
  have F6 := F5.far g6 nL.out.2.1
  have s6 := s5.grown g6 nL.out.2.2.2
  have B6 := bel_one hgb' B5 g6
  go_wp2_with (go_at_call 16; refine (no8_is _ _).mono ?_; rintro e w10 ⟨rfl, rfl⟩)
  refine (GT.out _ _ _ F6).mono ?_
  rintro e w7 ⟨rfl, rfl⟩
  rw [HK.out]
  go_wp2_with fail
  refine (GT.out _ _ _ R6).mono ?_
  rintro e w7 ⟨rfl, rfl⟩
  rw [rg_set_self k hk]
  go_wp2_with fail
  refine (ND.out _ s6).mono ?_
  rintro e w7 ⟨rfl, b7⟩
  have F7 := (F6.below b7).alloc (.cells #[.int .i64 (tupOf k).crn, .int .i64 (tupOf k).op1, .int .i64 (tupOf k).crm, .int .i64 (tupOf k).op2] 31)
  have R7 := (R6.below b7).alloc (.cells #[.int .i64 (tupOf k).crn, .int .i64 (tupOf k).op1, .int .i64 (tupOf k).crm, .int .i64 (tupOf k).op2] 31)
  have s7 := (s6.below b7).alloc (.cells #[.int .i64 (tupOf k).crn, .int .i64 (tupOf k).op1, .int .i64 (tupOf k).crm, .int .i64 (tupOf k).op2] 31)
  have B7 := (bthen B6 b7).alloc (bthen B6 b7).size (.cells #[.int .i64 (tupOf k).crn, .int .i64 (tupOf k).op1, .int .i64 (tupOf k).crm, .int .i64 (tupOf k).op2] 31)
  have T7 : Blok (w7.alloc (.cells #[.int .i64 (tupOf k).crn, .int .i64 (tupOf k).op1, .int .i64 (tupOf k).crm, .int .i64 (tupOf k).op2] 31)) w7.heap.size 31 (#[.int .i64 (tupOf k).crn, .int .i64 (tupOf k).op1, .int .i64 (tupOf k).crm, .int .i64 (tupOf k).op2] : Array Value).toList := Blok.new w7 _ _
  have hgt : w7.heap.size ≠ gb := by have := (R6.below b7).b.lt; omega
  go_wp2_with fail
  refine (WR.out _ _ s7 R7).mono ?_
  rintro e w8 ⟨rfl, R8, g8⟩
  have F8 := F7.far g8 nL.out.2.1
  have s8 := s7.grown g8 nL.out.2.2.2
  have B8 := bel_one hgb' B7 g8
  have T8 := T7.grown g8 (by intro e; exact hgt (Option.some.inj e))
  have hTl := T8.lt
  (have x0 : (w8).cell? ⟨w7.heap.size, 0, none⟩ = some (.int .i64 (tupOf k).crn) := (T8).cell 0; have x1 : (w8).cell? ⟨w7.heap.size, 1, none⟩ = some (.int .i64 (tupOf k).op1) := (T8).cell 1; have x2 : (w8).cell? ⟨w7.heap.size, 2, none⟩ = some (.int .i64 (tupOf k).crm) := (T8).cell 2; have x3 : (w8).cell? ⟨w7.heap.size, 3, none⟩ = some (.int .i64 (tupOf k).op2) := (T8).cell 3)
  by_cases hh : 5 ≤ k ∧ k ≤ 9
  · have e0 : (if hidB k = true then zactA else regA) = zactA := by rw [if_pos (by unfold hidB; simp; omega)]
    rw [e0]
    clear e0
    unfold zactA
    have j0 : (4 : Int) < ↑k := by omega
    have j1 : (↑k : Int) < 10 := by omega
    clear hh i2
    have A8 : Blok (w8.alloc (.cells #[.int .i64 0, .int .i64 0, .int .u32 0, .int .i64 0, .int .u32 0, .bool false, .bool false] 42)) w8.heap.size 42 (#[.int .i64 0, .int .i64 0, .int .u32 0, .int .i64 0, .int .u32 0, .bool false, .bool false] : Array Value).toList := Blok.new w8 _ _
    go_wp2_with fail
    refine (RD.out _ _ (s8.alloc _) (R8.alloc _)).mono ?_
    rintro e w9 ⟨rfl, b9⟩
    have F9 := (F8.alloc _).below b9
    have R9 := (R8.alloc _).below b9
    have B9 := bthen (B8.alloc B8.size _) b9
    have A9 := A8.below b9 (by simp)
    have hAl := A9.lt
    (have a0 : (w9).cell? ⟨w8.heap.size, 0, none⟩ = some (.int .i64 0) := (A9).cell 0; have a1 : (w9).cell? ⟨w8.heap.size, 1, none⟩ = some (.int .i64 0) := (A9).cell 1; have a2 : (w9).cell? ⟨w8.heap.size, 2, none⟩ = some (.int .u32 0) := (A9).cell 2; have a3 : (w9).cell? ⟨w8.heap.size, 3, none⟩ = some (.int .i64 0) := (A9).cell 3; have a4 : (w9).cell? ⟨w8.heap.size, 4, none⟩ = some (.int .u32 0) := (A9).cell 4; have a5 : (w9).cell? ⟨w8.heap.size, 5, none⟩ = some (.bool false) := (A9).cell 5; have a6 : (w9).cell? ⟨w8.heap.size, 6, none⟩ = some (.bool false) := (A9).cell 6)
    have kw := KW.out
    go_wp2_with (go_at_call 16; refine (no8_is _ _).mono ?_; rintro e w10 ⟨rfl, rfl⟩)
    refine (held_isA fb rs _ F9).mono ?_
    rintro e w10 ⟨rfl, b10⟩
    go_wp2_with fail
    refine (held_isA gb rs _ (R9.below b10)).mono ?_
    rintro e w11 ⟨rfl, b11⟩
    go_wp2_with fail
    go_ret
    exact ⟨by first | rfl | (simp; omega), bthen (bthen B9 b10) b11⟩
  · have e0 : (if hidB k = true then zactA else regA) = regA := by rw [if_neg (by unfold hidB; simp; omega)]
    rw [e0]
    clear e0
    unfold regA
    by_cases hh2 : k < 5
    · have j0 : (↑k : Int) ≤ 4 := by omega
      clear hh hh2 i2
      have A8 : Blok (w8.alloc (.cells #[.int .i64 1, .int .i64 0, .int .u32 0, .int .i64 0, .int .u32 0, .bool false, .bool false] 42)) w8.heap.size 42 (#[.int .i64 1, .int .i64 0, .int .u32 0, .int .i64 0, .int .u32 0, .bool false, .bool false] : Array Value).toList := Blok.new w8 _ _
      go_wp2_with fail
      refine (RD.out _ _ (s8.alloc _) (R8.alloc _)).mono ?_
      rintro e w9 ⟨rfl, b9⟩
      have F9 := (F8.alloc _).below b9
      have R9 := (R8.alloc _).below b9
      have B9 := bthen (B8.alloc B8.size _) b9
      have A9 := A8.below b9 (by simp)
      have hAl := A9.lt
      (have a0 : (w9).cell? ⟨w8.heap.size, 0, none⟩ = some (.int .i64 1) := (A9).cell 0; have a1 : (w9).cell? ⟨w8.heap.size, 1, none⟩ = some (.int .i64 0) := (A9).cell 1; have a2 : (w9).cell? ⟨w8.heap.size, 2, none⟩ = some (.int .u32 0) := (A9).cell 2; have a3 : (w9).cell? ⟨w8.heap.size, 3, none⟩ = some (.int .i64 0) := (A9).cell 3; have a4 : (w9).cell? ⟨w8.heap.size, 4, none⟩ = some (.int .u32 0) := (A9).cell 4; have a5 : (w9).cell? ⟨w8.heap.size, 5, none⟩ = some (.bool false) := (A9).cell 5; have a6 : (w9).cell? ⟨w8.heap.size, 6, none⟩ = some (.bool false) := (A9).cell 6)
      have kw := KW.out
      go_wp2_with (go_at_call 16; refine (no8_is _ _).mono ?_; rintro e w10 ⟨rfl, rfl⟩)
      refine (held_isA fb rs _ F9).mono ?_
      rintro e w10 ⟨rfl, b10⟩
      go_wp2_with fail
      refine (held_isA gb rs _ (R9.below b10)).mono ?_
      rintro e w11 ⟨rfl, b11⟩
      go_wp2_with fail
      go_ret
      exact ⟨by first | rfl | (simp; omega), bthen (bthen B9 b10) b11⟩
    · have j0 : (4 : Int) < ↑k := by omega
      have j1 : (10 : Int) ≤ ↑k := by omega
      clear hh hh2
      have A8 : Blok (w8.alloc (.cells #[.int .i64 1, .int .i64 0, .int .u32 0, .int .i64 0, .int .u32 0, .bool false, .bool false] 42)) w8.heap.size 42 (#[.int .i64 1, .int .i64 0, .int .u32 0, .int .i64 0, .int .u32 0, .bool false, .bool false] : Array Value).toList := Blok.new w8 _ _
      go_wp2_with fail
      refine (RD.out _ _ (s8.alloc _) (R8.alloc _)).mono ?_
      rintro e w9 ⟨rfl, b9⟩
      have F9 := (F8.alloc _).below b9
      have R9 := (R8.alloc _).below b9
      have B9 := bthen (B8.alloc B8.size _) b9
      have A9 := A8.below b9 (by simp)
      have hAl := A9.lt
      (have a0 : (w9).cell? ⟨w8.heap.size, 0, none⟩ = some (.int .i64 1) := (A9).cell 0; have a1 : (w9).cell? ⟨w8.heap.size, 1, none⟩ = some (.int .i64 0) := (A9).cell 1; have a2 : (w9).cell? ⟨w8.heap.size, 2, none⟩ = some (.int .u32 0) := (A9).cell 2; have a3 : (w9).cell? ⟨w8.heap.size, 3, none⟩ = some (.int .i64 0) := (A9).cell 3; have a4 : (w9).cell? ⟨w8.heap.size, 4, none⟩ = some (.int .u32 0) := (A9).cell 4; have a5 : (w9).cell? ⟨w8.heap.size, 5, none⟩ = some (.bool false) := (A9).cell 5; have a6 : (w9).cell? ⟨w8.heap.size, 6, none⟩ = some (.bool false) := (A9).cell 6)
      have kw := KW.out
      go_wp2_with (go_at_call 16; refine (no8_is _ _).mono ?_; rintro e w10 ⟨rfl, rfl⟩)
      refine (held_isA fb rs _ F9).mono ?_
      rintro e w10 ⟨rfl, b10⟩
      go_wp2_with fail
      refine (held_isA gb rs _ (R9.below b10)).mono ?_
      rintro e w11 ⟨rfl, b11⟩
      go_wp2_with fail
      go_ret
      exact ⟨by first | rfl | (simp; omega), bthen (bthen B9 b10) b11⟩
theorem mask_walk (reg word : Int) (v0 : 0 ≤ word) (v1 : word ≤ 4294967295) (w : World) (hs : Rul w) :
    Calls Tryd.prog 6 #[.int .i64 reg, .int .u32 word] w fun e w' => e = .returned (.bool true) ∧ Below w.heap.size w w' := by
  by_cases h : 0 ≤ reg ∧ reg < 13
  · obtain ⟨k, rfl⟩ := Int.eq_ofNat_of_zero_le h.1
    exact mask_yes k (by omega) word v0 v1 w hs
  · exact mask_no reg word (by omega) w hs
end Go.Proofs.YtakihcdolpocjaaDoor
