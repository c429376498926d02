/- The law's named of layer 8: the tuple of a register, out of all small ones, and how many there are. -/
import Derived.Test.YtakihcdolpocjaaDoorCFile
namespace Go.Proofs.YtakihcdolpocjaaDoor
open Go.RowKit

/-- the place of a small tuple in the order of the loops -/
def tidx (a b c d : Nat) : Nat := ((a * 8 + b) * 16 + c) * 8 + d
def idxL : List Nat := [1024, 2048, 2049, 2050, 3072, 5120, 5121, 6144, 6146, 7200, 10256, 10257, 13313]
def idxOf (k : Nat) : Nat := idxL.getD k 0
def small4 (a b c d : Nat) : Tup := ⟨a, b, c, d⟩
theorem named_iff (k : Nat) (hk : k < 13) (a b c d : Nat) (ha : a < 16) (hb : b < 8) (hc : c < 16) (hd : d < 8) : regOf (small4 a b c d) = some k ↔ tidx a b c d = idxOf k := by
  constructor
  · intro h
    have e := regOf_eq h
    obtain rfl | rfl | rfl | rfl | rfl | rfl | rfl | rfl | rfl | rfl | rfl | rfl | rfl : k = 0 ∨ k = 1 ∨ k = 2 ∨ k = 3 ∨ k = 4 ∨ k = 5 ∨ k = 6 ∨ k = 7 ∨ k = 8 ∨ k = 9 ∨ k = 10 ∨ k = 11 ∨ k = 12 := by omega
    all_goals
      simp [tupOf, tupL, small4] at e
      simp [tidx, idxOf, idxL]
      omega
  · intro h
    obtain rfl | rfl | rfl | rfl | rfl | rfl | rfl | rfl | rfl | rfl | rfl | rfl | rfl : k = 0 ∨ k = 1 ∨ k = 2 ∨ k = 3 ∨ k = 4 ∨ k = 5 ∨ k = 6 ∨ k = 7 ∨ k = 8 ∨ k = 9 ∨ k = 10 ∨ k = 11 ∨ k = 12 := by omega
    all_goals
      simp [tidx, idxOf, idxL] at h
      obtain ⟨e1, e2, e3, e4⟩ : a = (((tidx a b c d) / 8) / 16) / 8 ∧ b = (((tidx a b c d) / 8) / 16) % 8 ∧ c = ((tidx a b c d) / 8) % 16 ∧ d = (tidx a b c d) % 8 := by unfold tidx; omega
      rw [show tidx a b c d = _ from h] at e1 e2 e3 e4
      subst e1 e2 e3 e4
      decide
def namedN (k i : Nat) : Int := if idxOf k < i then 1 else 0
def namedT (k i : Nat) : Tup := if idxOf k < i then tupOf k else ztup
theorem named_step (k : Nat) (hk : k < 13) (a b c d : Nat) (ha : a < 16) (hb : b < 8) (hc : c < 16) (hd : d < 8) (hne : regOf (small4 a b c d) ≠ some k) : namedN k (tidx a b c (d + 1)) = namedN k (tidx a b c d) ∧ namedT k (tidx a b c (d + 1)) = namedT k (tidx a b c d) := by
  have h := mt (named_iff k hk a b c d ha hb hc hd).2 hne
  have e : tidx a b c (d + 1) = tidx a b c d + 1 := rfl
  have i : (idxOf k < tidx a b c d + 1) = (idxOf k < tidx a b c d) := by rw [eq_iff_iff]; omega
  unfold namedN namedT
  rw [e]
  simp only [i]
  exact ⟨trivial, trivial⟩
theorem named_hit (k : Nat) (hk : k < 13) (a b c d : Nat) (ha : a < 16) (hb : b < 8) (hc : c < 16) (hd : d < 8) (he : regOf (small4 a b c d) = some k) : namedN k (tidx a b c d) = 0 ∧ namedN k (tidx a b c (d + 1)) = 1 ∧ namedT k (tidx a b c (d + 1)) = small4 a b c d := by
  have h := (named_iff k hk a b c d ha hb hc hd).1 he
  have e : tidx a b c (d + 1) = tidx a b c d + 1 := rfl
  have t := regOf_eq he
  unfold namedN namedT
  rw [e, if_neg (by omega), if_pos (by omega), if_pos (by omega), t]
  exact ⟨rfl, rfl, rfl⟩
theorem named_0 (k : Nat) : namedN k 0 = 0 ∧ namedT k 0 = ztup := ⟨by simp [namedN], by simp [namedT]⟩
theorem named_end (k : Nat) (hk : k < 13) : namedN k (tidx 16 0 0 0) = 1 ∧ namedT k (tidx 16 0 0 0) = tupOf k := by
  have : idxOf k < tidx 16 0 0 0 := by
    obtain rfl | rfl | rfl | rfl | rfl | rfl | rfl | rfl | rfl | rfl | rfl | rfl | rfl : k = 0 ∨ k = 1 ∨ k = 2 ∨ k = 3 ∨ k = 4 ∨ k = 5 ∨ k = 6 ∨ k = 7 ∨ k = 8 ∨ k = 9 ∨ k = 10 ∨ k = 11 ∨ k = 12 := by omega
    all_goals decide
  unfold namedN namedT
  rw [if_pos this, if_pos this]
  exact ⟨rfl, rfl⟩
theorem tidx_d (a b c : Nat) : tidx a b c 8 = tidx a b (c + 1) 0 := by unfold tidx; omega
theorem tidx_c (a b : Nat) : tidx a b 16 0 = tidx a (b + 1) 0 0 := by unfold tidx; omega
theorem tidx_b (a : Nat) : tidx a 8 0 0 = tidx (a + 1) 0 0 0 := by unfold tidx; omega
set_option maxHeartbeats 6400000 in
set_option maxRecDepth 100000 in
theorem named_is (k : Nat) (hk : k < 13) (w : World) (hs : Rul w) :
    Calls Tryd.prog 19 #[.int .i64 k] w fun e w' => e = .returned (.tuple #[(.agg #[.int .i64 (tupOf k).crn, .int .i64 (tupOf k).op1, .int .i64 (tupOf k).crm, .int .i64 (tupOf k).op2]), .int .i64 1]) ∧ Below w.heap.size w w' := by
  have s0 := (hs.alloc (.cells #[.int .i64 ztup.crn, .int .i64 ztup.op1, .int .i64 ztup.crm, .int .i64 ztup.op2] 31)).alloc (.cells #[.int .i64 ztup.crn, .int .i64 ztup.op1, .int .i64 ztup.crm, .int .i64 ztup.op2] 31)
  have t0 : Blok ((w.alloc (.cells #[.int .i64 ztup.crn, .int .i64 ztup.op1, .int .i64 ztup.crm, .int .i64 ztup.op2] 31)).alloc (.cells #[.int .i64 ztup.crn, .int .i64 ztup.op1, .int .i64 ztup.crm, .int .i64 ztup.op2] 31)) w.heap.size 31 #[.int .i64 ztup.crn, .int .i64 ztup.op1, .int .i64 ztup.crm, .int .i64 ztup.op2].toList := (Blok.new w _ _).alloc _
  have u0 : Blok ((w.alloc (.cells #[.int .i64 ztup.crn, .int .i64 ztup.op1, .int .i64 ztup.crm, .int .i64 ztup.op2] 31)).alloc (.cells #[.int .i64 ztup.crn, .int .i64 ztup.op1, .int .i64 ztup.crm, .int .i64 ztup.op2] 31)) (w.heap.size + 1) 31 #[.int .i64 ztup.crn, .int .i64 ztup.op1, .int .i64 ztup.crm, .int .i64 ztup.op2].toList := by
    have := Blok.new (w.alloc (.cells #[.int .i64 ztup.crn, .int .i64 ztup.op1, .int .i64 ztup.crm, .int .i64 ztup.op2] 31)) 31 #[.int .i64 ztup.crn, .int .i64 ztup.op1, .int .i64 ztup.crm, .int .i64 ztup.op2].toList
    have e : (w.alloc (.cells #[.int .i64 ztup.crn, .int .i64 ztup.op1, .int .i64 ztup.crm, .int .i64 ztup.op2] 31)).heap.size = w.heap.size + 1 := by simp
    rwa [e] at this
  have b0 : Below w.heap.size w ((w.alloc (.cells #[.int .i64 ztup.crn, .int .i64 ztup.op1, .int .i64 ztup.crm, .int .i64 ztup.op2] 31)).alloc (.cells #[.int .i64 ztup.crn, .int .i64 ztup.op1, .int .i64 ztup.crm, .int .i64 ztup.op2] 31)) := ((Below.refl _ _).alloc (Nat.le_refl _) _).alloc (by simp) _
  have hgp := hs.pos
  have NZ := Lib.hid (named_0 k)
  have NE := Lib.hid (named_end k hk)
  go_enter Tryd.func19, Tryd.ntmps19
  go_wp2
  go_loopw [5, 6] (fun v5 v6 wr => ∃ a : Nat, a ≤ 16 ∧ v6 = .int .i64 a ∧ v5 = .int .i64 (namedN k (tidx a 0 0 0)) ∧ Blok wr (w.heap.size + 1) 31 #[.int .i64 (namedT k (tidx a 0 0 0)).crn, .int .i64 (namedT k (tidx a 0 0 0)).op1, .int .i64 (namedT k (tidx a 0 0 0)).crm, .int .i64 (namedT k (tidx a 0 0 0)).op2].toList ∧ Blok wr w.heap.size 31 #[.int .i64 ztup.crn, .int .i64 ztup.op1, .int .i64 ztup.crm, .int .i64 ztup.op2].toList ∧ Rul wr ∧ Below w.heap.size w wr) (fun _ v6 _ => 16 - (intOf v6).toNat)
  case atStart => exact ⟨0, Nat.zero_le _, rfl, by rw [show tidx 0 0 0 0 = 0 from rfl, NZ.out.1], by rw [show tidx 0 0 0 0 = 0 from rfl, NZ.out.2]; exact u0, t0, s0, b0⟩
  case round =>
    obtain ⟨a, ha, rfl, rfl, hT, hZ, hR, hB⟩ := hrel
    clear u0 t0 s0 b0
    by_cases hla : a < 16
    · go_wp2
      go_loopw [5, 7] (fun v5 v7 wr => ∃ b : Nat, b ≤ 8 ∧ v7 = .int .i64 b ∧ v5 = .int .i64 (namedN k (tidx a b 0 0)) ∧ Blok wr (w.heap.size + 1) 31 #[.int .i64 (namedT k (tidx a b 0 0)).crn, .int .i64 (namedT k (tidx a b 0 0)).op1, .int .i64 (namedT k (tidx a b 0 0)).crm, .int .i64 (namedT k (tidx a b 0 0)).op2].toList ∧ Blok wr w.heap.size 31 #[.int .i64 ztup.crn, .int .i64 ztup.op1, .int .i64 ztup.crm, .int .i64 ztup.op2].toList ∧ Rul wr ∧ Below w.heap.size w wr) (fun _ v7 _ => 8 - (intOf v7).toNat)
      case atStart => exact ⟨0, Nat.zero_le _, rfl, rfl, hT, hZ, hR, hB⟩
      case round =>
        clear hT hZ hR hB
        obtain ⟨b, hb, rfl, rfl, hT, hZ, hR, hB⟩ := hrel
        by_cases hlb : b < 8
        · go_wp2
          go_loopw [5, 8] (fun v5 v8 wr => ∃ c : Nat, c ≤ 16 ∧ v8 = .int .i64 c ∧ v5 = .int .i64 (namedN k (tidx a b c 0)) ∧ Blok wr (w.heap.size + 1) 31 #[.int .i64 (namedT k (tidx a b c 0)).crn, .int .i64 (namedT k (tidx a b c 0)).op1, .int .i64 (namedT k (tidx a b c 0)).crm, .int .i64 (namedT k (tidx a b c 0)).op2].toList ∧ Blok wr w.heap.size 31 #[.int .i64 ztup.crn, .int .i64 ztup.op1, .int .i64 ztup.crm, .int .i64 ztup.op2].toList ∧ Rul wr ∧ Below w.heap.size w wr) (fun _ v8 _ => 16 - (intOf v8).toNat)
          case atStart => exact ⟨0, Nat.zero_le _, rfl, rfl, hT, hZ, hR, hB⟩
          case round =>
            clear hT hZ hR hB
            obtain ⟨c, hc, rfl, rfl, hT, hZ, hR, hB⟩ := hrel
            by_cases hlc : c < 16
            · go_wp2
              go_loopw [5, 9] (fun v5 v9 wr => ∃ d : Nat, d ≤ 8 ∧ v9 = .int .i64 d ∧ v5 = .int .i64 (namedN k (tidx a b c d)) ∧ Blok wr (w.heap.size + 1) 31 #[.int .i64 (namedT k (tidx a b c d)).crn, .int .i64 (namedT k (tidx a b c d)).op1, .int .i64 (namedT k (tidx a b c d)).crm, .int .i64 (namedT k (tidx a b c d)).op2].toList ∧ Blok wr w.heap.size 31 #[.int .i64 ztup.crn, .int .i64 ztup.op1, .int .i64 ztup.crm, .int .i64 ztup.op2].toList ∧ Rul wr ∧ Below w.heap.size w wr) (fun _ v9 _ => 8 - (intOf v9).toNat)
              case atStart => exact ⟨0, Nat.zero_le _, rfl, rfl, hT, hZ, hR, hB⟩
              case round =>
                clear hT hZ hR hB
                obtain ⟨d, hd, rfl, rfl, hT, hZ, hR, hB⟩ := hrel
                by_cases hld : d < 8
                · have hTl := hT.lt
                  have RG0 : ∀ W, Rul W → Calls Tryd.prog 15 #[.agg #[.int .i64 a, .int .i64 b, .int .i64 c, .int .i64 d]] W fun e w' => e = .returned (regRes (small4 a b c d)) ∧ Below W.heap.size W w' := fun W hW => Register_is (small4 a b c d) W hW
                  by_cases hit : regOf (small4 a b c d) = some k
                  · have HH := named_hit k hk a b c d hla hlb hlc hld hit
                    unfold regRes at RG0
                    rw [hit] at RG0
                    rw [HH.1]
                    have HN := Lib.hid HH.2
                    have RG := Lib.hid RG0
                    clear RG0 HH hit
                    go_wp2_with fail
                    refine (RG.out _ (hR.alloc _)).mono ?_
                    rintro e w1 ⟨rfl, b1⟩
                    have T1 := (hT.alloc (.cells #[.int .i64 a, .int .i64 b, .int .i64 c, .int .i64 d] 31)).below b1 (by simp; omega)
                    have Z1 := (hZ.alloc (.cells #[.int .i64 a, .int .i64 b, .int .i64 c, .int .i64 d] 31)).below b1 (by simp; omega)
                    have R1 := (hR.alloc (.cells #[.int .i64 a, .int .i64 b, .int .i64 c, .int .i64 d] 31)).below b1
                    have B1 := bthen hB (bbox (by simpa using b1))
                    have X1 : Blok w1 wr.heap.size 31 [.int .i64 a, .int .i64 b, .int .i64 c, .int .i64 d] := (Blok.new wr 31 [.int .i64 a, .int .i64 b, .int .i64 c, .int .i64 d]).below b1 (by simp)
                    (have x0 : (w1).cell? ⟨wr.heap.size, 0, none⟩ = some (.int .i64 a) := (X1).cell 0; have x1 : (w1).cell? ⟨wr.heap.size, 1, none⟩ = some (.int .i64 b) := (X1).cell 1; have x2 : (w1).cell? ⟨wr.heap.size, 2, none⟩ = some (.int .i64 c) := (X1).cell 2; have x3 : (w1).cell? ⟨wr.heap.size, 3, none⟩ = some (.int .i64 d) := (X1).cell 3)
                    go_wp2_with (refine wpList_store_blok rfl _ (.tmp 4) (.tmp 45) rfl (w.heap.size + 1) 0 #[.int .i64 a, .int .i64 b, .int .i64 c, .int .i64 d] rfl rfl T1 (by simp) (by kernel_rfl) rfl ?_; intro w2 hb2 hg2 hz2)
                    go_roundw
                    case rel =>
                      refine ⟨d + 1, by omega, by go_num, by rw [HN.out.1], by rw [HN.out.2]; exact hb2, Z1.grown hg2 (by intro e; have := Option.some.inj e; omega), R1.grown hg2 (by intro e; have := Option.some.inj e; omega), ((GrownS.ofBelow B1).one (S := fun b => w.heap.size ≤ b) hg2 (by omega)).bel (Nat.le_refl _) (fun i hi => hi)⟩
                    case measure => simp [intOf]; omega
                  · have HN := Lib.hid (named_step k hk a b c d hla hlb hlc hld hit)
                    cases hr : regOf (small4 a b c d) with
                    | none =>
                      unfold regRes at RG0
                      rw [hr] at RG0
                      have RG := Lib.hid RG0
                      clear RG0 hr hit
                      go_wp2_with fail
                      refine (RG.out _ (hR.alloc _)).mono ?_
                      rintro e w1 ⟨rfl, b1⟩
                      have T1 := (hT.alloc (.cells #[.int .i64 a, .int .i64 b, .int .i64 c, .int .i64 d] 31)).below b1 (by simp; omega)
                      have Z1 := (hZ.alloc (.cells #[.int .i64 a, .int .i64 b, .int .i64 c, .int .i64 d] 31)).below b1 (by simp; omega)
                      have R1 := (hR.alloc (.cells #[.int .i64 a, .int .i64 b, .int .i64 c, .int .i64 d] 31)).below b1
                      have B1 := bthen hB (bbox (by simpa using b1))
                      go_wp2
                      go_roundw
                      case rel => exact ⟨d + 1, by omega, by go_num, by rw [HN.out.1], by rw [HN.out.2]; exact T1, Z1, R1, B1⟩
                      case measure => simp [intOf]; omega
                    | some i =>
                      unfold regRes at RG0
                      rw [hr] at RG0
                      have RG := Lib.hid RG0
                      have hik : ¬ i = k := fun e => hit (by rw [hr, e])
                      clear RG0 hr hit
                      have hik' : ((i : Int) == (k : Int)) = false := by rw [beq_eq_false_iff_ne]; omega
                      go_wp2_with fail
                      refine (RG.out _ (hR.alloc _)).mono ?_
                      rintro e w1 ⟨rfl, b1⟩
                      have T1 := (hT.alloc (.cells #[.int .i64 a, .int .i64 b, .int .i64 c, .int .i64 d] 31)).below b1 (by simp; omega)
                      have Z1 := (hZ.alloc (.cells #[.int .i64 a, .int .i64 b, .int .i64 c, .int .i64 d] 31)).below b1 (by simp; omega)
                      have R1 := (hR.alloc (.cells #[.int .i64 a, .int .i64 b, .int .i64 c, .int .i64 d] 31)).below b1
                      have B1 := bthen hB (bbox (by simpa using b1))
                      go_wp2
                      go_roundw
                      case rel => exact ⟨d + 1, by omega, by go_num, by rw [HN.out.1], by rw [HN.out.2]; exact T1, Z1, R1, B1⟩
                      case measure => simp [intOf]; omega
                · obtain rfl : d = 8 := by omega
                  rw [tidx_d] at hT ⊢
                  go_wp2
                  go_roundw
                  case rel => exact ⟨c + 1, by omega, by go_num, rfl, hT, hZ, hR, hB⟩
                  case measure => simp [intOf]; omega
            · obtain rfl : c = 16 := by omega
              rw [tidx_c] at hT ⊢
              go_wp2
              go_roundw
              case rel => exact ⟨b + 1, by omega, by go_num, rfl, hT, hZ, hR, hB⟩
              case measure => simp [intOf]; omega
        · obtain rfl : b = 8 := by omega
          rw [tidx_b] at hT ⊢
          go_wp2
          go_roundw
          case rel => exact ⟨a + 1, by omega, by go_num, rfl, hT, hZ, hR, hB⟩
          case measure => simp [intOf]; omega
    · obtain rfl : a = 16 := by omega
      rw [NE.out.1]
      rw [NE.out.2] at hT
      have hTl := hT.lt
      (have x0 : (wr).cell? ⟨(w.heap.size + 1), 0, none⟩ = some (.int .i64 (tupOf k).crn) := (hT).cell 0; have x1 : (wr).cell? ⟨(w.heap.size + 1), 1, none⟩ = some (.int .i64 (tupOf k).op1) := (hT).cell 1; have x2 : (wr).cell? ⟨(w.heap.size + 1), 2, none⟩ = some (.int .i64 (tupOf k).crm) := (hT).cell 2; have x3 : (wr).cell? ⟨(w.heap.size + 1), 3, none⟩ = some (.int .i64 (tupOf k).op2) := (hT).cell 3)
      go_wp2_with (refine wpList_store_blok rfl _ (.tmp 2) (.tmp 48) rfl w.heap.size 0 #[.int .i64 (tupOf k).crn, .int .i64 (tupOf k).op1, .int .i64 (tupOf k).crm, .int .i64 (tupOf k).op2] rfl rfl hZ (by simp) (by kernel_rfl) rfl ?_; intro w2 hb2 hg2 hz2)
      have r0 := hb2.cell 0
      have r1 := hb2.cell 1
      have r2 := hb2.cell 2
      have r3 := hb2.cell 3
      simp at r0 r1 r2 r3
      refine bodyPost_ret (v := .tuple #[(.agg #[.int .i64 (tupOf k).crn, .int .i64 (tupOf k).op1, .int .i64 (tupOf k).crm, .int .i64 (tupOf k).op2]), .int .i64 1]) (by simp [results, Tryd.results19, go_sem, r0, r1, r2, r3]) rfl ⟨rfl, ?_⟩
      exact ((GrownS.ofBelow hB).one (S := fun b => w.heap.size ≤ b) hg2 (Nat.le_refl _)).bel (Nat.le_refl _) (fun i hi => hi)
end Go.Proofs.YtakihcdolpocjaaDoor
