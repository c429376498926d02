/- The program's registers of layer 8 (cp15) in memory: Get, Put, Read. -/
import Derived.Test.YtakihcdolpocjaaDoorCRules
namespace Go.Proofs.YtakihcdolpocjaaDoor
open Go.RowKit

/-- what register k holds -/
def rg (rs : List Int) (k : Nat) : Int := rs.getD k 0
def regCells (rs : List Int) : List Value := rs.map (Value.int .u32)
/-- a file of registers behind a pointer -/
structure IsFile (w : World) (ft : TypeId) (fb : Nat) (rs : List Int) : Prop where
  b : Blok w fb ft (regCells rs)
  len : rs.length = 13
section
variable {w w' : World} {ft : TypeId} {fb : Nat} {rs : List Int}
theorem IsFile.cell (h : IsFile w ft fb rs) (k : Nat) (hk : k < 13) : w.cell? ⟨fb, k, none⟩ = some (.int .u32 (rg rs k)) := by
  rw [h.b.cell]
  have : k < rs.length := by rw [h.len]; exact hk
  simp [regCells, rg, List.getD_eq_getElem?_getD, this]
theorem IsFile.below (h : IsFile w ft fb rs) (hb : Below w.heap.size w w') : IsFile w' ft fb rs := ⟨h.b.below hb h.b.lt, h.len⟩
theorem IsFile.alloc (h : IsFile w ft fb rs) (o : Obj) : IsFile (w.alloc o) ft fb rs := h.below ((Below.refl _ _).alloc (Nat.le_refl _) o)
theorem IsFile.drewN (h : IsFile w ft fb rs) (n : Nat) : IsFile (w.drewN n) ft fb rs := h.below (bdrewN (Below.refl _ _) n)
theorem IsFile.drew (h : IsFile w ft fb rs) : IsFile w.drew ft fb rs := h.below (bdrew (Below.refl _ _))
theorem IsFile.far {r : Option Nat} (h : IsFile w ft fb rs) (hg : w.grownBy w' r) (hr : r ≠ some fb) : IsFile w' ft fb rs := ⟨h.b.grown hg (fun e => hr e.symm), h.len⟩
theorem IsFile.put (h : IsFile w ft fb rs) (k : Nat) (v : Int) : IsFile (w.setCell ⟨fb, k, none⟩ (.int .u32 v)) ft fb (rs.set k v) :=
  ⟨by have := h.b.set_ k (.int .u32 v); unfold regCells at *; rwa [List.map_set], by simp [h.len]⟩
theorem grown_setCell (w : World) (g o : Nat) (v : Value) : w.grownBy (w.setCell ⟨g, o, none⟩ v) (some g) := by
  have := (grown_setCells [v] (w := w) (g := g) o).1
  simpa [World.setCells] using this
end
theorem Get_yes (ft : TypeId) (fb : Nat) (rs : List Int) (k : Nat) (hk : k < 13) (w : World) (h : IsFile w ft fb rs) :
    Calls Tryd.prog 18 #[.pointer (some ⟨fb, 0, none⟩), .int .i64 k] w fun e w' => e = .returned (.tuple #[.int .u32 (rg rs k), .int .i64 0]) ∧ w = w' := by
  have c := h.cell k hk
  go_enter Tryd.func18, Tryd.ntmps18
  go_wp2
  go_ret2
  exact ⟨rfl, rfl⟩
theorem Get_no (fb : Addr) (k : Int) (hk : k < 0 ∨ 13 ≤ k) (w : World) :
    Calls Tryd.prog 18 #[.pointer (some fb), .int .i64 k] w fun e w' => e = .returned (.tuple #[.int .u32 0, .int .i64 1]) ∧ w = w' := by
  rcases hk with hk | hk
  all_goals
    go_enter Tryd.func18, Tryd.ntmps18
    go_wp2
  all_goals
    go_ret2
    exact ⟨rfl, rfl⟩
theorem Put_no (fb : Addr) (k v : Int) (hk : k < 0 ∨ 13 ≤ k) (w : World) :
    Calls Tryd.prog 17 #[.pointer (some fb), .int .i64 k, .int .u32 v] w fun e w' => e = .returned (.int .i64 1) ∧ w = w' := by
  rcases hk with hk | hk
  all_goals
    go_enter Tryd.func17, Tryd.ntmps17
    go_wp2
  all_goals
    go_ret
    exact ⟨rfl, rfl⟩
/-- the kept bits of a word -/
def keep (k : Nat) (v : Int) : Int := bits .and .u32 v (keptOf k)
theorem Put_yes (fb : Nat) (rs : List Int) (k : Nat) (hk : k < 13) (v : Int) (w : World) (hs : Rul w) (h : IsFile w 63 fb rs) :
    Calls Tryd.prog 17 #[.pointer (some ⟨fb, 0, none⟩), .int .i64 k, .int .u32 v] w fun e w' => e = .returned (.int .i64 0) ∧ IsFile w' 63 fb (rs.set k (keep k v)) ∧ w.grownBy w' (some fb) := by
  have c := h.cell k hk
  have f : w.frozen? ⟨fb, k, none⟩ = false := h.b.frozen k
  have r := hs.kept k hk
  have i0 : (0 : Int) ≤ ↑k := by omega
  have i1 : (↑k : Int) < 13 := by omega
  go_enter Tryd.func17, Tryd.ntmps17
  go_wp2_with fail
  (refine wp_region_tail 11 (by kernel_rfl) (by kernel_rfl) ?_; simp only [List.take_succ_cons, List.take_zero, List.drop_succ_cons, List.drop_zero]; (repeat still_step); (try refine wpStill_nil ?_))
  go_wp2
  go_ret
  exact ⟨rfl, (h.put k (keep k v)).drew, gnext (grown_setCell w fb k _) (bdrew (Below.refl _ _))⟩
/-- Read's answer -/
def readRes (t : Tup) (priv : Bool) (rs : List Int) : Value := match regOf t with | none => .tuple #[.int .u32 0, .int .i64 80] | some i => if priv = true then .tuple #[.int .u32 (rg rs i), .int .i64 0] else .tuple #[.int .u32 0, .int .i64 81]
theorem Read_is (fb : Nat) (rs : List Int) (t : Tup) (priv : Bool) (w : World) (hs : Rul w) (h : IsFile w 63 fb rs) :
    Calls Tryd.prog 21 #[.pointer (some ⟨fb, 0, none⟩), (.agg #[.int .i64 t.crn, .int .i64 t.op1, .int .i64 t.crm, .int .i64 t.op2]), .bool priv] w fun e w' => e = .returned (readRes t priv rs) ∧ Below w.heap.size w w' := by
  have RG := Register_is t (w.alloc (.cells #[.int .i64 t.crn, .int .i64 t.op1, .int .i64 t.crm, .int .i64 t.op2] 31)) (hs.alloc _)
  have h1 := h.alloc (.cells #[.int .i64 t.crn, .int .i64 t.op1, .int .i64 t.crm, .int .i64 t.op2] 31)
  unfold regRes at RG
  unfold readRes
  cases hr : regOf t with
  | none =>
    rw [hr] at RG
    have RG := Lib.hid RG
    clear hr
    go_enter Tryd.func21, Tryd.ntmps21
    go_wp2_with (go_at_call 15; refine RG.out.mono ?_; rintro e w1 ⟨rfl, hb1⟩)
    go_ret2
    exact ⟨rfl, bbox (by simpa using hb1)⟩
  | some i =>
    have hi := regOf_lt hr
    rw [hr] at RG
    have RG := Lib.hid RG
    have i0 : (0 : Int) ≤ ↑i := by omega
    have i1 : (↑i : Int) < 13 := by omega
    clear hr
    cases priv
    all_goals
      go_enter Tryd.func21, Tryd.ntmps21
      go_wp2_with (go_at_call 15; refine RG.out.mono ?_; rintro e w1 ⟨rfl, hb1⟩; have hc1 := (h1.below hb1).cell i hi)
      go_ret2
      exact ⟨rfl, bbox (by simpa using hb1)⟩
/-- the registers when k of them have been laid -/
def startTo (k : Nat) : List Int := (List.range 13).map (fun i => if i < k then startOf i else 0)
theorem startTo_len (k : Nat) : (startTo k).length = 13 := by simp [startTo]
theorem startTo_next (k : Nat) (hk : k < 13) : startTo (k + 1) = (startTo k).set k (startOf k) := by
  obtain rfl | rfl | rfl | rfl | rfl | rfl | rfl | rfl | rfl | rfl | rfl | rfl | rfl : k = 0 ∨ k = 1 ∨ k = 2 ∨ k = 3 ∨ k = 4 ∨ k = 5 ∨ k = 6 ∨ k = 7 ∨ k = 8 ∨ k = 9 ∨ k = 10 ∨ k = 11 ∨ k = 12 := by omega
  all_goals rfl
theorem startTo_13 : startTo 13 = startL := rfl
set_option maxHeartbeats 1600000 in
theorem New_is (w : World) (hs : Rul w) : Calls Tryd.prog 8 #[] w fun e w' => e = .returned (.pointer (some ⟨w.heap.size, 0, none⟩)) ∧ IsFile w' 63 w.heap.size startL ∧ Below w.heap.size w w' := by
  have hrg := (hs.alloc (.cells (regCells (startTo 0)).toArray 63)).range
  have hF0 : IsFile (w.alloc (.cells (regCells (startTo 0)).toArray 63)) 63 w.heap.size (startTo 0) := ⟨Blok.new w _ _, startTo_len 0⟩
  go_enter Tryd.func8, Tryd.ntmps8
  go_wp2_with (refine wpList_load_mid rfl 66 (.global 0) rfl 0 0 rfl rulesL _ hrg Tryd.underlying66 rfl (by kernel_rfl) ?_)
  go_loopw [7] (fun v7 wr => ∃ k : Nat, k ≤ 13 ∧ v7 = .int .i64 k ∧ IsFile wr 63 w.heap.size (startTo k) ∧ Below w.heap.size w wr) (fun v7 _ => 13 - (intOf v7).toNat)
  case atStart => exact ⟨0, Nat.zero_le _, rfl, hF0, (Below.refl _ _).alloc (Nat.le_refl _) _⟩
  case round =>
    obtain ⟨k, hk, rfl, hF, hB⟩ := hrel
    have hfl := hF.b.lt
    by_cases hlt : k < 13
    · have hix := fun W => index_rule k hlt W
      have c := hF.cell k hlt
      have f : wr.frozen? ⟨w.heap.size, k, none⟩ = false := hF.b.frozen k
      have i0 : (0 : Int) ≤ ↑k := by omega
      have i1 : (↑k : Int) < 13 := by omega
      have HS := Lib.hid (startTo_next k hlt)
      go_wp2_with fail
      (refine wp_region_tail 7 (by kernel_rfl) (by kernel_rfl) ?_; simp only [List.take_succ_cons, List.take_zero, List.drop_succ_cons, List.drop_zero]; (repeat still_step); (try refine wpStill_nil ?_))
      go_wp2
      go_roundw
      case rel => exact ⟨k + 1, by omega, by go_num, by rw [HS.out]; exact ((hF.put k _).alloc _).drew, bdrew ((hB.setCell (p := ⟨w.heap.size, k, none⟩) (Nat.le_refl _) _).alloc (by simp; omega) _)⟩
      case measure => simp [intOf]; omega
    · obtain rfl : k = 13 := by omega
      go_wp2
      go_ret
      exact ⟨rfl, hF, hB⟩
end Go.Proofs.YtakihcdolpocjaaDoor
