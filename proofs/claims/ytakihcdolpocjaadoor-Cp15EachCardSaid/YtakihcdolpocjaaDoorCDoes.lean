/- The law's does of layer 8: a call on the program's file alone (all kinds but Write). -/
import Derived.Test.YtakihcdolpocjaaDoorCFile
namespace Go.Proofs.YtakihcdolpocjaaDoor
open Go.RowKit

def DoesPost (ft : TypeId) (fb : Nat) (r : Array Value × Int × List Int) (w : World) (e : Ending) (w' : World) : Prop :=
  e = .returned (.tuple #[.agg r.1, .int .i64 r.2.1]) ∧ IsFile w' ft fb r.2.2 ∧ w.grownBy w' (some fb)
theorem gnew9 {w w' w1 : World} {r : Option Nat} {g : Nat} (h : w.grownBy w' r) (k : w'.grownBy w1 (some g)) (hg : w.heap.size ≤ g) : w.grownBy w1 r :=
  ⟨k.os.trans h.os, k.tape.trans h.tape, k.output.trans h.output, Nat.le_trans h.size k.size, fun i hi hn => (k.block i (Nat.lt_of_lt_of_le hi h.size) (fun e => by have := Option.some.inj e; omega)).trans (h.block i hi hn)⟩
def readErr (t : Tup) (priv : Bool) : Int := match regOf t with | none => 80 | some _ => if priv = true then 0 else 81
theorem readRes_err (t : Tup) (priv : Bool) (rs : List Int) : ∃ x : Int, readRes t priv rs = .tuple #[.int .u32 x, .int .i64 (readErr t priv)] := by
  unfold readRes readErr
  cases regOf t with
  | none => exact ⟨_, rfl⟩
  | some i => cases priv <;> exact ⟨_, rfl⟩
set_option maxHeartbeats 3200000 in
set_option maxRecDepth 100000 in
theorem does_0 (fb : Nat) (rs : List Int) (t : Tup) (priv : Bool) (v reg : Int) (k : Int) (n1 : k ≠ 1) (n2 : k ≠ 2) (n4 : k ≠ 4) (w : World) (h : IsFile w 63 fb rs) :
    Calls Tryd.prog 14 #[.pointer (some ⟨fb, 0, none⟩), .agg #[.int .i64 k, .int .i64 t.crn, .int .i64 t.op1, .int .i64 t.crm, .int .i64 t.op2, .bool priv, .int .u32 v, .int .i64 reg]] w (DoesPost 63 fb (#[.int .i64 0, .int .i64 0, .int .u32 0, .int .i64 0, .int .u32 0, .bool false, .bool false], 0, rs) w) := by
  have h0 := (h.alloc (.cells #[.int .i64 k, .int .i64 t.crn, .int .i64 t.op1, .int .i64 t.crm, .int .i64 t.op2, .bool priv, .int .u32 v, .int .i64 reg] 34)).alloc (.cells #[.int .i64 0, .int .i64 0, .int .u32 0, .int .i64 0, .int .u32 0, .bool false, .bool false] 42)
  have t0 : Blok ((w.alloc (.cells #[.int .i64 k, .int .i64 t.crn, .int .i64 t.op1, .int .i64 t.crm, .int .i64 t.op2, .bool priv, .int .u32 v, .int .i64 reg] 34)).alloc (.cells #[.int .i64 0, .int .i64 0, .int .u32 0, .int .i64 0, .int .u32 0, .bool false, .bool false] 42)) w.heap.size 34 (#[.int .i64 k, .int .i64 t.crn, .int .i64 t.op1, .int .i64 t.crm, .int .i64 t.op2, .bool priv, .int .u32 v, .int .i64 reg] : Array Value).toList := (Blok.new w _ _).alloc _
  have z0 : Blok ((w.alloc (.cells #[.int .i64 k, .int .i64 t.crn, .int .i64 t.op1, .int .i64 t.crm, .int .i64 t.op2, .bool priv, .int .u32 v, .int .i64 reg] 34)).alloc (.cells #[.int .i64 0, .int .i64 0, .int .u32 0, .int .i64 0, .int .u32 0, .bool false, .bool false] 42)) (w.heap.size + 1) 42 (#[.int .i64 0, .int .i64 0, .int .u32 0, .int .i64 0, .int .u32 0, .bool false, .bool false] : Array Value).toList := by
    have := Blok.new (w.alloc (.cells #[.int .i64 k, .int .i64 t.crn, .int .i64 t.op1, .int .i64 t.crm, .int .i64 t.op2, .bool priv, .int .u32 v, .int .i64 reg] 34)) 42 (#[.int .i64 0, .int .i64 0, .int .u32 0, .int .i64 0, .int .u32 0, .bool false, .bool false] : Array Value).toList
    have e : (w.alloc (.cells #[.int .i64 k, .int .i64 t.crn, .int .i64 t.op1, .int .i64 t.crm, .int .i64 t.op2, .bool priv, .int .u32 v, .int .i64 reg] 34)).heap.size = w.heap.size + 1 := by simp
    rwa [e] at this
  have b0 : Below w.heap.size w ((w.alloc (.cells #[.int .i64 k, .int .i64 t.crn, .int .i64 t.op1, .int .i64 t.crm, .int .i64 t.op2, .bool priv, .int .u32 v, .int .i64 reg] 34)).alloc (.cells #[.int .i64 0, .int .i64 0, .int .u32 0, .int .i64 0, .int .u32 0, .bool false, .bool false] 42)) := ((Below.refl _ _).alloc (Nat.le_refl _) _).alloc (by simp) _
  have hfl := h.b.lt
  (have x0 : (((w.alloc (.cells #[.int .i64 k, .int .i64 t.crn, .int .i64 t.op1, .int .i64 t.crm, .int .i64 t.op2, .bool priv, .int .u32 v, .int .i64 reg] 34)).alloc (.cells #[.int .i64 0, .int .i64 0, .int .u32 0, .int .i64 0, .int .u32 0, .bool false, .bool false] 42))).cell? ⟨w.heap.size, 0, none⟩ = some (.int .i64 k) := (t0).cell 0; have x1 : (((w.alloc (.cells #[.int .i64 k, .int .i64 t.crn, .int .i64 t.op1, .int .i64 t.crm, .int .i64 t.op2, .bool priv, .int .u32 v, .int .i64 reg] 34)).alloc (.cells #[.int .i64 0, .int .i64 0, .int .u32 0, .int .i64 0, .int .u32 0, .bool false, .bool false] 42))).cell? ⟨w.heap.size, 1, none⟩ = some (.int .i64 t.crn) := (t0).cell 1; have x2 : (((w.alloc (.cells #[.int .i64 k, .int .i64 t.crn, .int .i64 t.op1, .int .i64 t.crm, .int .i64 t.op2, .bool priv, .int .u32 v, .int .i64 reg] 34)).alloc (.cells #[.int .i64 0, .int .i64 0, .int .u32 0, .int .i64 0, .int .u32 0, .bool false, .bool false] 42))).cell? ⟨w.heap.size, 2, none⟩ = some (.int .i64 t.op1) := (t0).cell 2; have x3 : (((w.alloc (.cells #[.int .i64 k, .int .i64 t.crn, .int .i64 t.op1, .int .i64 t.crm, .int .i64 t.op2, .bool priv, .int .u32 v, .int .i64 reg] 34)).alloc (.cells #[.int .i64 0, .int .i64 0, .int .u32 0, .int .i64 0, .int .u32 0, .bool false, .bool false] 42))).cell? ⟨w.heap.size, 3, none⟩ = some (.int .i64 t.crm) := (t0).cell 3; have x4 : (((w.alloc (.cells #[.int .i64 k, .int .i64 t.crn, .int .i64 t.op1, .int .i64 t.crm, .int .i64 t.op2, .bool priv, .int .u32 v, .int .i64 reg] 34)).alloc (.cells #[.int .i64 0, .int .i64 0, .int .u32 0, .int .i64 0, .int .u32 0, .bool false, .bool false] 42))).cell? ⟨w.heap.size, 4, none⟩ = some (.int .i64 t.op2) := (t0).cell 4; have x5 : (((w.alloc (.cells #[.int .i64 k, .int .i64 t.crn, .int .i64 t.op1, .int .i64 t.crm, .int .i64 t.op2, .bool priv, .int .u32 v, .int .i64 reg] 34)).alloc (.cells #[.int .i64 0, .int .i64 0, .int .u32 0, .int .i64 0, .int .u32 0, .bool false, .bool false] 42))).cell? ⟨w.heap.size, 5, none⟩ = some (.bool priv) := (t0).cell 5; have x6 : (((w.alloc (.cells #[.int .i64 k, .int .i64 t.crn, .int .i64 t.op1, .int .i64 t.crm, .int .i64 t.op2, .bool priv, .int .u32 v, .int .i64 reg] 34)).alloc (.cells #[.int .i64 0, .int .i64 0, .int .u32 0, .int .i64 0, .int .u32 0, .bool false, .bool false] 42))).cell? ⟨w.heap.size, 6, none⟩ = some (.int .u32 v) := (t0).cell 6; have x7 : (((w.alloc (.cells #[.int .i64 k, .int .i64 t.crn, .int .i64 t.op1, .int .i64 t.crm, .int .i64 t.op2, .bool priv, .int .u32 v, .int .i64 reg] 34)).alloc (.cells #[.int .i64 0, .int .i64 0, .int .u32 0, .int .i64 0, .int .u32 0, .bool false, .bool false] 42))).cell? ⟨w.heap.size, 7, none⟩ = some (.int .i64 reg) := (t0).cell 7)
  go_enter Tryd.func14, Tryd.ntmps14
  go_wp2_with (refine wpList_store_blok rfl _ (.tmp 4) (.tmp 44) rfl (w.heap.size + 1) 0 (#[.int .i64 0, .int .i64 0, .int .u32 0, .int .i64 0, .int .u32 0, .bool false, .bool false]) rfl rfl (z0) (by simp) (by kernel_rfl) rfl ?_; intro w4 hb4 hg4 hz4)
  have r0 := hb4.cell 0
  have r1 := hb4.cell 1
  have r2 := hb4.cell 2
  have r3 := hb4.cell 3
  have r4 := hb4.cell 4
  have r5 := hb4.cell 5
  have r6 := hb4.cell 6
  simp at r0 r1 r2 r3 r4 r5 r6
  refine bodyPost_ret (v := .tuple #[.agg (#[.int .i64 0, .int .i64 0, .int .u32 0, .int .i64 0, .int .u32 0, .bool false, .bool false]), .int .i64 0]) (by simp [results, Tryd.results14, go_sem, r0, r1, r2, r3, r4, r5, r6]) rfl ⟨rfl, (h0).far hg4 (by intro e; have := Option.some.inj e; omega), gnew9 (grown_of b0 _) hg4 (by omega)⟩
set_option maxHeartbeats 3200000 in
set_option maxRecDepth 100000 in
theorem does_1 (fb : Nat) (rs : List Int) (t : Tup) (priv : Bool) (v reg : Int) (w : World) (hs : Rul w) (h : IsFile w 63 fb rs) :
    Calls Tryd.prog 14 #[.pointer (some ⟨fb, 0, none⟩), .agg #[.int .i64 1, .int .i64 t.crn, .int .i64 t.op1, .int .i64 t.crm, .int .i64 t.op2, .bool priv, .int .u32 v, .int .i64 reg]] w (DoesPost 63 fb (#[.int .i64 0, .int .i64 0, .int .u32 0, .int .i64 0, .int .u32 0, .bool false, .bool false], readErr t priv, rs) w) := by
  have h0 := (h.alloc (.cells #[.int .i64 1, .int .i64 t.crn, .int .i64 t.op1, .int .i64 t.crm, .int .i64 t.op2, .bool priv, .int .u32 v, .int .i64 reg] 34)).alloc (.cells #[.int .i64 0, .int .i64 0, .int .u32 0, .int .i64 0, .int .u32 0, .bool false, .bool false] 42)
  have s0 := (hs.alloc (.cells #[.int .i64 1, .int .i64 t.crn, .int .i64 t.op1, .int .i64 t.crm, .int .i64 t.op2, .bool priv, .int .u32 v, .int .i64 reg] 34)).alloc (.cells #[.int .i64 0, .int .i64 0, .int .u32 0, .int .i64 0, .int .u32 0, .bool false, .bool false] 42)
  have t0 : Blok ((w.alloc (.cells #[.int .i64 1, .int .i64 t.crn, .int .i64 t.op1, .int .i64 t.crm, .int .i64 t.op2, .bool priv, .int .u32 v, .int .i64 reg] 34)).alloc (.cells #[.int .i64 0, .int .i64 0, .int .u32 0, .int .i64 0, .int .u32 0, .bool false, .bool false] 42)) w.heap.size 34 (#[.int .i64 1, .int .i64 t.crn, .int .i64 t.op1, .int .i64 t.crm, .int .i64 t.op2, .bool priv, .int .u32 v, .int .i64 reg] : Array Value).toList := (Blok.new w _ _).alloc _
  have z0 : Blok ((w.alloc (.cells #[.int .i64 1, .int .i64 t.crn, .int .i64 t.op1, .int .i64 t.crm, .int .i64 t.op2, .bool priv, .int .u32 v, .int .i64 reg] 34)).alloc (.cells #[.int .i64 0, .int .i64 0, .int .u32 0, .int .i64 0, .int .u32 0, .bool false, .bool false] 42)) (w.heap.size + 1) 42 (#[.int .i64 0, .int .i64 0, .int .u32 0, .int .i64 0, .int .u32 0, .bool false, .bool false] : Array Value).toList := by
    have := Blok.new (w.alloc (.cells #[.int .i64 1, .int .i64 t.crn, .int .i64 t.op1, .int .i64 t.crm, .int .i64 t.op2, .bool priv, .int .u32 v, .int .i64 reg] 34)) 42 (#[.int .i64 0, .int .i64 0, .int .u32 0, .int .i64 0, .int .u32 0, .bool false, .bool false] : Array Value).toList
    have e : (w.alloc (.cells #[.int .i64 1, .int .i64 t.crn, .int .i64 t.op1, .int .i64 t.crm, .int .i64 t.op2, .bool priv, .int .u32 v, .int .i64 reg] 34)).heap.size = w.heap.size + 1 := by simp
    rwa [e] at this
  have b0 : Below w.heap.size w ((w.alloc (.cells #[.int .i64 1, .int .i64 t.crn, .int .i64 t.op1, .int .i64 t.crm, .int .i64 t.op2, .bool priv, .int .u32 v, .int .i64 reg] 34)).alloc (.cells #[.int .i64 0, .int .i64 0, .int .u32 0, .int .i64 0, .int .u32 0, .bool false, .bool false] 42)) := ((Below.refl _ _).alloc (Nat.le_refl _) _).alloc (by simp) _
  have hfl := h.b.lt
  (have x0 : (((w.alloc (.cells #[.int .i64 1, .int .i64 t.crn, .int .i64 t.op1, .int .i64 t.crm, .int .i64 t.op2, .bool priv, .int .u32 v, .int .i64 reg] 34)).alloc (.cells #[.int .i64 0, .int .i64 0, .int .u32 0, .int .i64 0, .int .u32 0, .bool false, .bool false] 42))).cell? ⟨w.heap.size, 0, none⟩ = some (.int .i64 1) := (t0).cell 0; have x1 : (((w.alloc (.cells #[.int .i64 1, .int .i64 t.crn, .int .i64 t.op1, .int .i64 t.crm, .int .i64 t.op2, .bool priv, .int .u32 v, .int .i64 reg] 34)).alloc (.cells #[.int .i64 0, .int .i64 0, .int .u32 0, .int .i64 0, .int .u32 0, .bool false, .bool false] 42))).cell? ⟨w.heap.size, 1, none⟩ = some (.int .i64 t.crn) := (t0).cell 1; have x2 : (((w.alloc (.cells #[.int .i64 1, .int .i64 t.crn, .int .i64 t.op1, .int .i64 t.crm, .int .i64 t.op2, .bool priv, .int .u32 v, .int .i64 reg] 34)).alloc (.cells #[.int .i64 0, .int .i64 0, .int .u32 0, .int .i64 0, .int .u32 0, .bool false, .bool false] 42))).cell? ⟨w.heap.size, 2, none⟩ = some (.int .i64 t.op1) := (t0).cell 2; have x3 : (((w.alloc (.cells #[.int .i64 1, .int .i64 t.crn, .int .i64 t.op1, .int .i64 t.crm, .int .i64 t.op2, .bool priv, .int .u32 v, .int .i64 reg] 34)).alloc (.cells #[.int .i64 0, .int .i64 0, .int .u32 0, .int .i64 0, .int .u32 0, .bool false, .bool false] 42))).cell? ⟨w.heap.size, 3, none⟩ = some (.int .i64 t.crm) := (t0).cell 3; have x4 : (((w.alloc (.cells #[.int .i64 1, .int .i64 t.crn, .int .i64 t.op1, .int .i64 t.crm, .int .i64 t.op2, .bool priv, .int .u32 v, .int .i64 reg] 34)).alloc (.cells #[.int .i64 0, .int .i64 0, .int .u32 0, .int .i64 0, .int .u32 0, .bool false, .bool false] 42))).cell? ⟨w.heap.size, 4, none⟩ = some (.int .i64 t.op2) := (t0).cell 4; have x5 : (((w.alloc (.cells #[.int .i64 1, .int .i64 t.crn, .int .i64 t.op1, .int .i64 t.crm, .int .i64 t.op2, .bool priv, .int .u32 v, .int .i64 reg] 34)).alloc (.cells #[.int .i64 0, .int .i64 0, .int .u32 0, .int .i64 0, .int .u32 0, .bool false, .bool false] 42))).cell? ⟨w.heap.size, 5, none⟩ = some (.bool priv) := (t0).cell 5; have x6 : (((w.alloc (.cells #[.int .i64 1, .int .i64 t.crn, .int .i64 t.op1, .int .i64 t.crm, .int .i64 t.op2, .bool priv, .int .u32 v, .int .i64 reg] 34)).alloc (.cells #[.int .i64 0, .int .i64 0, .int .u32 0, .int .i64 0, .int .u32 0, .bool false, .bool false] 42))).cell? ⟨w.heap.size, 6, none⟩ = some (.int .u32 v) := (t0).cell 6; have x7 : (((w.alloc (.cells #[.int .i64 1, .int .i64 t.crn, .int .i64 t.op1, .int .i64 t.crm, .int .i64 t.op2, .bool priv, .int .u32 v, .int .i64 reg] 34)).alloc (.cells #[.int .i64 0, .int .i64 0, .int .u32 0, .int .i64 0, .int .u32 0, .bool false, .bool false] 42))).cell? ⟨w.heap.size, 7, none⟩ = some (.int .i64 reg) := (t0).cell 7)
  obtain ⟨y, hy⟩ := readRes_err t priv rs
  have RG0 := Read_is fb rs t priv _ s0 h0
  rw [hy] at RG0
  have RG := Lib.hid RG0
  clear RG0 hy
  go_enter Tryd.func14, Tryd.ntmps14
  go_wp2_with fail
  refine RG.out.mono ?_
  rintro e w1 ⟨rfl, hB1⟩
  have z1 := z0.below hB1 z0.lt
  have h1 := h0.below hB1
  have b1 := bthen b0 hB1
  go_wp2_with (refine wpList_store_blok rfl _ (.tmp 4) (.tmp 21) rfl (w.heap.size + 1) 0 (#[.int .i64 0, .int .i64 0, .int .u32 0, .int .i64 0, .int .u32 0, .bool false, .bool false]) rfl rfl (z1) (by simp) (by kernel_rfl) rfl ?_; intro w4 hb4 hg4 hz4)
  have r0 := hb4.cell 0
  have r1 := hb4.cell 1
  have r2 := hb4.cell 2
  have r3 := hb4.cell 3
  have r4 := hb4.cell 4
  have r5 := hb4.cell 5
  have r6 := hb4.cell 6
  simp at r0 r1 r2 r3 r4 r5 r6
  refine bodyPost_ret (v := .tuple #[.agg (#[.int .i64 0, .int .i64 0, .int .u32 0, .int .i64 0, .int .u32 0, .bool false, .bool false]), .int .i64 (readErr t priv)]) (by simp [results, Tryd.results14, go_sem, r0, r1, r2, r3, r4, r5, r6]) rfl ⟨rfl, (h1).far hg4 (by intro e; have := Option.some.inj e; omega), gnew9 (grown_of b1 _) hg4 (by omega)⟩
set_option maxHeartbeats 3200000 in
set_option maxRecDepth 100000 in
theorem does_4_yes (fb : Nat) (rs : List Int) (t : Tup) (priv : Bool) (v : Int) (k : Nat) (hk : k < 13) (w : World) (hs : Rul w) (h : IsFile w 63 fb rs) :
    Calls Tryd.prog 14 #[.pointer (some ⟨fb, 0, none⟩), .agg #[.int .i64 4, .int .i64 t.crn, .int .i64 t.op1, .int .i64 t.crm, .int .i64 t.op2, .bool priv, .int .u32 v, .int .i64 ↑k]] w (DoesPost 63 fb (#[.int .i64 0, .int .i64 0, .int .u32 0, .int .i64 0, .int .u32 0, .bool false, .bool false], 0, rs.set k (keep k v)) w) := by
  have h0 := (h.alloc (.cells #[.int .i64 4, .int .i64 t.crn, .int .i64 t.op1, .int .i64 t.crm, .int .i64 t.op2, .bool priv, .int .u32 v, .int .i64 ↑k] 34)).alloc (.cells #[.int .i64 0, .int .i64 0, .int .u32 0, .int .i64 0, .int .u32 0, .bool false, .bool false] 42)
  have s0 := (hs.alloc (.cells #[.int .i64 4, .int .i64 t.crn, .int .i64 t.op1, .int .i64 t.crm, .int .i64 t.op2, .bool priv, .int .u32 v, .int .i64 ↑k] 34)).alloc (.cells #[.int .i64 0, .int .i64 0, .int .u32 0, .int .i64 0, .int .u32 0, .bool false, .bool false] 42)
  have t0 : Blok ((w.alloc (.cells #[.int .i64 4, .int .i64 t.crn, .int .i64 t.op1, .int .i64 t.crm, .int .i64 t.op2, .bool priv, .int .u32 v, .int .i64 ↑k] 34)).alloc (.cells #[.int .i64 0, .int .i64 0, .int .u32 0, .int .i64 0, .int .u32 0, .bool false, .bool false] 42)) w.heap.size 34 (#[.int .i64 4, .int .i64 t.crn, .int .i64 t.op1, .int .i64 t.crm, .int .i64 t.op2, .bool priv, .int .u32 v, .int .i64 ↑k] : Array Value).toList := (Blok.new w _ _).alloc _
  have z0 : Blok ((w.alloc (.cells #[.int .i64 4, .int .i64 t.crn, .int .i64 t.op1, .int .i64 t.crm, .int .i64 t.op2, .bool priv, .int .u32 v, .int .i64 ↑k] 34)).alloc (.cells #[.int .i64 0, .int .i64 0, .int .u32 0, .int .i64 0, .int .u32 0, .bool false, .bool false] 42)) (w.heap.size + 1) 42 (#[.int .i64 0, .int .i64 0, .int .u32 0, .int .i64 0, .int .u32 0, .bool false, .bool false] : Array Value).toList := by
    have := Blok.new (w.alloc (.cells #[.int .i64 4, .int .i64 t.crn, .int .i64 t.op1, .int .i64 t.crm, .int .i64 t.op2, .bool priv, .int .u32 v, .int .i64 ↑k] 34)) 42 (#[.int .i64 0, .int .i64 0, .int .u32 0, .int .i64 0, .int .u32 0, .bool false, .bool false] : Array Value).toList
    have e : (w.alloc (.cells #[.int .i64 4, .int .i64 t.crn, .int .i64 t.op1, .int .i64 t.crm, .int .i64 t.op2, .bool priv, .int .u32 v, .int .i64 ↑k] 34)).heap.size = w.heap.size + 1 := by simp
    rwa [e] at this
  have b0 : Below w.heap.size w ((w.alloc (.cells #[.int .i64 4, .int .i64 t.crn, .int .i64 t.op1, .int .i64 t.crm, .int .i64 t.op2, .bool priv, .int .u32 v, .int .i64 ↑k] 34)).alloc (.cells #[.int .i64 0, .int .i64 0, .int .u32 0, .int .i64 0, .int .u32 0, .bool false, .bool false] 42)) := ((Below.refl _ _).alloc (Nat.le_refl _) _).alloc (by simp) _
  have hfl := h.b.lt
  (have x0 : (((w.alloc (.cells #[.int .i64 4, .int .i64 t.crn, .int .i64 t.op1, .int .i64 t.crm, .int .i64 t.op2, .bool priv, .int .u32 v, .int .i64 ↑k] 34)).alloc (.cells #[.int .i64 0, .int .i64 0, .int .u32 0, .int .i64 0, .int .u32 0, .bool false, .bool false] 42))).cell? ⟨w.heap.size, 0, none⟩ = some (.int .i64 4) := (t0).cell 0; have x1 : (((w.alloc (.cells #[.int .i64 4, .int .i64 t.crn, .int .i64 t.op1, .int .i64 t.crm, .int .i64 t.op2, .bool priv, .int .u32 v, .int .i64 ↑k] 34)).alloc (.cells #[.int .i64 0, .int .i64 0, .int .u32 0, .int .i64 0, .int .u32 0, .bool false, .bool false] 42))).cell? ⟨w.heap.size, 1, none⟩ = some (.int .i64 t.crn) := (t0).cell 1; have x2 : (((w.alloc (.cells #[.int .i64 4, .int .i64 t.crn, .int .i64 t.op1, .int .i64 t.crm, .int .i64 t.op2, .bool priv, .int .u32 v, .int .i64 ↑k] 34)).alloc (.cells #[.int .i64 0, .int .i64 0, .int .u32 0, .int .i64 0, .int .u32 0, .bool false, .bool false] 42))).cell? ⟨w.heap.size, 2, none⟩ = some (.int .i64 t.op1) := (t0).cell 2; have x3 : (((w.alloc (.cells #[.int .i64 4, .int .i64 t.crn, .int .i64 t.op1, .int .i64 t.crm, .int .i64 t.op2, .bool priv, .int .u32 v, .int .i64 ↑k] 34)).alloc (.cells #[.int .i64 0, .int .i64 0, .int .u32 0, .int .i64 0, .int .u32 0, .bool false, .bool false] 42))).cell? ⟨w.heap.size, 3, none⟩ = some (.int .i64 t.crm) := (t0).cell 3; have x4 : (((w.alloc (.cells #[.int .i64 4, .int .i64 t.crn, .int .i64 t.op1, .int .i64 t.crm, .int .i64 t.op2, .bool priv, .int .u32 v, .int .i64 ↑k] 34)).alloc (.cells #[.int .i64 0, .int .i64 0, .int .u32 0, .int .i64 0, .int .u32 0, .bool false, .bool false] 42))).cell? ⟨w.heap.size, 4, none⟩ = some (.int .i64 t.op2) := (t0).cell 4; have x5 : (((w.alloc (.cells #[.int .i64 4, .int .i64 t.crn, .int .i64 t.op1, .int .i64 t.crm, .int .i64 t.op2, .bool priv, .int .u32 v, .int .i64 ↑k] 34)).alloc (.cells #[.int .i64 0, .int .i64 0, .int .u32 0, .int .i64 0, .int .u32 0, .bool false, .bool false] 42))).cell? ⟨w.heap.size, 5, none⟩ = some (.bool priv) := (t0).cell 5; have x6 : (((w.alloc (.cells #[.int .i64 4, .int .i64 t.crn, .int .i64 t.op1, .int .i64 t.crm, .int .i64 t.op2, .bool priv, .int .u32 v, .int .i64 ↑k] 34)).alloc (.cells #[.int .i64 0, .int .i64 0, .int .u32 0, .int .i64 0, .int .u32 0, .bool false, .bool false] 42))).cell? ⟨w.heap.size, 6, none⟩ = some (.int .u32 v) := (t0).cell 6; have x7 : (((w.alloc (.cells #[.int .i64 4, .int .i64 t.crn, .int .i64 t.op1, .int .i64 t.crm, .int .i64 t.op2, .bool priv, .int .u32 v, .int .i64 ↑k] 34)).alloc (.cells #[.int .i64 0, .int .i64 0, .int .u32 0, .int .i64 0, .int .u32 0, .bool false, .bool false] 42))).cell? ⟨w.heap.size, 7, none⟩ = some (.int .i64 ↑k) := (t0).cell 7)
  have RG := Lib.hid (Put_yes fb rs k hk v _ s0 h0)
  go_enter Tryd.func14, Tryd.ntmps14
  go_wp2_with fail
  refine RG.out.mono ?_
  rintro e w1 ⟨rfl, h1, hg1⟩
  have z1 := z0.grown hg1 (by intro e; have := Option.some.inj e; omega)
  have g1 := grown_then b0 hg1
  go_wp2_with (refine wpList_store_blok rfl _ (.tmp 4) (.tmp 37) rfl (w.heap.size + 1) 0 (#[.int .i64 0, .int .i64 0, .int .u32 0, .int .i64 0, .int .u32 0, .bool false, .bool false]) rfl rfl (z1) (by simp) (by kernel_rfl) rfl ?_; intro w4 hb4 hg4 hz4)
  have r0 := hb4.cell 0
  have r1 := hb4.cell 1
  have r2 := hb4.cell 2
  have r3 := hb4.cell 3
  have r4 := hb4.cell 4
  have r5 := hb4.cell 5
  have r6 := hb4.cell 6
  simp at r0 r1 r2 r3 r4 r5 r6
  refine bodyPost_ret (v := .tuple #[.agg (#[.int .i64 0, .int .i64 0, .int .u32 0, .int .i64 0, .int .u32 0, .bool false, .bool false]), .int .i64 0]) (by simp [results, Tryd.results14, go_sem, r0, r1, r2, r3, r4, r5, r6]) rfl ⟨rfl, (h1).far hg4 (by intro e; have := Option.some.inj e; omega), gnew9 (g1) hg4 (by omega)⟩
set_option maxHeartbeats 3200000 in
set_option maxRecDepth 100000 in
theorem does_4_no (fb : Nat) (rs : List Int) (t : Tup) (priv : Bool) (v reg : Int) (hk : reg < 0 ∨ 13 ≤ reg) (w : World) (h : IsFile w 63 fb rs) :
    Calls Tryd.prog 14 #[.pointer (some ⟨fb, 0, none⟩), .agg #[.int .i64 4, .int .i64 t.crn, .int .i64 t.op1, .int .i64 t.crm, .int .i64 t.op2, .bool priv, .int .u32 v, .int .i64 reg]] w (DoesPost 63 fb (#[.int .i64 0, .int .i64 0, .int .u32 0, .int .i64 0, .int .u32 0, .bool false, .bool false], 1, rs) w) := by
  have h0 := (h.alloc (.cells #[.int .i64 4, .int .i64 t.crn, .int .i64 t.op1, .int .i64 t.crm, .int .i64 t.op2, .bool priv, .int .u32 v, .int .i64 reg] 34)).alloc (.cells #[.int .i64 0, .int .i64 0, .int .u32 0, .int .i64 0, .int .u32 0, .bool false, .bool false] 42)
  have t0 : Blok ((w.alloc (.cells #[.int .i64 4, .int .i64 t.crn, .int .i64 t.op1, .int .i64 t.crm, .int .i64 t.op2, .bool priv, .int .u32 v, .int .i64 reg] 34)).alloc (.cells #[.int .i64 0, .int .i64 0, .int .u32 0, .int .i64 0, .int .u32 0, .bool false, .bool false] 42)) w.heap.size 34 (#[.int .i64 4, .int .i64 t.crn, .int .i64 t.op1, .int .i64 t.crm, .int .i64 t.op2, .bool priv, .int .u32 v, .int .i64 reg] : Array Value).toList := (Blok.new w _ _).alloc _
  have z0 : Blok ((w.alloc (.cells #[.int .i64 4, .int .i64 t.crn, .int .i64 t.op1, .int .i64 t.crm, .int .i64 t.op2, .bool priv, .int .u32 v, .int .i64 reg] 34)).alloc (.cells #[.int .i64 0, .int .i64 0, .int .u32 0, .int .i64 0, .int .u32 0, .bool false, .bool false] 42)) (w.heap.size + 1) 42 (#[.int .i64 0, .int .i64 0, .int .u32 0, .int .i64 0, .int .u32 0, .bool false, .bool false] : Array Value).toList := by
    have := Blok.new (w.alloc (.cells #[.int .i64 4, .int .i64 t.crn, .int .i64 t.op1, .int .i64 t.crm, .int .i64 t.op2, .bool priv, .int .u32 v, .int .i64 reg] 34)) 42 (#[.int .i64 0, .int .i64 0, .int .u32 0, .int .i64 0, .int .u32 0, .bool false, .bool false] : Array Value).toList
    have e : (w.alloc (.cells #[.int .i64 4, .int .i64 t.crn, .int .i64 t.op1, .int .i64 t.crm, .int .i64 t.op2, .bool priv, .int .u32 v, .int .i64 reg] 34)).heap.size = w.heap.size + 1 := by simp
    rwa [e] at this
  have b0 : Below w.heap.size w ((w.alloc (.cells #[.int .i64 4, .int .i64 t.crn, .int .i64 t.op1, .int .i64 t.crm, .int .i64 t.op2, .bool priv, .int .u32 v, .int .i64 reg] 34)).alloc (.cells #[.int .i64 0, .int .i64 0, .int .u32 0, .int .i64 0, .int .u32 0, .bool false, .bool false] 42)) := ((Below.refl _ _).alloc (Nat.le_refl _) _).alloc (by simp) _
  have hfl := h.b.lt
  (have x0 : (((w.alloc (.cells #[.int .i64 4, .int .i64 t.crn, .int .i64 t.op1, .int .i64 t.crm, .int .i64 t.op2, .bool priv, .int .u32 v, .int .i64 reg] 34)).alloc (.cells #[.int .i64 0, .int .i64 0, .int .u32 0, .int .i64 0, .int .u32 0, .bool false, .bool false] 42))).cell? ⟨w.heap.size, 0, none⟩ = some (.int .i64 4) := (t0).cell 0; have x1 : (((w.alloc (.cells #[.int .i64 4, .int .i64 t.crn, .int .i64 t.op1, .int .i64 t.crm, .int .i64 t.op2, .bool priv, .int .u32 v, .int .i64 reg] 34)).alloc (.cells #[.int .i64 0, .int .i64 0, .int .u32 0, .int .i64 0, .int .u32 0, .bool false, .bool false] 42))).cell? ⟨w.heap.size, 1, none⟩ = some (.int .i64 t.crn) := (t0).cell 1; have x2 : (((w.alloc (.cells #[.int .i64 4, .int .i64 t.crn, .int .i64 t.op1, .int .i64 t.crm, .int .i64 t.op2, .bool priv, .int .u32 v, .int .i64 reg] 34)).alloc (.cells #[.int .i64 0, .int .i64 0, .int .u32 0, .int .i64 0, .int .u32 0, .bool false, .bool false] 42))).cell? ⟨w.heap.size, 2, none⟩ = some (.int .i64 t.op1) := (t0).cell 2; have x3 : (((w.alloc (.cells #[.int .i64 4, .int .i64 t.crn, .int .i64 t.op1, .int .i64 t.crm, .int .i64 t.op2, .bool priv, .int .u32 v, .int .i64 reg] 34)).alloc (.cells #[.int .i64 0, .int .i64 0, .int .u32 0, .int .i64 0, .int .u32 0, .bool false, .bool false] 42))).cell? ⟨w.heap.size, 3, none⟩ = some (.int .i64 t.crm) := (t0).cell 3; have x4 : (((w.alloc (.cells #[.int .i64 4, .int .i64 t.crn, .int .i64 t.op1, .int .i64 t.crm, .int .i64 t.op2, .bool priv, .int .u32 v, .int .i64 reg] 34)).alloc (.cells #[.int .i64 0, .int .i64 0, .int .u32 0, .int .i64 0, .int .u32 0, .bool false, .bool false] 42))).cell? ⟨w.heap.size, 4, none⟩ = some (.int .i64 t.op2) := (t0).cell 4; have x5 : (((w.alloc (.cells #[.int .i64 4, .int .i64 t.crn, .int .i64 t.op1, .int .i64 t.crm, .int .i64 t.op2, .bool priv, .int .u32 v, .int .i64 reg] 34)).alloc (.cells #[.int .i64 0, .int .i64 0, .int .u32 0, .int .i64 0, .int .u32 0, .bool false, .bool false] 42))).cell? ⟨w.heap.size, 5, none⟩ = some (.bool priv) := (t0).cell 5; have x6 : (((w.alloc (.cells #[.int .i64 4, .int .i64 t.crn, .int .i64 t.op1, .int .i64 t.crm, .int .i64 t.op2, .bool priv, .int .u32 v, .int .i64 reg] 34)).alloc (.cells #[.int .i64 0, .int .i64 0, .int .u32 0, .int .i64 0, .int .u32 0, .bool false, .bool false] 42))).cell? ⟨w.heap.size, 6, none⟩ = some (.int .u32 v) := (t0).cell 6; have x7 : (((w.alloc (.cells #[.int .i64 4, .int .i64 t.crn, .int .i64 t.op1, .int .i64 t.crm, .int .i64 t.op2, .bool priv, .int .u32 v, .int .i64 reg] 34)).alloc (.cells #[.int .i64 0, .int .i64 0, .int .u32 0, .int .i64 0, .int .u32 0, .bool false, .bool false] 42))).cell? ⟨w.heap.size, 7, none⟩ = some (.int .i64 reg) := (t0).cell 7)
  have RG := Lib.hid (fun W => Put_no ⟨fb, 0, none⟩ reg v hk W)
  go_enter Tryd.func14, Tryd.ntmps14
  go_wp2_with fail
  refine (RG.out _).mono ?_
  rintro e w1 ⟨rfl, rfl⟩
  go_wp2_with (refine wpList_store_blok rfl _ (.tmp 4) (.tmp 37) rfl (w.heap.size + 1) 0 (#[.int .i64 0, .int .i64 0, .int .u32 0, .int .i64 0, .int .u32 0, .bool false, .bool false]) rfl rfl (z0) (by simp) (by kernel_rfl) rfl ?_; intro w4 hb4 hg4 hz4)
  have r0 := hb4.cell 0
  have r1 := hb4.cell 1
  have r2 := hb4.cell 2
  have r3 := hb4.cell 3
  have r4 := hb4.cell 4
  have r5 := hb4.cell 5
  have r6 := hb4.cell 6
  simp at r0 r1 r2 r3 r4 r5 r6
  refine bodyPost_ret (v := .tuple #[.agg (#[.int .i64 0, .int .i64 0, .int .u32 0, .int .i64 0, .int .u32 0, .bool false, .bool false]), .int .i64 1]) (by simp [results, Tryd.results14, go_sem, r0, r1, r2, r3, r4, r5, r6]) rfl ⟨rfl, (h0).far hg4 (by intro e; have := Option.some.inj e; omega), gnew9 (grown_of b0 _) hg4 (by omega)⟩
end Go.Proofs.YtakihcdolpocjaaDoor
