/- What an operation of the program's coprocessor does with its word (cp15.drop, cp15.find). -/
import Derived.Test.YtakihcdolpocjaaDoorCFile
import Derived.Test.YtakihcdolpocjaaDoorCBits
namespace Go.Proofs.YtakihcdolpocjaaDoor
open Go.RowKit

theorem wrap64_lo (x : Int) (h0 : 0 ≤ x) (h1 : x ≤ 4294967295) : wrap64 x = x := by unfold wrap64; omega
/-- the cells of what a dropping of kind k does with the word v -/
def dropA (k v : Int) : Array Value := #[.int .i64 2, .int .i64 k, .int .u32 (if k = 2 ∨ k = 4 then v / 4096 * 4096 % 4294967296 else 0), .int .i64 (if k = 2 ∨ k = 3 then v % 256 else 0), .int .u32 0, .bool false, .bool false]
theorem drop1_1 (p : Nat) (v : Int) (h0 : 0 ≤ v) (h1 : v ≤ 4294967295) (w : World) (hp : w.cell? ⟨p, 0, none⟩ = some (.int .i64 1)) (hl : p < w.heap.size) :
    Calls Tryd.prog 41 #[.int .u32 v, .pointer (some ⟨p, 0, none⟩)] w fun e w' => e = .returned (.agg (dropA 1 v)) ∧ Below w.heap.size w w' := by
  have e1 := hi_12 v h0 h1
  have e2 : wrap64 (bits .and .u32 v 255) = v % 256 := by rw [and_255 v h0 h1]; exact wrap64_lo _ (by omega) (by omega)
  have E1 := Lib.hid e1
  have E2 := Lib.hid e2
  clear e1 e2
  go_enter Tryd.func41, Tryd.ntmps41
  go_wp2
  refine bodyPost_ret (v := .agg #[.int .i64 2, .int .i64 1, .int .u32 (0), .int .i64 (0), .int .u32 0, .bool false, .bool false]) (by simp [results, Tryd.results41, go_sem]) rfl ⟨?_, ((Below.refl _ _).alloc (Nat.le_refl _) _).alloc (by simp) _⟩
  rw [show dropA 1 v = #[.int .i64 2, .int .i64 1, .int .u32 (0), .int .i64 (0), .int .u32 0, .bool false, .bool false] by simp [dropA]]
theorem drop1_2 (p : Nat) (v : Int) (h0 : 0 ≤ v) (h1 : v ≤ 4294967295) (w : World) (hp : w.cell? ⟨p, 0, none⟩ = some (.int .i64 2)) (hl : p < w.heap.size) :
    Calls Tryd.prog 41 #[.int .u32 v, .pointer (some ⟨p, 0, none⟩)] w fun e w' => e = .returned (.agg (dropA 2 v)) ∧ Below w.heap.size w w' := by
  have e1 := hi_12 v h0 h1
  have e2 : wrap64 (bits .and .u32 v 255) = v % 256 := by rw [and_255 v h0 h1]; exact wrap64_lo _ (by omega) (by omega)
  have E1 := Lib.hid e1
  have E2 := Lib.hid e2
  clear e1 e2
  go_enter Tryd.func41, Tryd.ntmps41
  go_wp2
  refine bodyPost_ret (v := .agg #[.int .i64 2, .int .i64 2, .int .u32 (bits .andNot .u32 v 4095), .int .i64 (wrap64 (bits .and .u32 v 255)), .int .u32 0, .bool false, .bool false]) (by simp [results, Tryd.results41, go_sem]) rfl ⟨?_, ((Below.refl _ _).alloc (Nat.le_refl _) _).alloc (by simp) _⟩
  rw [show dropA 2 v = #[.int .i64 2, .int .i64 2, .int .u32 (bits .andNot .u32 v 4095), .int .i64 (wrap64 (bits .and .u32 v 255)), .int .u32 0, .bool false, .bool false] by simp [dropA, E1.out, E2.out]]
theorem drop1_3 (p : Nat) (v : Int) (h0 : 0 ≤ v) (h1 : v ≤ 4294967295) (w : World) (hp : w.cell? ⟨p, 0, none⟩ = some (.int .i64 3)) (hl : p < w.heap.size) :
    Calls Tryd.prog 41 #[.int .u32 v, .pointer (some ⟨p, 0, none⟩)] w fun e w' => e = .returned (.agg (dropA 3 v)) ∧ Below w.heap.size w w' := by
  have e1 := hi_12 v h0 h1
  have e2 : wrap64 (bits .and .u32 v 255) = v % 256 := by rw [and_255 v h0 h1]; exact wrap64_lo _ (by omega) (by omega)
  have E1 := Lib.hid e1
  have E2 := Lib.hid e2
  clear e1 e2
  go_enter Tryd.func41, Tryd.ntmps41
  go_wp2
  refine bodyPost_ret (v := .agg #[.int .i64 2, .int .i64 3, .int .u32 (0), .int .i64 (wrap64 (bits .and .u32 v 255)), .int .u32 0, .bool false, .bool false]) (by simp [results, Tryd.results41, go_sem]) rfl ⟨?_, ((Below.refl _ _).alloc (Nat.le_refl _) _).alloc (by simp) _⟩
  rw [show dropA 3 v = #[.int .i64 2, .int .i64 3, .int .u32 (0), .int .i64 (wrap64 (bits .and .u32 v 255)), .int .u32 0, .bool false, .bool false] by simp [dropA, E2.out]]
theorem drop1_4 (p : Nat) (v : Int) (h0 : 0 ≤ v) (h1 : v ≤ 4294967295) (w : World) (hp : w.cell? ⟨p, 0, none⟩ = some (.int .i64 4)) (hl : p < w.heap.size) :
    Calls Tryd.prog 41 #[.int .u32 v, .pointer (some ⟨p, 0, none⟩)] w fun e w' => e = .returned (.agg (dropA 4 v)) ∧ Below w.heap.size w w' := by
  have e1 := hi_12 v h0 h1
  have e2 : wrap64 (bits .and .u32 v 255) = v % 256 := by rw [and_255 v h0 h1]; exact wrap64_lo _ (by omega) (by omega)
  have E1 := Lib.hid e1
  have E2 := Lib.hid e2
  clear e1 e2
  go_enter Tryd.func41, Tryd.ntmps41
  go_wp2
  refine bodyPost_ret (v := .agg #[.int .i64 2, .int .i64 4, .int .u32 (bits .andNot .u32 v 4095), .int .i64 (0), .int .u32 0, .bool false, .bool false]) (by simp [results, Tryd.results41, go_sem]) rfl ⟨?_, ((Below.refl _ _).alloc (Nat.le_refl _) _).alloc (by simp) _⟩
  rw [show dropA 4 v = #[.int .i64 2, .int .i64 4, .int .u32 (bits .andNot .u32 v 4095), .int .i64 (0), .int .u32 0, .bool false, .bool false] by simp [dropA, E1.out]]
theorem drop1_is (k : Int) (hk : 1 ≤ k ∧ k ≤ 4) (p : Nat) (v : Int) (h0 : 0 ≤ v) (h1 : v ≤ 4294967295) (w : World) (hp : w.cell? ⟨p, 0, none⟩ = some (.int .i64 k)) (hl : p < w.heap.size) :
    Calls Tryd.prog 41 #[.int .u32 v, .pointer (some ⟨p, 0, none⟩)] w fun e w' => e = .returned (.agg (dropA k v)) ∧ Below w.heap.size w w' := by
  obtain rfl | rfl | rfl | rfl : k = 1 ∨ k = 2 ∨ k = 3 ∨ k = 4 := by omega
  · exact drop1_1 p v h0 h1 w hp hl
  · exact drop1_2 p v h0 h1 w hp hl
  · exact drop1_3 p v h0 h1 w hp hl
  · exact drop1_4 p v h0 h1 w hp hl
/-- the cells of what asking for a translation does -/
def askA (d v : Int) : Array Value := #[.int .i64 3, .int .i64 0, .int .u32 0, .int .i64 0, .int .u32 (v / 4096 * 4096 % 4294967296), .bool (decide (2 ≤ d)), .bool (decide (d % 2 = 1))]
theorem find1_0 (p : Nat) (t : Tup) (hd : t.op2 = 0) (v : Int) (h0 : 0 ≤ v) (h1 : v ≤ 4294967295) (w : World) (hp : Blok w p 31 #[.int .i64 t.crn, .int .i64 t.op1, .int .i64 t.crm, .int .i64 t.op2].toList) :
    Calls Tryd.prog 37 #[.int .u32 v, .pointer (some ⟨p, 0, none⟩)] w fun e w' => e = .returned (.agg (askA 0 v)) ∧ Below w.heap.size w w' := by
  have e1 := hi_12 v h0 h1
  have E1 := Lib.hid e1
  have c3 : w.cell? ⟨p, 3, none⟩ = some (.int .i64 0) := by rw [← hd]; exact hp.cell 3
  have hl := hp.lt
  clear e1 hp hd
  go_enter Tryd.func37, Tryd.ntmps37
  go_wp2
  refine bodyPost_ret (v := .agg #[.int .i64 3, .int .i64 0, .int .u32 0, .int .i64 0, .int .u32 (bits .andNot .u32 v 4095), .bool false, .bool (bits .and .i64 0 1 == 1)]) (by simp [results, Tryd.results37, go_sem]) rfl ⟨?_, (Below.refl _ _).alloc (Nat.le_refl _) _⟩
  have b : (bits .and .i64 0 1 == 1) = false := by decide +kernel
  rw [b, E1.out]
  simp [askA]
theorem find1_1 (p : Nat) (t : Tup) (hd : t.op2 = 1) (v : Int) (h0 : 0 ≤ v) (h1 : v ≤ 4294967295) (w : World) (hp : Blok w p 31 #[.int .i64 t.crn, .int .i64 t.op1, .int .i64 t.crm, .int .i64 t.op2].toList) :
    Calls Tryd.prog 37 #[.int .u32 v, .pointer (some ⟨p, 0, none⟩)] w fun e w' => e = .returned (.agg (askA 1 v)) ∧ Below w.heap.size w w' := by
  have e1 := hi_12 v h0 h1
  have E1 := Lib.hid e1
  have c3 : w.cell? ⟨p, 3, none⟩ = some (.int .i64 1) := by rw [← hd]; exact hp.cell 3
  have hl := hp.lt
  clear e1 hp hd
  go_enter Tryd.func37, Tryd.ntmps37
  go_wp2
  refine bodyPost_ret (v := .agg #[.int .i64 3, .int .i64 0, .int .u32 0, .int .i64 0, .int .u32 (bits .andNot .u32 v 4095), .bool false, .bool (bits .and .i64 1 1 == 1)]) (by simp [results, Tryd.results37, go_sem]) rfl ⟨?_, (Below.refl _ _).alloc (Nat.le_refl _) _⟩
  have b : (bits .and .i64 1 1 == 1) = true := by decide +kernel
  rw [b, E1.out]
  simp [askA]
theorem find1_2 (p : Nat) (t : Tup) (hd : t.op2 = 2) (v : Int) (h0 : 0 ≤ v) (h1 : v ≤ 4294967295) (w : World) (hp : Blok w p 31 #[.int .i64 t.crn, .int .i64 t.op1, .int .i64 t.crm, .int .i64 t.op2].toList) :
    Calls Tryd.prog 37 #[.int .u32 v, .pointer (some ⟨p, 0, none⟩)] w fun e w' => e = .returned (.agg (askA 2 v)) ∧ Below w.heap.size w w' := by
  have e1 := hi_12 v h0 h1
  have E1 := Lib.hid e1
  have c3 : w.cell? ⟨p, 3, none⟩ = some (.int .i64 2) := by rw [← hd]; exact hp.cell 3
  have hl := hp.lt
  clear e1 hp hd
  go_enter Tryd.func37, Tryd.ntmps37
  go_wp2
  refine bodyPost_ret (v := .agg #[.int .i64 3, .int .i64 0, .int .u32 0, .int .i64 0, .int .u32 (bits .andNot .u32 v 4095), .bool true, .bool (bits .and .i64 2 1 == 1)]) (by simp [results, Tryd.results37, go_sem]) rfl ⟨?_, (Below.refl _ _).alloc (Nat.le_refl _) _⟩
  have b : (bits .and .i64 2 1 == 1) = false := by decide +kernel
  rw [b, E1.out]
  simp [askA]
theorem find1_3 (p : Nat) (t : Tup) (hd : t.op2 = 3) (v : Int) (h0 : 0 ≤ v) (h1 : v ≤ 4294967295) (w : World) (hp : Blok w p 31 #[.int .i64 t.crn, .int .i64 t.op1, .int .i64 t.crm, .int .i64 t.op2].toList) :
    Calls Tryd.prog 37 #[.int .u32 v, .pointer (some ⟨p, 0, none⟩)] w fun e w' => e = .returned (.agg (askA 3 v)) ∧ Below w.heap.size w w' := by
  have e1 := hi_12 v h0 h1
  have E1 := Lib.hid e1
  have c3 : w.cell? ⟨p, 3, none⟩ = some (.int .i64 3) := by rw [← hd]; exact hp.cell 3
  have hl := hp.lt
  clear e1 hp hd
  go_enter Tryd.func37, Tryd.ntmps37
  go_wp2
  refine bodyPost_ret (v := .agg #[.int .i64 3, .int .i64 0, .int .u32 0, .int .i64 0, .int .u32 (bits .andNot .u32 v 4095), .bool true, .bool (bits .and .i64 3 1 == 1)]) (by simp [results, Tryd.results37, go_sem]) rfl ⟨?_, (Below.refl _ _).alloc (Nat.le_refl _) _⟩
  have b : (bits .and .i64 3 1 == 1) = true := by decide +kernel
  rw [b, E1.out]
  simp [askA]
theorem find1_is (p : Nat) (t : Tup) (hd0 : 0 ≤ t.op2) (hd4 : t.op2 < 4) (v : Int) (h0 : 0 ≤ v) (h1 : v ≤ 4294967295) (w : World) (hp : Blok w p 31 #[.int .i64 t.crn, .int .i64 t.op1, .int .i64 t.crm, .int .i64 t.op2].toList) :
    Calls Tryd.prog 37 #[.int .u32 v, .pointer (some ⟨p, 0, none⟩)] w fun e w' => e = .returned (.agg (askA t.op2 v)) ∧ Below w.heap.size w w' := by
  have hd : t.op2 = 0 ∨ t.op2 = 1 ∨ t.op2 = 2 ∨ t.op2 = 3 := by omega
  rcases hd with hd | hd | hd | hd <;> rw [hd]
  · exact find1_0 p t hd v h0 h1 w hp
  · exact find1_1 p t hd v h0 h1 w hp
  · exact find1_2 p t hd v h0 h1 w hp
  · exact find1_3 p t hd v h0 h1 w hp
def zactA : Array Value := #[.int .i64 0, .int .i64 0, .int .u32 0, .int .i64 0, .int .u32 0, .bool false, .bool false]
theorem find2_is (v : Int) (w : World) : Calls Tryd.prog 38 #[.int .u32 v] w fun e w' => e = .returned (.agg zactA) ∧ Below w.heap.size w w' := by
  go_enter Tryd.func38, Tryd.ntmps38
  go_wp2
  exact bodyPost_ret (v := .agg zactA) (by simp [results, Tryd.results38, go_sem, zactA]) rfl ⟨rfl, (Below.refl _ _).alloc (Nat.le_refl _) _⟩
theorem drop_is (k : Int) (w : World) (g : Nat) (hg : w.heap.size = g) : Calls Tryd.prog 36 #[.int .i64 k] w fun e w' => e = .returned (.func (.func 41) #[] #[.pointer (some ⟨g, 0, none⟩)]) ∧ Blok w' g 3 [.int .i64 k] ∧ Below w.heap.size w w' := by
  subst hg
  go_enter Tryd.func36, Tryd.ntmps36
  go_wp2
  go_ret
  exact ⟨rfl, Blok.new w _ _, (Below.refl _ _).alloc (Nat.le_refl _) _⟩
/-- which operation a tuple names -/
def dropsB (t : Tup) : Bool := decide (t.op1 = 0) && decide (t.crn = 8) && decide (0 ≤ t.op2) && decide (t.op2 < 4) && (decide (t.crm = 3) || decide (t.crm = 7) || (decide (t.op2 < 3) && (decide (t.crm = 5) || decide (t.crm = 6))))
def asksB (t : Tup) : Bool := decide (t.op1 = 0) && decide (t.crn = 7) && decide (t.crm = 8) && decide (0 ≤ t.op2) && decide (t.op2 < 4)
def barB (t : Tup) : Bool := decide (t.op1 = 0) && decide (t.crn = 7) && ((decide (t.crm = 5) && decide (t.op2 = 4)) || (decide (t.crm = 10) && (decide (t.op2 = 4) || decide (t.op2 = 5))))
theorem new3 (w : World) (a b c : Obj) (g : Nat) (T : TypeId) (cs : List Value) (hb : b = .cells cs.toArray T) (hg : w.heap.size + 1 = g) : Blok (((w.alloc a).alloc b).alloc c) g T cs := by
  subst hb
  have := Blok.new (w.alloc a) T cs
  have e : (w.alloc a).heap.size = g := by simpa using hg
  rw [e] at this
  exact this.alloc c
theorem below3 (w : World) (a b c : Obj) : Below w.heap.size w (((w.alloc a).alloc b).alloc c) := (((Below.refl _ _).alloc (Nat.le_refl _) _).alloc (by simp) _).alloc (by simp; omega) _
end Go.Proofs.YtakihcdolpocjaaDoor
