/- The program's Write of layer 8 (cp15). -/
import Derived.Test.YtakihcdolpocjaaDoorCFind2
namespace Go.Proofs.YtakihcdolpocjaaDoor
open Go.RowKit

def regA : Array Value := #[.int .i64 1, .int .i64 0, .int .u32 0, .int .i64 0, .int .u32 0, .bool false, .bool false]
def hidB (i : Nat) : Bool := decide (5 ≤ i) && decide (i ≤ 9)
/-- Write: the act's cells, the error, the registers behind it -/
def writeR (t : Tup) (priv : Bool) (v : Int) (rs : List Int) : Array Value × Int × List Int :=
  match regOf t with
  | some i => if priv = true then (if hidB i = true then zactA else regA, 0, rs.set i (keep i v)) else (zactA, 81, rs)
  | none => if barB t = true then (zactA, 0, rs) else if dropsB t = true then (if priv = true then (dropA (t.op2 + 1) v, 0, rs) else (zactA, 81, rs))
    else if asksB t = true then (if priv = true then (askA t.op2 v, 0, rs) else (zactA, 81, rs)) else (zactA, 80, rs)
def WritePost (ft : TypeId) (fb : Nat) (r : Array Value × Int × List Int) (w : World) (e : Ending) (w' : World) : Prop :=
  e = .returned (.tuple #[.agg r.1, .int .i64 r.2.1]) ∧ IsFile w' ft fb r.2.2 ∧ w.grownBy w' (some fb)
theorem reg_none {t : Tup} {i : Nat} (h : regOf t = some i) : dropsB t = false ∧ asksB t = false ∧ barB t = false := by
  have h1 := regOf_lt h
  have h2 := regOf_eq h
  rw [← h2]
  obtain rfl | rfl | rfl | rfl | rfl | rfl | rfl | rfl | rfl | rfl | rfl | rfl | rfl : i = 0 ∨ i = 1 ∨ i = 2 ∨ i = 3 ∨ i = 4 ∨ i = 5 ∨ i = 6 ∨ i = 7 ∨ i = 8 ∨ i = 9 ∨ i = 10 ∨ i = 11 ∨ i = 12 := by omega
  all_goals exact ⟨rfl, rfl, rfl⟩
theorem gbox2 {w w1 : World} {o o' : Obj} {r : Option Nat} (k : ((w.alloc o).alloc o').grownBy w1 r) : w.grownBy w1 r :=
  gtrans (grown_of (((Below.refl _ _).alloc (Nat.le_refl _) _).alloc (by simp) _) r) k
theorem nil_nil (W : World) : (binOp .eql 75 .nilFunc .nilFunc).run Tryd.prog W = .ok (.bool true) W := by kernel_rfl
theorem nil_fun (f : FuncId) (x : Array Value) (W : World) : (binOp .eql 75 (.func (.func f) #[] x) .nilFunc).run Tryd.prog W = .ok (.bool false) W := by kernel_rfl
theorem gnew {w w' w1 : World} {r : Option Nat} {g : Nat} (h : w.grownBy w' r) (k : w'.grownBy w1 (some g)) (hg : w.heap.size ≤ g) : w.grownBy w1 r :=
  ⟨k.os.trans h.os, k.tape.trans h.tape, k.output.trans h.output, Nat.le_trans h.size k.size, fun i hi hn => (k.block i (Nat.lt_of_lt_of_le hi h.size) (fun e => by have := Option.some.inj e; omega)).trans (h.block i hi hn)⟩
set_option maxHeartbeats 3200000 in
set_option maxRecDepth 100000 in
theorem Write_none_true (fb : Nat) (rs : List Int) (t : Tup) (v : Int) (hr : regOf t = none) (k1 : dropsB t = false) (k2 : asksB t = false) (k3 : barB t = false) (w : World) (hs : Rul w) (h : IsFile w 63 fb rs) :
    Calls Tryd.prog 20 #[.pointer (some ⟨fb, 0, none⟩), (.agg #[.int .i64 t.crn, .int .i64 t.op1, .int .i64 t.crm, .int .i64 t.op2]), .bool true, .int .u32 v] w (WritePost 63 fb (zactA, 80, rs) w) := by
  have nn := nil_nil
  have nf := nil_fun
  have FN := Lib.hid (fun W => find_none t k1 k2 k3 W)
  clear k1 k2 k3
  have RG0 := Register_is t ((w.alloc (.cells #[.int .i64 t.crn, .int .i64 t.op1, .int .i64 t.crm, .int .i64 t.op2] 31)).alloc (.cells zactA 42)) ((hs.alloc _).alloc _)
  unfold regRes at RG0
  rw [hr] at RG0
  have RG := Lib.hid RG0
  clear RG0 hr
  have h0 := (h.alloc (.cells #[.int .i64 t.crn, .int .i64 t.op1, .int .i64 t.crm, .int .i64 t.op2] 31)).alloc (.cells zactA 42)
  have s0 := (hs.alloc (.cells #[.int .i64 t.crn, .int .i64 t.op1, .int .i64 t.crm, .int .i64 t.op2] 31)).alloc (.cells zactA 42)
  have t0 : Blok ((w.alloc (.cells #[.int .i64 t.crn, .int .i64 t.op1, .int .i64 t.crm, .int .i64 t.op2] 31)).alloc (.cells zactA 42)) w.heap.size 31 #[.int .i64 t.crn, .int .i64 t.op1, .int .i64 t.crm, .int .i64 t.op2].toList := (Blok.new w _ _).alloc _
  have z0 : Blok ((w.alloc (.cells #[.int .i64 t.crn, .int .i64 t.op1, .int .i64 t.crm, .int .i64 t.op2] 31)).alloc (.cells zactA 42)) (w.heap.size + 1) 42 zactA.toList := by
    have := Blok.new (w.alloc (.cells #[.int .i64 t.crn, .int .i64 t.op1, .int .i64 t.crm, .int .i64 t.op2] 31)) 42 zactA.toList
    have e : (w.alloc (.cells #[.int .i64 t.crn, .int .i64 t.op1, .int .i64 t.crm, .int .i64 t.op2] 31)).heap.size = w.heap.size + 1 := by simp
    rwa [e] at this
  have hfl := h.b.lt
  go_enter Tryd.func20, Tryd.ntmps20
  go_wp2_with fail
  refine RG.out.mono ?_
  rintro e w1 ⟨rfl, hB1⟩
  have t1 := t0.below hB1 t0.lt
  have z1 := z0.below hB1 z0.lt
  have h1 := h0.below hB1
  have s1 := s0.below hB1
  (have x0 : (w1).cell? ⟨w.heap.size, 0, none⟩ = some (.int .i64 t.crn) := (t1).cell 0; have x1 : (w1).cell? ⟨w.heap.size, 1, none⟩ = some (.int .i64 t.op1) := (t1).cell 1; have x2 : (w1).cell? ⟨w.heap.size, 2, none⟩ = some (.int .i64 t.crm) := (t1).cell 2; have x3 : (w1).cell? ⟨w.heap.size, 3, none⟩ = some (.int .i64 t.op2) := (t1).cell 3)
  go_wp2_with fail
  refine (FN.out _).mono ?_
  rintro e w2 ⟨rfl, hB2⟩
  have z2 := z1.below hB2 z1.lt
  have h2 := h1.below hB2
  have s2 := s1.below hB2
  have b2 : Below w.heap.size w w2 := bthen (bthen (((Below.refl _ _).alloc (Nat.le_refl _) _).alloc (by simp) _) hB1) hB2
  have b2z := b2.size
  go_wp2_with (refine wpList_store_blok rfl _ (.tmp 8) (.tmp 28) rfl (w.heap.size + 1) 0 (zactA) rfl rfl (z2.alloc (.cells #[.nilFunc, .bool false] 77)) (by simp [zactA]) (by kernel_rfl) rfl ?_; intro w4 hb4 hg4 hz4)
  have r0 := hb4.cell 0
  have r1 := hb4.cell 1
  have r2 := hb4.cell 2
  have r3 := hb4.cell 3
  have r4 := hb4.cell 4
  have r5 := hb4.cell 5
  have r6 := hb4.cell 6
  simp [zactA] at r0 r1 r2 r3 r4 r5 r6
  refine bodyPost_ret (v := .tuple #[.agg (zactA), .int .i64 80]) (by simp [results, Tryd.results20, go_sem, zactA, r0, r1, r2, r3, r4, r5, r6]) rfl ⟨rfl, (h2.alloc (.cells #[.nilFunc, .bool false] 77)).far hg4 (by intro e; have := Option.some.inj e; omega), gnew (grown_of (b2.alloc (by omega) (.cells #[.nilFunc, .bool false] 77)) _) hg4 (by omega)⟩
set_option maxHeartbeats 3200000 in
set_option maxRecDepth 100000 in
theorem Write_none_false (fb : Nat) (rs : List Int) (t : Tup) (v : Int) (hr : regOf t = none) (k1 : dropsB t = false) (k2 : asksB t = false) (k3 : barB t = false) (w : World) (hs : Rul w) (h : IsFile w 63 fb rs) :
    Calls Tryd.prog 20 #[.pointer (some ⟨fb, 0, none⟩), (.agg #[.int .i64 t.crn, .int .i64 t.op1, .int .i64 t.crm, .int .i64 t.op2]), .bool false, .int .u32 v] w (WritePost 63 fb (zactA, 80, rs) w) := by
  have nn := nil_nil
  have nf := nil_fun
  have FN := Lib.hid (fun W => find_none t k1 k2 k3 W)
  clear k1 k2 k3
  have RG0 := Register_is t ((w.alloc (.cells #[.int .i64 t.crn, .int .i64 t.op1, .int .i64 t.crm, .int .i64 t.op2] 31)).alloc (.cells zactA 42)) ((hs.alloc _).alloc _)
  unfold regRes at RG0
  rw [hr] at RG0
  have RG := Lib.hid RG0
  clear RG0 hr
  have h0 := (h.alloc (.cells #[.int .i64 t.crn, .int .i64 t.op1, .int .i64 t.crm, .int .i64 t.op2] 31)).alloc (.cells zactA 42)
  have s0 := (hs.alloc (.cells #[.int .i64 t.crn, .int .i64 t.op1, .int .i64 t.crm, .int .i64 t.op2] 31)).alloc (.cells zactA 42)
  have t0 : Blok ((w.alloc (.cells #[.int .i64 t.crn, .int .i64 t.op1, .int .i64 t.crm, .int .i64 t.op2] 31)).alloc (.cells zactA 42)) w.heap.size 31 #[.int .i64 t.crn, .int .i64 t.op1, .int .i64 t.crm, .int .i64 t.op2].toList := (Blok.new w _ _).alloc _
  have z0 : Blok ((w.alloc (.cells #[.int .i64 t.crn, .int .i64 t.op1, .int .i64 t.crm, .int .i64 t.op2] 31)).alloc (.cells zactA 42)) (w.heap.size + 1) 42 zactA.toList := by
    have := Blok.new (w.alloc (.cells #[.int .i64 t.crn, .int .i64 t.op1, .int .i64 t.crm, .int .i64 t.op2] 31)) 42 zactA.toList
    have e : (w.alloc (.cells #[.int .i64 t.crn, .int .i64 t.op1, .int .i64 t.crm, .int .i64 t.op2] 31)).heap.size = w.heap.size + 1 := by simp
    rwa [e] at this
  have hfl := h.b.lt
  go_enter Tryd.func20, Tryd.ntmps20
  go_wp2_with fail
  refine RG.out.mono ?_
  rintro e w1 ⟨rfl, hB1⟩
  have t1 := t0.below hB1 t0.lt
  have z1 := z0.below hB1 z0.lt
  have h1 := h0.below hB1
  have s1 := s0.below hB1
  (have x0 : (w1).cell? ⟨w.heap.size, 0, none⟩ = some (.int .i64 t.crn) := (t1).cell 0; have x1 : (w1).cell? ⟨w.heap.size, 1, none⟩ = some (.int .i64 t.op1) := (t1).cell 1; have x2 : (w1).cell? ⟨w.heap.size, 2, none⟩ = some (.int .i64 t.crm) := (t1).cell 2; have x3 : (w1).cell? ⟨w.heap.size, 3, none⟩ = some (.int .i64 t.op2) := (t1).cell 3)
  go_wp2_with fail
  refine (FN.out _).mono ?_
  rintro e w2 ⟨rfl, hB2⟩
  have z2 := z1.below hB2 z1.lt
  have h2 := h1.below hB2
  have s2 := s1.below hB2
  have b2 : Below w.heap.size w w2 := bthen (bthen (((Below.refl _ _).alloc (Nat.le_refl _) _).alloc (by simp) _) hB1) hB2
  have b2z := b2.size
  go_wp2_with (refine wpList_store_blok rfl _ (.tmp 8) (.tmp 28) rfl (w.heap.size + 1) 0 (zactA) rfl rfl (z2.alloc (.cells #[.nilFunc, .bool false] 77)) (by simp [zactA]) (by kernel_rfl) rfl ?_; intro w4 hb4 hg4 hz4)
  have r0 := hb4.cell 0
  have r1 := hb4.cell 1
  have r2 := hb4.cell 2
  have r3 := hb4.cell 3
  have r4 := hb4.cell 4
  have r5 := hb4.cell 5
  have r6 := hb4.cell 6
  simp [zactA] at r0 r1 r2 r3 r4 r5 r6
  refine bodyPost_ret (v := .tuple #[.agg (zactA), .int .i64 80]) (by simp [results, Tryd.results20, go_sem, zactA, r0, r1, r2, r3, r4, r5, r6]) rfl ⟨rfl, (h2.alloc (.cells #[.nilFunc, .bool false] 77)).far hg4 (by intro e; have := Option.some.inj e; omega), gnew (grown_of (b2.alloc (by omega) (.cells #[.nilFunc, .bool false] 77)) _) hg4 (by omega)⟩
set_option maxHeartbeats 3200000 in
set_option maxRecDepth 100000 in
theorem Write_drop_false (fb : Nat) (rs : List Int) (t : Tup) (v : Int) (hr : regOf t = none) (k1 : dropsB t = true) (w : World) (hs : Rul w) (h : IsFile w 63 fb rs) :
    Calls Tryd.prog 20 #[.pointer (some ⟨fb, 0, none⟩), (.agg #[.int .i64 t.crn, .int .i64 t.op1, .int .i64 t.crm, .int .i64 t.op2]), .bool false, .int .u32 v] w (WritePost 63 fb (zactA, 81, rs) w) := by
  have nn := nil_nil
  have nf := nil_fun
  have FN := Lib.hid (fun W => find_drop t k1 W)
  clear k1
  have RG0 := Register_is t ((w.alloc (.cells #[.int .i64 t.crn, .int .i64 t.op1, .int .i64 t.crm, .int .i64 t.op2] 31)).alloc (.cells zactA 42)) ((hs.alloc _).alloc _)
  unfold regRes at RG0
  rw [hr] at RG0
  have RG := Lib.hid RG0
  clear RG0 hr
  have h0 := (h.alloc (.cells #[.int .i64 t.crn, .int .i64 t.op1, .int .i64 t.crm, .int .i64 t.op2] 31)).alloc (.cells zactA 42)
  have s0 := (hs.alloc (.cells #[.int .i64 t.crn, .int .i64 t.op1, .int .i64 t.crm, .int .i64 t.op2] 31)).alloc (.cells zactA 42)
  have t0 : Blok ((w.alloc (.cells #[.int .i64 t.crn, .int .i64 t.op1, .int .i64 t.crm, .int .i64 t.op2] 31)).alloc (.cells zactA 42)) w.heap.size 31 #[.int .i64 t.crn, .int .i64 t.op1, .int .i64 t.crm, .int .i64 t.op2].toList := (Blok.new w _ _).alloc _
  have z0 : Blok ((w.alloc (.cells #[.int .i64 t.crn, .int .i64 t.op1, .int .i64 t.crm, .int .i64 t.op2] 31)).alloc (.cells zactA 42)) (w.heap.size + 1) 42 zactA.toList := by
    have := Blok.new (w.alloc (.cells #[.int .i64 t.crn, .int .i64 t.op1, .int .i64 t.crm, .int .i64 t.op2] 31)) 42 zactA.toList
    have e : (w.alloc (.cells #[.int .i64 t.crn, .int .i64 t.op1, .int .i64 t.crm, .int .i64 t.op2] 31)).heap.size = w.heap.size + 1 := by simp
    rwa [e] at this
  have hfl := h.b.lt
  go_enter Tryd.func20, Tryd.ntmps20
  go_wp2_with fail
  refine RG.out.mono ?_
  rintro e w1 ⟨rfl, hB1⟩
  have t1 := t0.below hB1 t0.lt
  have z1 := z0.below hB1 z0.lt
  have h1 := h0.below hB1
  have s1 := s0.below hB1
  (have x0 : (w1).cell? ⟨w.heap.size, 0, none⟩ = some (.int .i64 t.crn) := (t1).cell 0; have x1 : (w1).cell? ⟨w.heap.size, 1, none⟩ = some (.int .i64 t.op1) := (t1).cell 1; have x2 : (w1).cell? ⟨w.heap.size, 2, none⟩ = some (.int .i64 t.crm) := (t1).cell 2; have x3 : (w1).cell? ⟨w.heap.size, 3, none⟩ = some (.int .i64 t.op2) := (t1).cell 3)
  go_wp2_with fail
  refine (FN.out _).mono ?_
  rintro e w2 ⟨p, rfl, hp, hpl, hB2⟩
  have z2 := z1.below hB2 z1.lt
  have h2 := h1.below hB2
  have s2 := s1.below hB2
  have b2 : Below w.heap.size w w2 := bthen (bthen (((Below.refl _ _).alloc (Nat.le_refl _) _).alloc (by simp) _) hB1) hB2
  have b2z := b2.size
  go_wp2_with (refine wpList_store_blok rfl _ (.tmp 8) (.tmp 37) rfl (w.heap.size + 1) 0 (zactA) rfl rfl (z2.alloc (.cells #[.func (.func 41) #[] #[.pointer (some ⟨p, 0, none⟩)], .bool false] 77)) (by simp [zactA]) (by kernel_rfl) rfl ?_; intro w4 hb4 hg4 hz4)
  have r0 := hb4.cell 0
  have r1 := hb4.cell 1
  have r2 := hb4.cell 2
  have r3 := hb4.cell 3
  have r4 := hb4.cell 4
  have r5 := hb4.cell 5
  have r6 := hb4.cell 6
  simp [zactA] at r0 r1 r2 r3 r4 r5 r6
  refine bodyPost_ret (v := .tuple #[.agg (zactA), .int .i64 81]) (by simp [results, Tryd.results20, go_sem, zactA, r0, r1, r2, r3, r4, r5, r6]) rfl ⟨rfl, (h2.alloc (.cells #[.func (.func 41) #[] #[.pointer (some ⟨p, 0, none⟩)], .bool false] 77)).far hg4 (by intro e; have := Option.some.inj e; omega), gnew (grown_of (b2.alloc (by omega) (.cells #[.func (.func 41) #[] #[.pointer (some ⟨p, 0, none⟩)], .bool false] 77)) _) hg4 (by omega)⟩
set_option maxHeartbeats 3200000 in
set_option maxRecDepth 100000 in
theorem Write_ask_false (fb : Nat) (rs : List Int) (t : Tup) (v : Int) (hr : regOf t = none) (k1 : asksB t = true) (w : World) (hs : Rul w) (h : IsFile w 63 fb rs) :
    Calls Tryd.prog 20 #[.pointer (some ⟨fb, 0, none⟩), (.agg #[.int .i64 t.crn, .int .i64 t.op1, .int .i64 t.crm, .int .i64 t.op2]), .bool false, .int .u32 v] w (WritePost 63 fb (zactA, 81, rs) w) := by
  have nn := nil_nil
  have nf := nil_fun
  have FN := Lib.hid (fun W => find_ask t k1 W)
  clear k1
  have RG0 := Register_is t ((w.alloc (.cells #[.int .i64 t.crn, .int .i64 t.op1, .int .i64 t.crm, .int .i64 t.op2] 31)).alloc (.cells zactA 42)) ((hs.alloc _).alloc _)
  unfold regRes at RG0
  rw [hr] at RG0
  have RG := Lib.hid RG0
  clear RG0 hr
  have h0 := (h.alloc (.cells #[.int .i64 t.crn, .int .i64 t.op1, .int .i64 t.crm, .int .i64 t.op2] 31)).alloc (.cells zactA 42)
  have s0 := (hs.alloc (.cells #[.int .i64 t.crn, .int .i64 t.op1, .int .i64 t.crm, .int .i64 t.op2] 31)).alloc (.cells zactA 42)
  have t0 : Blok ((w.alloc (.cells #[.int .i64 t.crn, .int .i64 t.op1, .int .i64 t.crm, .int .i64 t.op2] 31)).alloc (.cells zactA 42)) w.heap.size 31 #[.int .i64 t.crn, .int .i64 t.op1, .int .i64 t.crm, .int .i64 t.op2].toList := (Blok.new w _ _).alloc _
  have z0 : Blok ((w.alloc (.cells #[.int .i64 t.crn, .int .i64 t.op1, .int .i64 t.crm, .int .i64 t.op2] 31)).alloc (.cells zactA 42)) (w.heap.size + 1) 42 zactA.toList := by
    have := Blok.new (w.alloc (.cells #[.int .i64 t.crn, .int .i64 t.op1, .int .i64 t.crm, .int .i64 t.op2] 31)) 42 zactA.toList
    have e : (w.alloc (.cells #[.int .i64 t.crn, .int .i64 t.op1, .int .i64 t.crm, .int .i64 t.op2] 31)).heap.size = w.heap.size + 1 := by simp
    rwa [e] at this
  have hfl := h.b.lt
  go_enter Tryd.func20, Tryd.ntmps20
  go_wp2_with fail
  refine RG.out.mono ?_
  rintro e w1 ⟨rfl, hB1⟩
  have t1 := t0.below hB1 t0.lt
  have z1 := z0.below hB1 z0.lt
  have h1 := h0.below hB1
  have s1 := s0.below hB1
  (have x0 : (w1).cell? ⟨w.heap.size, 0, none⟩ = some (.int .i64 t.crn) := (t1).cell 0; have x1 : (w1).cell? ⟨w.heap.size, 1, none⟩ = some (.int .i64 t.op1) := (t1).cell 1; have x2 : (w1).cell? ⟨w.heap.size, 2, none⟩ = some (.int .i64 t.crm) := (t1).cell 2; have x3 : (w1).cell? ⟨w.heap.size, 3, none⟩ = some (.int .i64 t.op2) := (t1).cell 3)
  go_wp2_with fail
  refine (FN.out _).mono ?_
  rintro e w2 ⟨p, rfl, hp, hB2⟩
  have z2 := z1.below hB2 z1.lt
  have h2 := h1.below hB2
  have s2 := s1.below hB2
  have b2 : Below w.heap.size w w2 := bthen (bthen (((Below.refl _ _).alloc (Nat.le_refl _) _).alloc (by simp) _) hB1) hB2
  have b2z := b2.size
  go_wp2_with (refine wpList_store_blok rfl _ (.tmp 8) (.tmp 37) rfl (w.heap.size + 1) 0 (zactA) rfl rfl (z2.alloc (.cells #[.func (.func 37) #[] #[.pointer (some ⟨p, 0, none⟩)], .bool false] 77)) (by simp [zactA]) (by kernel_rfl) rfl ?_; intro w4 hb4 hg4 hz4)
  have r0 := hb4.cell 0
  have r1 := hb4.cell 1
  have r2 := hb4.cell 2
  have r3 := hb4.cell 3
  have r4 := hb4.cell 4
  have r5 := hb4.cell 5
  have r6 := hb4.cell 6
  simp [zactA] at r0 r1 r2 r3 r4 r5 r6
  refine bodyPost_ret (v := .tuple #[.agg (zactA), .int .i64 81]) (by simp [results, Tryd.results20, go_sem, zactA, r0, r1, r2, r3, r4, r5, r6]) rfl ⟨rfl, (h2.alloc (.cells #[.func (.func 37) #[] #[.pointer (some ⟨p, 0, none⟩)], .bool false] 77)).far hg4 (by intro e; have := Option.some.inj e; omega), gnew (grown_of (b2.alloc (by omega) (.cells #[.func (.func 37) #[] #[.pointer (some ⟨p, 0, none⟩)], .bool false] 77)) _) hg4 (by omega)⟩
set_option maxHeartbeats 3200000 in
set_option maxRecDepth 100000 in
theorem Write_drop_true (fb : Nat) (rs : List Int) (t : Tup) (v : Int) (hv0 : 0 ≤ v) (hv1 : v ≤ 4294967295) (hr : regOf t = none) (k1 : dropsB t = true) (w : World) (hs : Rul w) (h : IsFile w 63 fb rs) :
    Calls Tryd.prog 20 #[.pointer (some ⟨fb, 0, none⟩), (.agg #[.int .i64 t.crn, .int .i64 t.op1, .int .i64 t.crm, .int .i64 t.op2]), .bool true, .int .u32 v] w (WritePost 63 fb (dropA (t.op2 + 1) v, 0, rs) w) := by
  have nn := nil_nil
  have nf := nil_fun
  have FN := Lib.hid (fun W => find_drop t k1 W)
  have kk : 1 ≤ t.op2 + 1 ∧ t.op2 + 1 ≤ 4 := by simp [dropsB] at k1; omega
  clear k1
  have RG0 := Register_is t ((w.alloc (.cells #[.int .i64 t.crn, .int .i64 t.op1, .int .i64 t.crm, .int .i64 t.op2] 31)).alloc (.cells zactA 42)) ((hs.alloc _).alloc _)
  unfold regRes at RG0
  rw [hr] at RG0
  have RG := Lib.hid RG0
  clear RG0 hr
  have h0 := (h.alloc (.cells #[.int .i64 t.crn, .int .i64 t.op1, .int .i64 t.crm, .int .i64 t.op2] 31)).alloc (.cells zactA 42)
  have s0 := (hs.alloc (.cells #[.int .i64 t.crn, .int .i64 t.op1, .int .i64 t.crm, .int .i64 t.op2] 31)).alloc (.cells zactA 42)
  have t0 : Blok ((w.alloc (.cells #[.int .i64 t.crn, .int .i64 t.op1, .int .i64 t.crm, .int .i64 t.op2] 31)).alloc (.cells zactA 42)) w.heap.size 31 #[.int .i64 t.crn, .int .i64 t.op1, .int .i64 t.crm, .int .i64 t.op2].toList := (Blok.new w _ _).alloc _
  have z0 : Blok ((w.alloc (.cells #[.int .i64 t.crn, .int .i64 t.op1, .int .i64 t.crm, .int .i64 t.op2] 31)).alloc (.cells zactA 42)) (w.heap.size + 1) 42 zactA.toList := by
    have := Blok.new (w.alloc (.cells #[.int .i64 t.crn, .int .i64 t.op1, .int .i64 t.crm, .int .i64 t.op2] 31)) 42 zactA.toList
    have e : (w.alloc (.cells #[.int .i64 t.crn, .int .i64 t.op1, .int .i64 t.crm, .int .i64 t.op2] 31)).heap.size = w.heap.size + 1 := by simp
    rwa [e] at this
  have hfl := h.b.lt
  go_enter Tryd.func20, Tryd.ntmps20
  go_wp2_with fail
  refine RG.out.mono ?_
  rintro e w1 ⟨rfl, hB1⟩
  have t1 := t0.below hB1 t0.lt
  have z1 := z0.below hB1 z0.lt
  have h1 := h0.below hB1
  have s1 := s0.below hB1
  (have x0 : (w1).cell? ⟨w.heap.size, 0, none⟩ = some (.int .i64 t.crn) := (t1).cell 0; have x1 : (w1).cell? ⟨w.heap.size, 1, none⟩ = some (.int .i64 t.op1) := (t1).cell 1; have x2 : (w1).cell? ⟨w.heap.size, 2, none⟩ = some (.int .i64 t.crm) := (t1).cell 2; have x3 : (w1).cell? ⟨w.heap.size, 3, none⟩ = some (.int .i64 t.op2) := (t1).cell 3)
  go_wp2_with fail
  refine (FN.out _).mono ?_
  rintro e w2 ⟨p, rfl, hp, hpl, hB2⟩
  have z2 := z1.below hB2 z1.lt
  have h2 := h1.below hB2
  have s2 := s1.below hB2
  have b2 : Below w.heap.size w w2 := bthen (bthen (((Below.refl _ _).alloc (Nat.le_refl _) _).alloc (by simp) _) hB1) hB2
  have b2z := b2.size
  go_wp2_with fail
  refine (drop1_is (t.op2 + 1) kk p v hv0 hv1 _ (by rw [World.cell?_alloc_lt _ _ _ hpl]; exact hp) (by simp; omega)).mono ?_
  rintro e w3 ⟨rfl, hB3⟩
  go_wp2_with (refine wpList_store_blok rfl _ (.tmp 8) (.tmp 44) rfl (w.heap.size + 1) 0 (dropA (t.op2 + 1) v) rfl rfl ((z2.alloc (.cells #[.func (.func 41) #[] #[.pointer (some ⟨p, 0, none⟩)], .bool false] 77)).below hB3 (z2.alloc (.cells #[.func (.func 41) #[] #[.pointer (some ⟨p, 0, none⟩)], .bool false] 77)).lt) (by simp [zactA, dropA]) (by kernel_rfl) rfl ?_; intro w4 hb4 hg4 hz4)
  have r0 := hb4.cell 0
  have r1 := hb4.cell 1
  have r2 := hb4.cell 2
  have r3 := hb4.cell 3
  have r4 := hb4.cell 4
  have r5 := hb4.cell 5
  have r6 := hb4.cell 6
  simp [zactA, dropA] at r0 r1 r2 r3 r4 r5 r6
  refine bodyPost_ret (v := .tuple #[.agg (dropA (t.op2 + 1) v), .int .i64 0]) (by simp [results, Tryd.results20, go_sem, dropA, r0, r1, r2, r3, r4, r5, r6]) rfl ⟨rfl, ((h2.alloc (.cells #[.func (.func 41) #[] #[.pointer (some ⟨p, 0, none⟩)], .bool false] 77)).below hB3).far hg4 (by intro e; have := Option.some.inj e; omega), gnew (grown_of (bthen (b2.alloc (by omega) (.cells #[.func (.func 41) #[] #[.pointer (some ⟨p, 0, none⟩)], .bool false] 77)) hB3) _) hg4 (by omega)⟩
set_option maxHeartbeats 3200000 in
set_option maxRecDepth 100000 in
theorem Write_ask_true (fb : Nat) (rs : List Int) (t : Tup) (v : Int) (hv0 : 0 ≤ v) (hv1 : v ≤ 4294967295) (hr : regOf t = none) (k1 : asksB t = true) (w : World) (hs : Rul w) (h : IsFile w 63 fb rs) :
    Calls Tryd.prog 20 #[.pointer (some ⟨fb, 0, none⟩), (.agg #[.int .i64 t.crn, .int .i64 t.op1, .int .i64 t.crm, .int .i64 t.op2]), .bool true, .int .u32 v] w (WritePost 63 fb (askA t.op2 v, 0, rs) w) := by
  have nn := nil_nil
  have nf := nil_fun
  have FN := Lib.hid (fun W => find_ask t k1 W)
  have kk : 0 ≤ t.op2 ∧ t.op2 < 4 := by simp [asksB] at k1; omega
  clear k1
  have RG0 := Register_is t ((w.alloc (.cells #[.int .i64 t.crn, .int .i64 t.op1, .int .i64 t.crm, .int .i64 t.op2] 31)).alloc (.cells zactA 42)) ((hs.alloc _).alloc _)
  unfold regRes at RG0
  rw [hr] at RG0
  have RG := Lib.hid RG0
  clear RG0 hr
  have h0 := (h.alloc (.cells #[.int .i64 t.crn, .int .i64 t.op1, .int .i64 t.crm, .int .i64 t.op2] 31)).alloc (.cells zactA 42)
  have s0 := (hs.alloc (.cells #[.int .i64 t.crn, .int .i64 t.op1, .int .i64 t.crm, .int .i64 t.op2] 31)).alloc (.cells zactA 42)
  have t0 : Blok ((w.alloc (.cells #[.int .i64 t.crn, .int .i64 t.op1, .int .i64 t.crm, .int .i64 t.op2] 31)).alloc (.cells zactA 42)) w.heap.size 31 #[.int .i64 t.crn, .int .i64 t.op1, .int .i64 t.crm, .int .i64 t.op2].toList := (Blok.new w _ _).alloc _
  have z0 : Blok ((w.alloc (.cells #[.int .i64 t.crn, .int .i64 t.op1, .int .i64 t.crm, .int .i64 t.op2] 31)).alloc (.cells zactA 42)) (w.heap.size + 1) 42 zactA.toList := by
    have := Blok.new (w.alloc (.cells #[.int .i64 t.crn, .int .i64 t.op1, .int .i64 t.crm, .int .i64 t.op2] 31)) 42 zactA.toList
    have e : (w.alloc (.cells #[.int .i64 t.crn, .int .i64 t.op1, .int .i64 t.crm, .int .i64 t.op2] 31)).heap.size = w.heap.size + 1 := by simp
    rwa [e] at this
  have hfl := h.b.lt
  go_enter Tryd.func20, Tryd.ntmps20
  go_wp2_with fail
  refine RG.out.mono ?_
  rintro e w1 ⟨rfl, hB1⟩
  have t1 := t0.below hB1 t0.lt
  have z1 := z0.below hB1 z0.lt
  have h1 := h0.below hB1
  have s1 := s0.below hB1
  (have x0 : (w1).cell? ⟨w.heap.size, 0, none⟩ = some (.int .i64 t.crn) := (t1).cell 0; have x1 : (w1).cell? ⟨w.heap.size, 1, none⟩ = some (.int .i64 t.op1) := (t1).cell 1; have x2 : (w1).cell? ⟨w.heap.size, 2, none⟩ = some (.int .i64 t.crm) := (t1).cell 2; have x3 : (w1).cell? ⟨w.heap.size, 3, none⟩ = some (.int .i64 t.op2) := (t1).cell 3)
  go_wp2_with fail
  refine (FN.out _).mono ?_
  rintro e w2 ⟨p, rfl, hp, hB2⟩
  have z2 := z1.below hB2 z1.lt
  have h2 := h1.below hB2
  have s2 := s1.below hB2
  have b2 : Below w.heap.size w w2 := bthen (bthen (((Below.refl _ _).alloc (Nat.le_refl _) _).alloc (by simp) _) hB1) hB2
  have b2z := b2.size
  go_wp2_with fail
  refine (find1_is p t kk.1 kk.2 v hv0 hv1 _ (hp.alloc _)).mono ?_
  rintro e w3 ⟨rfl, hB3⟩
  go_wp2_with (refine wpList_store_blok rfl _ (.tmp 8) (.tmp 44) rfl (w.heap.size + 1) 0 (askA t.op2 v) rfl rfl ((z2.alloc (.cells #[.func (.func 37) #[] #[.pointer (some ⟨p, 0, none⟩)], .bool false] 77)).below hB3 (z2.alloc (.cells #[.func (.func 37) #[] #[.pointer (some ⟨p, 0, none⟩)], .bool false] 77)).lt) (by simp [zactA, askA]) (by kernel_rfl) rfl ?_; intro w4 hb4 hg4 hz4)
  have r0 := hb4.cell 0
  have r1 := hb4.cell 1
  have r2 := hb4.cell 2
  have r3 := hb4.cell 3
  have r4 := hb4.cell 4
  have r5 := hb4.cell 5
  have r6 := hb4.cell 6
  simp [zactA, askA] at r0 r1 r2 r3 r4 r5 r6
  refine bodyPost_ret (v := .tuple #[.agg (askA t.op2 v), .int .i64 0]) (by simp [results, Tryd.results20, go_sem, askA, r0, r1, r2, r3, r4, r5, r6]) rfl ⟨rfl, ((h2.alloc (.cells #[.func (.func 37) #[] #[.pointer (some ⟨p, 0, none⟩)], .bool false] 77)).below hB3).far hg4 (by intro e; have := Option.some.inj e; omega), gnew (grown_of (bthen (b2.alloc (by omega) (.cells #[.func (.func 37) #[] #[.pointer (some ⟨p, 0, none⟩)], .bool false] 77)) hB3) _) hg4 (by omega)⟩
set_option maxHeartbeats 3200000 in
set_option maxRecDepth 100000 in
theorem Write_bar_true (fb : Nat) (rs : List Int) (t : Tup) (v : Int) (hr : regOf t = none) (k1 : barB t = true) (w : World) (hs : Rul w) (h : IsFile w 63 fb rs) :
    Calls Tryd.prog 20 #[.pointer (some ⟨fb, 0, none⟩), (.agg #[.int .i64 t.crn, .int .i64 t.op1, .int .i64 t.crm, .int .i64 t.op2]), .bool true, .int .u32 v] w (WritePost 63 fb (zactA, 0, rs) w) := by
  have nn := nil_nil
  have nf := nil_fun
  have FN := Lib.hid (fun W => find_bar t k1 W)
  clear k1
  have RG0 := Register_is t ((w.alloc (.cells #[.int .i64 t.crn, .int .i64 t.op1, .int .i64 t.crm, .int .i64 t.op2] 31)).alloc (.cells zactA 42)) ((hs.alloc _).alloc _)
  unfold regRes at RG0
  rw [hr] at RG0
  have RG := Lib.hid RG0
  clear RG0 hr
  have h0 := (h.alloc (.cells #[.int .i64 t.crn, .int .i64 t.op1, .int .i64 t.crm, .int .i64 t.op2] 31)).alloc (.cells zactA 42)
  have s0 := (hs.alloc (.cells #[.int .i64 t.crn, .int .i64 t.op1, .int .i64 t.crm, .int .i64 t.op2] 31)).alloc (.cells zactA 42)
  have t0 : Blok ((w.alloc (.cells #[.int .i64 t.crn, .int .i64 t.op1, .int .i64 t.crm, .int .i64 t.op2] 31)).alloc (.cells zactA 42)) w.heap.size 31 #[.int .i64 t.crn, .int .i64 t.op1, .int .i64 t.crm, .int .i64 t.op2].toList := (Blok.new w _ _).alloc _
  have z0 : Blok ((w.alloc (.cells #[.int .i64 t.crn, .int .i64 t.op1, .int .i64 t.crm, .int .i64 t.op2] 31)).alloc (.cells zactA 42)) (w.heap.size + 1) 42 zactA.toList := by
    have := Blok.new (w.alloc (.cells #[.int .i64 t.crn, .int .i64 t.op1, .int .i64 t.crm, .int .i64 t.op2] 31)) 42 zactA.toList
    have e : (w.alloc (.cells #[.int .i64 t.crn, .int .i64 t.op1, .int .i64 t.crm, .int .i64 t.op2] 31)).heap.size = w.heap.size + 1 := by simp
    rwa [e] at this
  have hfl := h.b.lt
  go_enter Tryd.func20, Tryd.ntmps20
  go_wp2_with fail
  refine RG.out.mono ?_
  rintro e w1 ⟨rfl, hB1⟩
  have t1 := t0.below hB1 t0.lt
  have z1 := z0.below hB1 z0.lt
  have h1 := h0.below hB1
  have s1 := s0.below hB1
  (have x0 : (w1).cell? ⟨w.heap.size, 0, none⟩ = some (.int .i64 t.crn) := (t1).cell 0; have x1 : (w1).cell? ⟨w.heap.size, 1, none⟩ = some (.int .i64 t.op1) := (t1).cell 1; have x2 : (w1).cell? ⟨w.heap.size, 2, none⟩ = some (.int .i64 t.crm) := (t1).cell 2; have x3 : (w1).cell? ⟨w.heap.size, 3, none⟩ = some (.int .i64 t.op2) := (t1).cell 3)
  go_wp2_with fail
  refine (FN.out _).mono ?_
  rintro e w2 ⟨rfl, hB2⟩
  have z2 := z1.below hB2 z1.lt
  have h2 := h1.below hB2
  have s2 := s1.below hB2
  have b2 : Below w.heap.size w w2 := bthen (bthen (((Below.refl _ _).alloc (Nat.le_refl _) _).alloc (by simp) _) hB1) hB2
  have b2z := b2.size
  go_wp2_with fail
  refine (find2_is v _).mono ?_
  rintro e w3 ⟨rfl, hB3⟩
  go_wp2_with (refine wpList_store_blok rfl _ (.tmp 8) (.tmp 44) rfl (w.heap.size + 1) 0 (zactA) rfl rfl ((z2.alloc (.cells #[.func (.func 38) #[] #[], .bool true] 77)).below hB3 (z2.alloc (.cells #[.func (.func 38) #[] #[], .bool true] 77)).lt) (by simp [zactA]) (by kernel_rfl) rfl ?_; intro w4 hb4 hg4 hz4)
  have r0 := hb4.cell 0
  have r1 := hb4.cell 1
  have r2 := hb4.cell 2
  have r3 := hb4.cell 3
  have r4 := hb4.cell 4
  have r5 := hb4.cell 5
  have r6 := hb4.cell 6
  simp [zactA] at r0 r1 r2 r3 r4 r5 r6
  refine bodyPost_ret (v := .tuple #[.agg (zactA), .int .i64 0]) (by simp [results, Tryd.results20, go_sem, zactA, r0, r1, r2, r3, r4, r5, r6]) rfl ⟨rfl, ((h2.alloc (.cells #[.func (.func 38) #[] #[], .bool true] 77)).below hB3).far hg4 (by intro e; have := Option.some.inj e; omega), gnew (grown_of (bthen (b2.alloc (by omega) (.cells #[.func (.func 38) #[] #[], .bool true] 77)) hB3) _) hg4 (by omega)⟩
set_option maxHeartbeats 3200000 in
set_option maxRecDepth 100000 in
theorem Write_bar_false (fb : Nat) (rs : List Int) (t : Tup) (v : Int) (hr : regOf t = none) (k1 : barB t = true) (w : World) (hs : Rul w) (h : IsFile w 63 fb rs) :
    Calls Tryd.prog 20 #[.pointer (some ⟨fb, 0, none⟩), (.agg #[.int .i64 t.crn, .int .i64 t.op1, .int .i64 t.crm, .int .i64 t.op2]), .bool false, .int .u32 v] w (WritePost 63 fb (zactA, 0, rs) w) := by
  have nn := nil_nil
  have nf := nil_fun
  have FN := Lib.hid (fun W => find_bar t k1 W)
  clear k1
  have RG0 := Register_is t ((w.alloc (.cells #[.int .i64 t.crn, .int .i64 t.op1, .int .i64 t.crm, .int .i64 t.op2] 31)).alloc (.cells zactA 42)) ((hs.alloc _).alloc _)
  unfold regRes at RG0
  rw [hr] at RG0
  have RG := Lib.hid RG0
  clear RG0 hr
  have h0 := (h.alloc (.cells #[.int .i64 t.crn, .int .i64 t.op1, .int .i64 t.crm, .int .i64 t.op2] 31)).alloc (.cells zactA 42)
  have s0 := (hs.alloc (.cells #[.int .i64 t.crn, .int .i64 t.op1, .int .i64 t.crm, .int .i64 t.op2] 31)).alloc (.cells zactA 42)
  have t0 : Blok ((w.alloc (.cells #[.int .i64 t.crn, .int .i64 t.op1, .int .i64 t.crm, .int .i64 t.op2] 31)).alloc (.cells zactA 42)) w.heap.size 31 #[.int .i64 t.crn, .int .i64 t.op1, .int .i64 t.crm, .int .i64 t.op2].toList := (Blok.new w _ _).alloc _
  have z0 : Blok ((w.alloc (.cells #[.int .i64 t.crn, .int .i64 t.op1, .int .i64 t.crm, .int .i64 t.op2] 31)).alloc (.cells zactA 42)) (w.heap.size + 1) 42 zactA.toList := by
    have := Blok.new (w.alloc (.cells #[.int .i64 t.crn, .int .i64 t.op1, .int .i64 t.crm, .int .i64 t.op2] 31)) 42 zactA.toList
    have e : (w.alloc (.cells #[.int .i64 t.crn, .int .i64 t.op1, .int .i64 t.crm, .int .i64 t.op2] 31)).heap.size = w.heap.size + 1 := by simp
    rwa [e] at this
  have hfl := h.b.lt
  go_enter Tryd.func20, Tryd.ntmps20
  go_wp2_with fail
  refine RG.out.mono ?_
  rintro e w1 ⟨rfl, hB1⟩
  have t1 := t0.below hB1 t0.lt
  have z1 := z0.below hB1 z0.lt
  have h1 := h0.below hB1
  have s1 := s0.below hB1
  (have x0 : (w1).cell? ⟨w.heap.size, 0, none⟩ = some (.int .i64 t.crn) := (t1).cell 0; have x1 : (w1).cell? ⟨w.heap.size, 1, none⟩ = some (.int .i64 t.op1) := (t1).cell 1; have x2 : (w1).cell? ⟨w.heap.size, 2, none⟩ = some (.int .i64 t.crm) := (t1).cell 2; have x3 : (w1).cell? ⟨w.heap.size, 3, none⟩ = some (.int .i64 t.op2) := (t1).cell 3)
  go_wp2_with fail
  refine (FN.out _).mono ?_
  rintro e w2 ⟨rfl, hB2⟩
  have z2 := z1.below hB2 z1.lt
  have h2 := h1.below hB2
  have s2 := s1.below hB2
  have b2 : Below w.heap.size w w2 := bthen (bthen (((Below.refl _ _).alloc (Nat.le_refl _) _).alloc (by simp) _) hB1) hB2
  have b2z := b2.size
  go_wp2_with fail
  refine (find2_is v _).mono ?_
  rintro e w3 ⟨rfl, hB3⟩
  go_wp2_with (refine wpList_store_blok rfl _ (.tmp 8) (.tmp 44) rfl (w.heap.size + 1) 0 (zactA) rfl rfl ((z2.alloc (.cells #[.func (.func 38) #[] #[], .bool true] 77)).below hB3 (z2.alloc (.cells #[.func (.func 38) #[] #[], .bool true] 77)).lt) (by simp [zactA]) (by kernel_rfl) rfl ?_; intro w4 hb4 hg4 hz4)
  have r0 := hb4.cell 0
  have r1 := hb4.cell 1
  have r2 := hb4.cell 2
  have r3 := hb4.cell 3
  have r4 := hb4.cell 4
  have r5 := hb4.cell 5
  have r6 := hb4.cell 6
  simp [zactA] at r0 r1 r2 r3 r4 r5 r6
  refine bodyPost_ret (v := .tuple #[.agg (zactA), .int .i64 0]) (by simp [results, Tryd.results20, go_sem, zactA, r0, r1, r2, r3, r4, r5, r6]) rfl ⟨rfl, ((h2.alloc (.cells #[.func (.func 38) #[] #[], .bool true] 77)).below hB3).far hg4 (by intro e; have := Option.some.inj e; omega), gnew (grown_of (bthen (b2.alloc (by omega) (.cells #[.func (.func 38) #[] #[], .bool true] 77)) hB3) _) hg4 (by omega)⟩
set_option maxHeartbeats 3200000 in
set_option maxRecDepth 100000 in
theorem Write_reg_false (fb : Nat) (rs : List Int) (t : Tup) (v : Int) (i : Nat) (hr : regOf t = some i) (w : World) (hs : Rul w) (h : IsFile w 63 fb rs) :
    Calls Tryd.prog 20 #[.pointer (some ⟨fb, 0, none⟩), (.agg #[.int .i64 t.crn, .int .i64 t.op1, .int .i64 t.crm, .int .i64 t.op2]), .bool false, .int .u32 v] w (WritePost 63 fb (zactA, 81, rs) w) := by
  have nn := nil_nil
  have nf := nil_fun
  have FN := Lib.hid (fun W => find_none t (reg_none hr).1 (reg_none hr).2.1 (reg_none hr).2.2 W)
  have _u := hr
  clear _u
  have RG0 := Register_is t ((w.alloc (.cells #[.int .i64 t.crn, .int .i64 t.op1, .int .i64 t.crm, .int .i64 t.op2] 31)).alloc (.cells zactA 42)) ((hs.alloc _).alloc _)
  unfold regRes at RG0
  rw [hr] at RG0
  have RG := Lib.hid RG0
  clear RG0 hr
  have h0 := (h.alloc (.cells #[.int .i64 t.crn, .int .i64 t.op1, .int .i64 t.crm, .int .i64 t.op2] 31)).alloc (.cells zactA 42)
  have s0 := (hs.alloc (.cells #[.int .i64 t.crn, .int .i64 t.op1, .int .i64 t.crm, .int .i64 t.op2] 31)).alloc (.cells zactA 42)
  have t0 : Blok ((w.alloc (.cells #[.int .i64 t.crn, .int .i64 t.op1, .int .i64 t.crm, .int .i64 t.op2] 31)).alloc (.cells zactA 42)) w.heap.size 31 #[.int .i64 t.crn, .int .i64 t.op1, .int .i64 t.crm, .int .i64 t.op2].toList := (Blok.new w _ _).alloc _
  have z0 : Blok ((w.alloc (.cells #[.int .i64 t.crn, .int .i64 t.op1, .int .i64 t.crm, .int .i64 t.op2] 31)).alloc (.cells zactA 42)) (w.heap.size + 1) 42 zactA.toList := by
    have := Blok.new (w.alloc (.cells #[.int .i64 t.crn, .int .i64 t.op1, .int .i64 t.crm, .int .i64 t.op2] 31)) 42 zactA.toList
    have e : (w.alloc (.cells #[.int .i64 t.crn, .int .i64 t.op1, .int .i64 t.crm, .int .i64 t.op2] 31)).heap.size = w.heap.size + 1 := by simp
    rwa [e] at this
  have hfl := h.b.lt
  go_enter Tryd.func20, Tryd.ntmps20
  go_wp2_with fail
  refine RG.out.mono ?_
  rintro e w1 ⟨rfl, hB1⟩
  have t1 := t0.below hB1 t0.lt
  have z1 := z0.below hB1 z0.lt
  have h1 := h0.below hB1
  have s1 := s0.below hB1
  (have x0 : (w1).cell? ⟨w.heap.size, 0, none⟩ = some (.int .i64 t.crn) := (t1).cell 0; have x1 : (w1).cell? ⟨w.heap.size, 1, none⟩ = some (.int .i64 t.op1) := (t1).cell 1; have x2 : (w1).cell? ⟨w.heap.size, 2, none⟩ = some (.int .i64 t.crm) := (t1).cell 2; have x3 : (w1).cell? ⟨w.heap.size, 3, none⟩ = some (.int .i64 t.op2) := (t1).cell 3)
  go_wp2_with fail
  refine (FN.out _).mono ?_
  rintro e w2 ⟨rfl, hB2⟩
  have z2 := z1.below hB2 z1.lt
  have h2 := h1.below hB2
  have s2 := s1.below hB2
  have b2 : Below w.heap.size w w2 := bthen (bthen (((Below.refl _ _).alloc (Nat.le_refl _) _).alloc (by simp) _) hB1) hB2
  have b2z := b2.size
  go_wp2_with (refine wpList_store_blok rfl _ (.tmp 8) (.tmp 37) rfl (w.heap.size + 1) 0 (zactA) rfl rfl (z2.alloc (.cells #[.nilFunc, .bool false] 77)) (by simp [zactA]) (by kernel_rfl) rfl ?_; intro w4 hb4 hg4 hz4)
  have r0 := hb4.cell 0
  have r1 := hb4.cell 1
  have r2 := hb4.cell 2
  have r3 := hb4.cell 3
  have r4 := hb4.cell 4
  have r5 := hb4.cell 5
  have r6 := hb4.cell 6
  simp [zactA] at r0 r1 r2 r3 r4 r5 r6
  refine bodyPost_ret (v := .tuple #[.agg (zactA), .int .i64 81]) (by simp [results, Tryd.results20, go_sem, zactA, r0, r1, r2, r3, r4, r5, r6]) rfl ⟨rfl, (h2.alloc (.cells #[.nilFunc, .bool false] 77)).far hg4 (by intro e; have := Option.some.inj e; omega), gnew (grown_of (b2.alloc (by omega) (.cells #[.nilFunc, .bool false] 77)) _) hg4 (by omega)⟩
set_option maxHeartbeats 3200000 in
set_option maxRecDepth 100000 in
theorem Write_reg_seen (fb : Nat) (rs : List Int) (t : Tup) (v : Int) (i : Nat) (hi : i < 13) (hn : i < 5 ∨ 9 < i) (hr : regOf t = some i) (w : World) (hs : Rul w) (h : IsFile w 63 fb rs) :
    Calls Tryd.prog 20 #[.pointer (some ⟨fb, 0, none⟩), (.agg #[.int .i64 t.crn, .int .i64 t.op1, .int .i64 t.crm, .int .i64 t.op2]), .bool true, .int .u32 v] w (WritePost 63 fb (regA, 0, rs.set i (keep i v)) w) := by
  have nn := nil_nil
  have nf := nil_fun
  have FN := Lib.hid (fun W => find_none t (reg_none hr).1 (reg_none hr).2.1 (reg_none hr).2.2 W)
  have _u := hr
  clear _u
  have RG0 := Register_is t ((w.alloc (.cells #[.int .i64 t.crn, .int .i64 t.op1, .int .i64 t.crm, .int .i64 t.op2] 31)).alloc (.cells zactA 42)) ((hs.alloc _).alloc _)
  unfold regRes at RG0
  rw [hr] at RG0
  have RG := Lib.hid RG0
  clear RG0 hr
  have h0 := (h.alloc (.cells #[.int .i64 t.crn, .int .i64 t.op1, .int .i64 t.crm, .int .i64 t.op2] 31)).alloc (.cells zactA 42)
  have s0 := (hs.alloc (.cells #[.int .i64 t.crn, .int .i64 t.op1, .int .i64 t.crm, .int .i64 t.op2] 31)).alloc (.cells zactA 42)
  have t0 : Blok ((w.alloc (.cells #[.int .i64 t.crn, .int .i64 t.op1, .int .i64 t.crm, .int .i64 t.op2] 31)).alloc (.cells zactA 42)) w.heap.size 31 #[.int .i64 t.crn, .int .i64 t.op1, .int .i64 t.crm, .int .i64 t.op2].toList := (Blok.new w _ _).alloc _
  have z0 : Blok ((w.alloc (.cells #[.int .i64 t.crn, .int .i64 t.op1, .int .i64 t.crm, .int .i64 t.op2] 31)).alloc (.cells zactA 42)) (w.heap.size + 1) 42 zactA.toList := by
    have := Blok.new (w.alloc (.cells #[.int .i64 t.crn, .int .i64 t.op1, .int .i64 t.crm, .int .i64 t.op2] 31)) 42 zactA.toList
    have e : (w.alloc (.cells #[.int .i64 t.crn, .int .i64 t.op1, .int .i64 t.crm, .int .i64 t.op2] 31)).heap.size = w.heap.size + 1 := by simp
    rwa [e] at this
  have hfl := h.b.lt
  go_enter Tryd.func20, Tryd.ntmps20
  go_wp2_with fail
  refine RG.out.mono ?_
  rintro e w1 ⟨rfl, hB1⟩
  have t1 := t0.below hB1 t0.lt
  have z1 := z0.below hB1 z0.lt
  have h1 := h0.below hB1
  have s1 := s0.below hB1
  (have x0 : (w1).cell? ⟨w.heap.size, 0, none⟩ = some (.int .i64 t.crn) := (t1).cell 0; have x1 : (w1).cell? ⟨w.heap.size, 1, none⟩ = some (.int .i64 t.op1) := (t1).cell 1; have x2 : (w1).cell? ⟨w.heap.size, 2, none⟩ = some (.int .i64 t.crm) := (t1).cell 2; have x3 : (w1).cell? ⟨w.heap.size, 3, none⟩ = some (.int .i64 t.op2) := (t1).cell 3)
  go_wp2_with fail
  refine (FN.out _).mono ?_
  rintro e w2 ⟨rfl, hB2⟩
  have z2 := z1.below hB2 z1.lt
  have h2 := h1.below hB2
  have s2 := s1.below hB2
  have b2 : Below w.heap.size w w2 := bthen (bthen (((Below.refl _ _).alloc (Nat.le_refl _) _).alloc (by simp) _) hB1) hB2
  have b2z := b2.size
  have c2 := h2.cell i (by omega)
  have f2 : w2.frozen? ⟨fb, i, none⟩ = false := h2.b.frozen i
  have k2 := s2.kept i (by omega)
  have gl := s2.pos
  have fl2 := h2.b.lt
  have n5 : ((i : Int) == 5) = false := beq_eq_false_iff_ne.2 (by omega)
  have n6 : ((i : Int) == 6) = false := beq_eq_false_iff_ne.2 (by omega)
  have n7 : ((i : Int) == 7) = false := beq_eq_false_iff_ne.2 (by omega)
  have n8 : ((i : Int) == 8) = false := beq_eq_false_iff_ne.2 (by omega)
  have n9 : ((i : Int) == 9) = false := beq_eq_false_iff_ne.2 (by omega)
  have i0 : (0 : Int) ≤ ↑i := by omega
  have i1 : (↑i : Int) < 13 := by omega
  go_wp2_with fail
  (refine wp_region_tail 11 (by kernel_rfl) (by kernel_rfl) ?_; simp only [List.take_succ_cons, List.take_zero, List.drop_succ_cons, List.drop_zero]; (repeat still_step); (try refine wpStill_nil ?_))
  go_wp2_with (refine wpList_store_blok rfl _ (.tmp 8) (.tmp 64) rfl (w.heap.size + 1) 0 (regA) rfl rfl (((z2.far (p := ⟨fb, i, none⟩) (by simp; omega) (.int .u32 (keep i v))).alloc (.cells #[.nilFunc, .bool false] 77)).drewN 1) (by simp [zactA, regA]) (by kernel_rfl) rfl ?_; intro w4 hb4 hg4 hz4)
  have r0 := hb4.cell 0
  have r1 := hb4.cell 1
  have r2 := hb4.cell 2
  have r3 := hb4.cell 3
  have r4 := hb4.cell 4
  have r5 := hb4.cell 5
  have r6 := hb4.cell 6
  simp [zactA, regA] at r0 r1 r2 r3 r4 r5 r6
  refine bodyPost_ret (v := .tuple #[.agg (regA), .int .i64 0]) (by simp [results, Tryd.results20, go_sem, regA, r0, r1, r2, r3, r4, r5, r6]) rfl ⟨rfl, (((h2.put i (keep i v)).alloc (.cells #[.nilFunc, .bool false] 77)).drew).far hg4 (by intro e; have := Option.some.inj e; omega), gnew (gnext (gtrans (grown_of b2 _) (gnext (grown_setCell w2 fb i (.int .u32 (keep i v))) ((Below.refl _ _).alloc (Nat.le_refl _) (.cells #[.nilFunc, .bool false] 77)))) (bdrew (Below.refl _ _))) hg4 (by omega)⟩
set_option maxHeartbeats 3200000 in
set_option maxRecDepth 100000 in
theorem Write_reg_5 (fb : Nat) (rs : List Int) (t : Tup) (v : Int) (hr : regOf t = some 5) (w : World) (hs : Rul w) (h : IsFile w 63 fb rs) :
    Calls Tryd.prog 20 #[.pointer (some ⟨fb, 0, none⟩), (.agg #[.int .i64 t.crn, .int .i64 t.op1, .int .i64 t.crm, .int .i64 t.op2]), .bool true, .int .u32 v] w (WritePost 63 fb (zactA, 0, rs.set 5 (keep 5 v)) w) := by
  have nn := nil_nil
  have nf := nil_fun
  have FN := Lib.hid (fun W => find_none t (reg_none hr).1 (reg_none hr).2.1 (reg_none hr).2.2 W)
  have _u := hr
  clear _u
  have RG0 := Register_is t ((w.alloc (.cells #[.int .i64 t.crn, .int .i64 t.op1, .int .i64 t.crm, .int .i64 t.op2] 31)).alloc (.cells zactA 42)) ((hs.alloc _).alloc _)
  unfold regRes at RG0
  rw [hr] at RG0
  have RG := Lib.hid RG0
  clear RG0 hr
  have h0 := (h.alloc (.cells #[.int .i64 t.crn, .int .i64 t.op1, .int .i64 t.crm, .int .i64 t.op2] 31)).alloc (.cells zactA 42)
  have s0 := (hs.alloc (.cells #[.int .i64 t.crn, .int .i64 t.op1, .int .i64 t.crm, .int .i64 t.op2] 31)).alloc (.cells zactA 42)
  have t0 : Blok ((w.alloc (.cells #[.int .i64 t.crn, .int .i64 t.op1, .int .i64 t.crm, .int .i64 t.op2] 31)).alloc (.cells zactA 42)) w.heap.size 31 #[.int .i64 t.crn, .int .i64 t.op1, .int .i64 t.crm, .int .i64 t.op2].toList := (Blok.new w _ _).alloc _
  have z0 : Blok ((w.alloc (.cells #[.int .i64 t.crn, .int .i64 t.op1, .int .i64 t.crm, .int .i64 t.op2] 31)).alloc (.cells zactA 42)) (w.heap.size + 1) 42 zactA.toList := by
    have := Blok.new (w.alloc (.cells #[.int .i64 t.crn, .int .i64 t.op1, .int .i64 t.crm, .int .i64 t.op2] 31)) 42 zactA.toList
    have e : (w.alloc (.cells #[.int .i64 t.crn, .int .i64 t.op1, .int .i64 t.crm, .int .i64 t.op2] 31)).heap.size = w.heap.size + 1 := by simp
    rwa [e] at this
  have hfl := h.b.lt
  go_enter Tryd.func20, Tryd.ntmps20
  go_wp2_with fail
  refine RG.out.mono ?_
  rintro e w1 ⟨rfl, hB1⟩
  have t1 := t0.below hB1 t0.lt
  have z1 := z0.below hB1 z0.lt
  have h1 := h0.below hB1
  have s1 := s0.below hB1
  (have x0 : (w1).cell? ⟨w.heap.size, 0, none⟩ = some (.int .i64 t.crn) := (t1).cell 0; have x1 : (w1).cell? ⟨w.heap.size, 1, none⟩ = some (.int .i64 t.op1) := (t1).cell 1; have x2 : (w1).cell? ⟨w.heap.size, 2, none⟩ = some (.int .i64 t.crm) := (t1).cell 2; have x3 : (w1).cell? ⟨w.heap.size, 3, none⟩ = some (.int .i64 t.op2) := (t1).cell 3)
  go_wp2_with fail
  refine (FN.out _).mono ?_
  rintro e w2 ⟨rfl, hB2⟩
  have z2 := z1.below hB2 z1.lt
  have h2 := h1.below hB2
  have s2 := s1.below hB2
  have b2 : Below w.heap.size w w2 := bthen (bthen (((Below.refl _ _).alloc (Nat.le_refl _) _).alloc (by simp) _) hB1) hB2
  have b2z := b2.size
  have c2 := h2.cell 5 (by omega)
  have f2 : w2.frozen? ⟨fb, 5, none⟩ = false := h2.b.frozen 5
  have k2 := s2.kept 5 (by omega)
  have gl := s2.pos
  have fl2 := h2.b.lt
  go_wp2_with fail
  (refine wp_region_tail 11 (by kernel_rfl) (by kernel_rfl) ?_; simp only [List.take_succ_cons, List.take_zero, List.drop_succ_cons, List.drop_zero]; (repeat still_step); (try refine wpStill_nil ?_))
  go_wp2_with (refine wpList_store_blok rfl _ (.tmp 8) (.tmp 63) rfl (w.heap.size + 1) 0 (zactA) rfl rfl (((z2.far (p := ⟨fb, 5, none⟩) (by simp; omega) (.int .u32 (keep 5 v))).alloc (.cells #[.nilFunc, .bool false] 77)).drewN 1) (by simp [zactA]) (by kernel_rfl) rfl ?_; intro w4 hb4 hg4 hz4)
  have r0 := hb4.cell 0
  have r1 := hb4.cell 1
  have r2 := hb4.cell 2
  have r3 := hb4.cell 3
  have r4 := hb4.cell 4
  have r5 := hb4.cell 5
  have r6 := hb4.cell 6
  simp [zactA] at r0 r1 r2 r3 r4 r5 r6
  refine bodyPost_ret (v := .tuple #[.agg (zactA), .int .i64 0]) (by simp [results, Tryd.results20, go_sem, zactA, r0, r1, r2, r3, r4, r5, r6]) rfl ⟨rfl, (((h2.put 5 (keep 5 v)).alloc (.cells #[.nilFunc, .bool false] 77)).drew).far hg4 (by intro e; have := Option.some.inj e; omega), gnew (gnext (gtrans (grown_of b2 _) (gnext (grown_setCell w2 fb 5 (.int .u32 (keep 5 v))) ((Below.refl _ _).alloc (Nat.le_refl _) (.cells #[.nilFunc, .bool false] 77)))) (bdrew (Below.refl _ _))) hg4 (by omega)⟩
set_option maxHeartbeats 3200000 in
set_option maxRecDepth 100000 in
theorem Write_reg_6 (fb : Nat) (rs : List Int) (t : Tup) (v : Int) (hr : regOf t = some 6) (w : World) (hs : Rul w) (h : IsFile w 63 fb rs) :
    Calls Tryd.prog 20 #[.pointer (some ⟨fb, 0, none⟩), (.agg #[.int .i64 t.crn, .int .i64 t.op1, .int .i64 t.crm, .int .i64 t.op2]), .bool true, .int .u32 v] w (WritePost 63 fb (zactA, 0, rs.set 6 (keep 6 v)) w) := by
  have nn := nil_nil
  have nf := nil_fun
  have FN := Lib.hid (fun W => find_none t (reg_none hr).1 (reg_none hr).2.1 (reg_none hr).2.2 W)
  have _u := hr
  clear _u
  have RG0 := Register_is t ((w.alloc (.cells #[.int .i64 t.crn, .int .i64 t.op1, .int .i64 t.crm, .int .i64 t.op2] 31)).alloc (.cells zactA 42)) ((hs.alloc _).alloc _)
  unfold regRes at RG0
  rw [hr] at RG0
  have RG := Lib.hid RG0
  clear RG0 hr
  have h0 := (h.alloc (.cells #[.int .i64 t.crn, .int .i64 t.op1, .int .i64 t.crm, .int .i64 t.op2] 31)).alloc (.cells zactA 42)
  have s0 := (hs.alloc (.cells #[.int .i64 t.crn, .int .i64 t.op1, .int .i64 t.crm, .int .i64 t.op2] 31)).alloc (.cells zactA 42)
  have t0 : Blok ((w.alloc (.cells #[.int .i64 t.crn, .int .i64 t.op1, .int .i64 t.crm, .int .i64 t.op2] 31)).alloc (.cells zactA 42)) w.heap.size 31 #[.int .i64 t.crn, .int .i64 t.op1, .int .i64 t.crm, .int .i64 t.op2].toList := (Blok.new w _ _).alloc _
  have z0 : Blok ((w.alloc (.cells #[.int .i64 t.crn, .int .i64 t.op1, .int .i64 t.crm, .int .i64 t.op2] 31)).alloc (.cells zactA 42)) (w.heap.size + 1) 42 zactA.toList := by
    have := Blok.new (w.alloc (.cells #[.int .i64 t.crn, .int .i64 t.op1, .int .i64 t.crm, .int .i64 t.op2] 31)) 42 zactA.toList
    have e : (w.alloc (.cells #[.int .i64 t.crn, .int .i64 t.op1, .int .i64 t.crm, .int .i64 t.op2] 31)).heap.size = w.heap.size + 1 := by simp
    rwa [e] at this
  have hfl := h.b.lt
  go_enter Tryd.func20, Tryd.ntmps20
  go_wp2_with fail
  refine RG.out.mono ?_
  rintro e w1 ⟨rfl, hB1⟩
  have t1 := t0.below hB1 t0.lt
  have z1 := z0.below hB1 z0.lt
  have h1 := h0.below hB1
  have s1 := s0.below hB1
  (have x0 : (w1).cell? ⟨w.heap.size, 0, none⟩ = some (.int .i64 t.crn) := (t1).cell 0; have x1 : (w1).cell? ⟨w.heap.size, 1, none⟩ = some (.int .i64 t.op1) := (t1).cell 1; have x2 : (w1).cell? ⟨w.heap.size, 2, none⟩ = some (.int .i64 t.crm) := (t1).cell 2; have x3 : (w1).cell? ⟨w.heap.size, 3, none⟩ = some (.int .i64 t.op2) := (t1).cell 3)
  go_wp2_with fail
  refine (FN.out _).mono ?_
  rintro e w2 ⟨rfl, hB2⟩
  have z2 := z1.below hB2 z1.lt
  have h2 := h1.below hB2
  have s2 := s1.below hB2
  have b2 : Below w.heap.size w w2 := bthen (bthen (((Below.refl _ _).alloc (Nat.le_refl _) _).alloc (by simp) _) hB1) hB2
  have b2z := b2.size
  have c2 := h2.cell 6 (by omega)
  have f2 : w2.frozen? ⟨fb, 6, none⟩ = false := h2.b.frozen 6
  have k2 := s2.kept 6 (by omega)
  have gl := s2.pos
  have fl2 := h2.b.lt
  go_wp2_with fail
  (refine wp_region_tail 11 (by kernel_rfl) (by kernel_rfl) ?_; simp only [List.take_succ_cons, List.take_zero, List.drop_succ_cons, List.drop_zero]; (repeat still_step); (try refine wpStill_nil ?_))
  go_wp2_with (refine wpList_store_blok rfl _ (.tmp 8) (.tmp 63) rfl (w.heap.size + 1) 0 (zactA) rfl rfl (((z2.far (p := ⟨fb, 6, none⟩) (by simp; omega) (.int .u32 (keep 6 v))).alloc (.cells #[.nilFunc, .bool false] 77)).drewN 1) (by simp [zactA]) (by kernel_rfl) rfl ?_; intro w4 hb4 hg4 hz4)
  have r0 := hb4.cell 0
  have r1 := hb4.cell 1
  have r2 := hb4.cell 2
  have r3 := hb4.cell 3
  have r4 := hb4.cell 4
  have r5 := hb4.cell 5
  have r6 := hb4.cell 6
  simp [zactA] at r0 r1 r2 r3 r4 r5 r6
  refine bodyPost_ret (v := .tuple #[.agg (zactA), .int .i64 0]) (by simp [results, Tryd.results20, go_sem, zactA, r0, r1, r2, r3, r4, r5, r6]) rfl ⟨rfl, (((h2.put 6 (keep 6 v)).alloc (.cells #[.nilFunc, .bool false] 77)).drew).far hg4 (by intro e; have := Option.some.inj e; omega), gnew (gnext (gtrans (grown_of b2 _) (gnext (grown_setCell w2 fb 6 (.int .u32 (keep 6 v))) ((Below.refl _ _).alloc (Nat.le_refl _) (.cells #[.nilFunc, .bool false] 77)))) (bdrew (Below.refl _ _))) hg4 (by omega)⟩
set_option maxHeartbeats 3200000 in
set_option maxRecDepth 100000 in
theorem Write_reg_7 (fb : Nat) (rs : List Int) (t : Tup) (v : Int) (hr : regOf t = some 7) (w : World) (hs : Rul w) (h : IsFile w 63 fb rs) :
    Calls Tryd.prog 20 #[.pointer (some ⟨fb, 0, none⟩), (.agg #[.int .i64 t.crn, .int .i64 t.op1, .int .i64 t.crm, .int .i64 t.op2]), .bool true, .int .u32 v] w (WritePost 63 fb (zactA, 0, rs.set 7 (keep 7 v)) w) := by
  have nn := nil_nil
  have nf := nil_fun
  have FN := Lib.hid (fun W => find_none t (reg_none hr).1 (reg_none hr).2.1 (reg_none hr).2.2 W)
  have _u := hr
  clear _u
  have RG0 := Register_is t ((w.alloc (.cells #[.int .i64 t.crn, .int .i64 t.op1, .int .i64 t.crm, .int .i64 t.op2] 31)).alloc (.cells zactA 42)) ((hs.alloc _).alloc _)
  unfold regRes at RG0
  rw [hr] at RG0
  have RG := Lib.hid RG0
  clear RG0 hr
  have h0 := (h.alloc (.cells #[.int .i64 t.crn, .int .i64 t.op1, .int .i64 t.crm, .int .i64 t.op2] 31)).alloc (.cells zactA 42)
  have s0 := (hs.alloc (.cells #[.int .i64 t.crn, .int .i64 t.op1, .int .i64 t.crm, .int .i64 t.op2] 31)).alloc (.cells zactA 42)
  have t0 : Blok ((w.alloc (.cells #[.int .i64 t.crn, .int .i64 t.op1, .int .i64 t.crm, .int .i64 t.op2] 31)).alloc (.cells zactA 42)) w.heap.size 31 #[.int .i64 t.crn, .int .i64 t.op1, .int .i64 t.crm, .int .i64 t.op2].toList := (Blok.new w _ _).alloc _
  have z0 : Blok ((w.alloc (.cells #[.int .i64 t.crn, .int .i64 t.op1, .int .i64 t.crm, .int .i64 t.op2] 31)).alloc (.cells zactA 42)) (w.heap.size + 1) 42 zactA.toList := by
    have := Blok.new (w.alloc (.cells #[.int .i64 t.crn, .int .i64 t.op1, .int .i64 t.crm, .int .i64 t.op2] 31)) 42 zactA.toList
    have e : (w.alloc (.cells #[.int .i64 t.crn, .int .i64 t.op1, .int .i64 t.crm, .int .i64 t.op2] 31)).heap.size = w.heap.size + 1 := by simp
    rwa [e] at this
  have hfl := h.b.lt
  go_enter Tryd.func20, Tryd.ntmps20
  go_wp2_with fail
  refine RG.out.mono ?_
  rintro e w1 ⟨rfl, hB1⟩
  have t1 := t0.below hB1 t0.lt
  have z1 := z0.below hB1 z0.lt
  have h1 := h0.below hB1
  have s1 := s0.below hB1
  (have x0 : (w1).cell? ⟨w.heap.size, 0, none⟩ = some (.int .i64 t.crn) := (t1).cell 0; have x1 : (w1).cell? ⟨w.heap.size, 1, none⟩ = some (.int .i64 t.op1) := (t1).cell 1; have x2 : (w1).cell? ⟨w.heap.size, 2, none⟩ = some (.int .i64 t.crm) := (t1).cell 2; have x3 : (w1).cell? ⟨w.heap.size, 3, none⟩ = some (.int .i64 t.op2) := (t1).cell 3)
  go_wp2_with fail
  refine (FN.out _).mono ?_
  rintro e w2 ⟨rfl, hB2⟩
  have z2 := z1.below hB2 z1.lt
  have h2 := h1.below hB2
  have s2 := s1.below hB2
  have b2 : Below w.heap.size w w2 := bthen (bthen (((Below.refl _ _).alloc (Nat.le_refl _) _).alloc (by simp) _) hB1) hB2
  have b2z := b2.size
  have c2 := h2.cell 7 (by omega)
  have f2 : w2.frozen? ⟨fb, 7, none⟩ = false := h2.b.frozen 7
  have k2 := s2.kept 7 (by omega)
  have gl := s2.pos
  have fl2 := h2.b.lt
  go_wp2_with fail
  (refine wp_region_tail 11 (by kernel_rfl) (by kernel_rfl) ?_; simp only [List.take_succ_cons, List.take_zero, List.drop_succ_cons, List.drop_zero]; (repeat still_step); (try refine wpStill_nil ?_))
  go_wp2_with (refine wpList_store_blok rfl _ (.tmp 8) (.tmp 63) rfl (w.heap.size + 1) 0 (zactA) rfl rfl (((z2.far (p := ⟨fb, 7, none⟩) (by simp; omega) (.int .u32 (keep 7 v))).alloc (.cells #[.nilFunc, .bool false] 77)).drewN 1) (by simp [zactA]) (by kernel_rfl) rfl ?_; intro w4 hb4 hg4 hz4)
  have r0 := hb4.cell 0
  have r1 := hb4.cell 1
  have r2 := hb4.cell 2
  have r3 := hb4.cell 3
  have r4 := hb4.cell 4
  have r5 := hb4.cell 5
  have r6 := hb4.cell 6
  simp [zactA] at r0 r1 r2 r3 r4 r5 r6
  refine bodyPost_ret (v := .tuple #[.agg (zactA), .int .i64 0]) (by simp [results, Tryd.results20, go_sem, zactA, r0, r1, r2, r3, r4, r5, r6]) rfl ⟨rfl, (((h2.put 7 (keep 7 v)).alloc (.cells #[.nilFunc, .bool false] 77)).drew).far hg4 (by intro e; have := Option.some.inj e; omega), gnew (gnext (gtrans (grown_of b2 _) (gnext (grown_setCell w2 fb 7 (.int .u32 (keep 7 v))) ((Below.refl _ _).alloc (Nat.le_refl _) (.cells #[.nilFunc, .bool false] 77)))) (bdrew (Below.refl _ _))) hg4 (by omega)⟩
set_option maxHeartbeats 3200000 in
set_option maxRecDepth 100000 in
theorem Write_reg_8 (fb : Nat) (rs : List Int) (t : Tup) (v : Int) (hr : regOf t = some 8) (w : World) (hs : Rul w) (h : IsFile w 63 fb rs) :
    Calls Tryd.prog 20 #[.pointer (some ⟨fb, 0, none⟩), (.agg #[.int .i64 t.crn, .int .i64 t.op1, .int .i64 t.crm, .int .i64 t.op2]), .bool true, .int .u32 v] w (WritePost 63 fb (zactA, 0, rs.set 8 (keep 8 v)) w) := by
  have nn := nil_nil
  have nf := nil_fun
  have FN := Lib.hid (fun W => find_none t (reg_none hr).1 (reg_none hr).2.1 (reg_none hr).2.2 W)
  have _u := hr
  clear _u
  have RG0 := Register_is t ((w.alloc (.cells #[.int .i64 t.crn, .int .i64 t.op1, .int .i64 t.crm, .int .i64 t.op2] 31)).alloc (.cells zactA 42)) ((hs.alloc _).alloc _)
  unfold regRes at RG0
  rw [hr] at RG0
  have RG := Lib.hid RG0
  clear RG0 hr
  have h0 := (h.alloc (.cells #[.int .i64 t.crn, .int .i64 t.op1, .int .i64 t.crm, .int .i64 t.op2] 31)).alloc (.cells zactA 42)
  have s0 := (hs.alloc (.cells #[.int .i64 t.crn, .int .i64 t.op1, .int .i64 t.crm, .int .i64 t.op2] 31)).alloc (.cells zactA 42)
  have t0 : Blok ((w.alloc (.cells #[.int .i64 t.crn, .int .i64 t.op1, .int .i64 t.crm, .int .i64 t.op2] 31)).alloc (.cells zactA 42)) w.heap.size 31 #[.int .i64 t.crn, .int .i64 t.op1, .int .i64 t.crm, .int .i64 t.op2].toList := (Blok.new w _ _).alloc _
  have z0 : Blok ((w.alloc (.cells #[.int .i64 t.crn, .int .i64 t.op1, .int .i64 t.crm, .int .i64 t.op2] 31)).alloc (.cells zactA 42)) (w.heap.size + 1) 42 zactA.toList := by
    have := Blok.new (w.alloc (.cells #[.int .i64 t.crn, .int .i64 t.op1, .int .i64 t.crm, .int .i64 t.op2] 31)) 42 zactA.toList
    have e : (w.alloc (.cells #[.int .i64 t.crn, .int .i64 t.op1, .int .i64 t.crm, .int .i64 t.op2] 31)).heap.size = w.heap.size + 1 := by simp
    rwa [e] at this
  have hfl := h.b.lt
  go_enter Tryd.func20, Tryd.ntmps20
  go_wp2_with fail
  refine RG.out.mono ?_
  rintro e w1 ⟨rfl, hB1⟩
  have t1 := t0.below hB1 t0.lt
  have z1 := z0.below hB1 z0.lt
  have h1 := h0.below hB1
  have s1 := s0.below hB1
  (have x0 : (w1).cell? ⟨w.heap.size, 0, none⟩ = some (.int .i64 t.crn) := (t1).cell 0; have x1 : (w1).cell? ⟨w.heap.size, 1, none⟩ = some (.int .i64 t.op1) := (t1).cell 1; have x2 : (w1).cell? ⟨w.heap.size, 2, none⟩ = some (.int .i64 t.crm) := (t1).cell 2; have x3 : (w1).cell? ⟨w.heap.size, 3, none⟩ = some (.int .i64 t.op2) := (t1).cell 3)
  go_wp2_with fail
  refine (FN.out _).mono ?_
  rintro e w2 ⟨rfl, hB2⟩
  have z2 := z1.below hB2 z1.lt
  have h2 := h1.below hB2
  have s2 := s1.below hB2
  have b2 : Below w.heap.size w w2 := bthen (bthen (((Below.refl _ _).alloc (Nat.le_refl _) _).alloc (by simp) _) hB1) hB2
  have b2z := b2.size
  have c2 := h2.cell 8 (by omega)
  have f2 : w2.frozen? ⟨fb, 8, none⟩ = false := h2.b.frozen 8
  have k2 := s2.kept 8 (by omega)
  have gl := s2.pos
  have fl2 := h2.b.lt
  go_wp2_with fail
  (refine wp_region_tail 11 (by kernel_rfl) (by kernel_rfl) ?_; simp only [List.take_succ_cons, List.take_zero, List.drop_succ_cons, List.drop_zero]; (repeat still_step); (try refine wpStill_nil ?_))
  go_wp2_with (refine wpList_store_blok rfl _ (.tmp 8) (.tmp 63) rfl (w.heap.size + 1) 0 (zactA) rfl rfl (((z2.far (p := ⟨fb, 8, none⟩) (by simp; omega) (.int .u32 (keep 8 v))).alloc (.cells #[.nilFunc, .bool false] 77)).drewN 1) (by simp [zactA]) (by kernel_rfl) rfl ?_; intro w4 hb4 hg4 hz4)
  have r0 := hb4.cell 0
  have r1 := hb4.cell 1
  have r2 := hb4.cell 2
  have r3 := hb4.cell 3
  have r4 := hb4.cell 4
  have r5 := hb4.cell 5
  have r6 := hb4.cell 6
  simp [zactA] at r0 r1 r2 r3 r4 r5 r6
  refine bodyPost_ret (v := .tuple #[.agg (zactA), .int .i64 0]) (by simp [results, Tryd.results20, go_sem, zactA, r0, r1, r2, r3, r4, r5, r6]) rfl ⟨rfl, (((h2.put 8 (keep 8 v)).alloc (.cells #[.nilFunc, .bool false] 77)).drew).far hg4 (by intro e; have := Option.some.inj e; omega), gnew (gnext (gtrans (grown_of b2 _) (gnext (grown_setCell w2 fb 8 (.int .u32 (keep 8 v))) ((Below.refl _ _).alloc (Nat.le_refl _) (.cells #[.nilFunc, .bool false] 77)))) (bdrew (Below.refl _ _))) hg4 (by omega)⟩
set_option maxHeartbeats 3200000 in
set_option maxRecDepth 100000 in
theorem Write_reg_9 (fb : Nat) (rs : List Int) (t : Tup) (v : Int) (hr : regOf t = some 9) (w : World) (hs : Rul w) (h : IsFile w 63 fb rs) :
    Calls Tryd.prog 20 #[.pointer (some ⟨fb, 0, none⟩), (.agg #[.int .i64 t.crn, .int .i64 t.op1, .int .i64 t.crm, .int .i64 t.op2]), .bool true, .int .u32 v] w (WritePost 63 fb (zactA, 0, rs.set 9 (keep 9 v)) w) := by
  have nn := nil_nil
  have nf := nil_fun
  have FN := Lib.hid (fun W => find_none t (reg_none hr).1 (reg_none hr).2.1 (reg_none hr).2.2 W)
  have _u := hr
  clear _u
  have RG0 := Register_is t ((w.alloc (.cells #[.int .i64 t.crn, .int .i64 t.op1, .int .i64 t.crm, .int .i64 t.op2] 31)).alloc (.cells zactA 42)) ((hs.alloc _).alloc _)
  unfold regRes at RG0
  rw [hr] at RG0
  have RG := Lib.hid RG0
  clear RG0 hr
  have h0 := (h.alloc (.cells #[.int .i64 t.crn, .int .i64 t.op1, .int .i64 t.crm, .int .i64 t.op2] 31)).alloc (.cells zactA 42)
  have s0 := (hs.alloc (.cells #[.int .i64 t.crn, .int .i64 t.op1, .int .i64 t.crm, .int .i64 t.op2] 31)).alloc (.cells zactA 42)
  have t0 : Blok ((w.alloc (.cells #[.int .i64 t.crn, .int .i64 t.op1, .int .i64 t.crm, .int .i64 t.op2] 31)).alloc (.cells zactA 42)) w.heap.size 31 #[.int .i64 t.crn, .int .i64 t.op1, .int .i64 t.crm, .int .i64 t.op2].toList := (Blok.new w _ _).alloc _
  have z0 : Blok ((w.alloc (.cells #[.int .i64 t.crn, .int .i64 t.op1, .int .i64 t.crm, .int .i64 t.op2] 31)).alloc (.cells zactA 42)) (w.heap.size + 1) 42 zactA.toList := by
    have := Blok.new (w.alloc (.cells #[.int .i64 t.crn, .int .i64 t.op1, .int .i64 t.crm, .int .i64 t.op2] 31)) 42 zactA.toList
    have e : (w.alloc (.cells #[.int .i64 t.crn, .int .i64 t.op1, .int .i64 t.crm, .int .i64 t.op2] 31)).heap.size = w.heap.size + 1 := by simp
    rwa [e] at this
  have hfl := h.b.lt
  go_enter Tryd.func20, Tryd.ntmps20
  go_wp2_with fail
  refine RG.out.mono ?_
  rintro e w1 ⟨rfl, hB1⟩
  have t1 := t0.below hB1 t0.lt
  have z1 := z0.below hB1 z0.lt
  have h1 := h0.below hB1
  have s1 := s0.below hB1
  (have x0 : (w1).cell? ⟨w.heap.size, 0, none⟩ = some (.int .i64 t.crn) := (t1).cell 0; have x1 : (w1).cell? ⟨w.heap.size, 1, none⟩ = some (.int .i64 t.op1) := (t1).cell 1; have x2 : (w1).cell? ⟨w.heap.size, 2, none⟩ = some (.int .i64 t.crm) := (t1).cell 2; have x3 : (w1).cell? ⟨w.heap.size, 3, none⟩ = some (.int .i64 t.op2) := (t1).cell 3)
  go_wp2_with fail
  refine (FN.out _).mono ?_
  rintro e w2 ⟨rfl, hB2⟩
  have z2 := z1.below hB2 z1.lt
  have h2 := h1.below hB2
  have s2 := s1.below hB2
  have b2 : Below w.heap.size w w2 := bthen (bthen (((Below.refl _ _).alloc (Nat.le_refl _) _).alloc (by simp) _) hB1) hB2
  have b2z := b2.size
  have c2 := h2.cell 9 (by omega)
  have f2 : w2.frozen? ⟨fb, 9, none⟩ = false := h2.b.frozen 9
  have k2 := s2.kept 9 (by omega)
  have gl := s2.pos
  have fl2 := h2.b.lt
  go_wp2_with fail
  (refine wp_region_tail 11 (by kernel_rfl) (by kernel_rfl) ?_; simp only [List.take_succ_cons, List.take_zero, List.drop_succ_cons, List.drop_zero]; (repeat still_step); (try refine wpStill_nil ?_))
  go_wp2_with (refine wpList_store_blok rfl _ (.tmp 8) (.tmp 63) rfl (w.heap.size + 1) 0 (zactA) rfl rfl (((z2.far (p := ⟨fb, 9, none⟩) (by simp; omega) (.int .u32 (keep 9 v))).alloc (.cells #[.nilFunc, .bool false] 77)).drewN 1) (by simp [zactA]) (by kernel_rfl) rfl ?_; intro w4 hb4 hg4 hz4)
  have r0 := hb4.cell 0
  have r1 := hb4.cell 1
  have r2 := hb4.cell 2
  have r3 := hb4.cell 3
  have r4 := hb4.cell 4
  have r5 := hb4.cell 5
  have r6 := hb4.cell 6
  simp [zactA] at r0 r1 r2 r3 r4 r5 r6
  refine bodyPost_ret (v := .tuple #[.agg (zactA), .int .i64 0]) (by simp [results, Tryd.results20, go_sem, zactA, r0, r1, r2, r3, r4, r5, r6]) rfl ⟨rfl, (((h2.put 9 (keep 9 v)).alloc (.cells #[.nilFunc, .bool false] 77)).drew).far hg4 (by intro e; have := Option.some.inj e; omega), gnew (gnext (gtrans (grown_of b2 _) (gnext (grown_setCell w2 fb 9 (.int .u32 (keep 9 v))) ((Below.refl _ _).alloc (Nat.le_refl _) (.cells #[.nilFunc, .bool false] 77)))) (bdrew (Below.refl _ _))) hg4 (by omega)⟩
end Go.Proofs.YtakihcdolpocjaaDoor
