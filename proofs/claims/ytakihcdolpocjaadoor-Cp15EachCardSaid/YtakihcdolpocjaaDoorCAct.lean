/- What an operation does with its word, by the document (atlasref08.act). -/
import Derived.Test.YtakihcdolpocjaaDoorCRefO
import Derived.Test.YtakihcdolpocjaaDoorCWrite
namespace Go.Proofs.YtakihcdolpocjaaDoor
open Go.RowKit

def actA (t : Tup) (v : Int) : Array Value := if asksB t = true then askA t.op2 v else if dropsB t = true then dropA (t.op2 + 1) v else zactA
set_option maxHeartbeats 3200000 in
theorem act_a0 (v : Int) (w : World) : Calls Tryd.prog 33 #[.agg #[.int .i64 7, .int .i64 0, .int .i64 8, .int .i64 0], .int .u32 v] w fun e w' => e = .returned (.agg (askA 0 v)) ∧ Below w.heap.size w w' := by
  have AS := Lib.hid (fun W => asks_is ⟨7, 0, 8, 0⟩ W)
  have t0 : Blok ((w.alloc (.cells #[.int .i64 7, .int .i64 0, .int .i64 8, .int .i64 0] 31)).alloc (.cells zactA 42)) w.heap.size 31 [.int .i64 7, .int .i64 0, .int .i64 8, .int .i64 0] := (Blok.new w _ _).alloc _
  have z0 : Blok ((w.alloc (.cells #[.int .i64 7, .int .i64 0, .int .i64 8, .int .i64 0] 31)).alloc (.cells zactA 42)) (w.heap.size + 1) 42 zactA.toList := by
    have := Blok.new (w.alloc (.cells #[.int .i64 7, .int .i64 0, .int .i64 8, .int .i64 0] 31)) 42 zactA.toList
    have e : (w.alloc (.cells #[.int .i64 7, .int .i64 0, .int .i64 8, .int .i64 0] 31)).heap.size = w.heap.size + 1 := by simp
    rwa [e] at this
  have b0 : Below w.heap.size w ((w.alloc (.cells #[.int .i64 7, .int .i64 0, .int .i64 8, .int .i64 0] 31)).alloc (.cells zactA 42)) := ((Below.refl _ _).alloc (Nat.le_refl _) _).alloc (by simp) _
  go_enter Tryd.func33, Tryd.ntmps33
  go_wp2_with fail
  refine (AS.out _).mono ?_
  rintro e w1 ⟨rfl, hB1⟩
  have ht : asksB ⟨7, 0, 8, 0⟩ = true := rfl
  rw [ht]
  have t1 := t0.below hB1 t0.lt
  have c3 : w1.cell? ⟨w.heap.size, 3, none⟩ = some (.int .i64 0) := t1.cell 3
  have z1 := z0.below hB1 z0.lt
  clear ht
  go_wp2_with (refine wpList_store_blok rfl _ (.tmp 4) (.tmp 18) rfl (w.heap.size + 1) 0 (#[.int .i64 3, .int .i64 0, .int .u32 0, .int .i64 0, .int .u32 (v / 4096 * 4096 % 4294967296), .bool false, .bool false]) rfl rfl (z1) (by simp [zactA]) (by kernel_rfl) rfl ?_; intro w4 hb4 hg4 hz4)
  have r0 := hb4.cell 0
  have r1 := hb4.cell 1
  have r2 := hb4.cell 2
  have r3 := hb4.cell 3
  have r4 := hb4.cell 4
  have r5 := hb4.cell 5
  have r6 := hb4.cell 6
  simp [zactA] at r0 r1 r2 r3 r4 r5 r6
  refine bodyPost_ret (v := .agg (#[.int .i64 3, .int .i64 0, .int .u32 0, .int .i64 0, .int .u32 (v / 4096 * 4096 % 4294967296), .bool false, .bool false])) (by simp [results, Tryd.results33, go_sem, r0, r1, r2, r3, r4, r5, r6]) rfl ⟨?_, (bthen b0 hB1).grown hg4 ((bthen b0 hB1).size) (by simp)⟩
  simp [askA]
set_option maxHeartbeats 3200000 in
theorem act_a1 (v : Int) (w : World) : Calls Tryd.prog 33 #[.agg #[.int .i64 7, .int .i64 0, .int .i64 8, .int .i64 1], .int .u32 v] w fun e w' => e = .returned (.agg (askA 1 v)) ∧ Below w.heap.size w w' := by
  have AS := Lib.hid (fun W => asks_is ⟨7, 0, 8, 1⟩ W)
  have t0 : Blok ((w.alloc (.cells #[.int .i64 7, .int .i64 0, .int .i64 8, .int .i64 1] 31)).alloc (.cells zactA 42)) w.heap.size 31 [.int .i64 7, .int .i64 0, .int .i64 8, .int .i64 1] := (Blok.new w _ _).alloc _
  have z0 : Blok ((w.alloc (.cells #[.int .i64 7, .int .i64 0, .int .i64 8, .int .i64 1] 31)).alloc (.cells zactA 42)) (w.heap.size + 1) 42 zactA.toList := by
    have := Blok.new (w.alloc (.cells #[.int .i64 7, .int .i64 0, .int .i64 8, .int .i64 1] 31)) 42 zactA.toList
    have e : (w.alloc (.cells #[.int .i64 7, .int .i64 0, .int .i64 8, .int .i64 1] 31)).heap.size = w.heap.size + 1 := by simp
    rwa [e] at this
  have b0 : Below w.heap.size w ((w.alloc (.cells #[.int .i64 7, .int .i64 0, .int .i64 8, .int .i64 1] 31)).alloc (.cells zactA 42)) := ((Below.refl _ _).alloc (Nat.le_refl _) _).alloc (by simp) _
  go_enter Tryd.func33, Tryd.ntmps33
  go_wp2_with fail
  refine (AS.out _).mono ?_
  rintro e w1 ⟨rfl, hB1⟩
  have ht : asksB ⟨7, 0, 8, 1⟩ = true := rfl
  rw [ht]
  have t1 := t0.below hB1 t0.lt
  have c3 : w1.cell? ⟨w.heap.size, 3, none⟩ = some (.int .i64 1) := t1.cell 3
  have z1 := z0.below hB1 z0.lt
  clear ht
  go_wp2_with (refine wpList_store_blok rfl _ (.tmp 4) (.tmp 18) rfl (w.heap.size + 1) 0 (#[.int .i64 3, .int .i64 0, .int .u32 0, .int .i64 0, .int .u32 (v / 4096 * 4096 % 4294967296), .bool false, .bool true]) rfl rfl (z1) (by simp [zactA]) (by kernel_rfl) rfl ?_; intro w4 hb4 hg4 hz4)
  have r0 := hb4.cell 0
  have r1 := hb4.cell 1
  have r2 := hb4.cell 2
  have r3 := hb4.cell 3
  have r4 := hb4.cell 4
  have r5 := hb4.cell 5
  have r6 := hb4.cell 6
  simp [zactA] at r0 r1 r2 r3 r4 r5 r6
  refine bodyPost_ret (v := .agg (#[.int .i64 3, .int .i64 0, .int .u32 0, .int .i64 0, .int .u32 (v / 4096 * 4096 % 4294967296), .bool false, .bool true])) (by simp [results, Tryd.results33, go_sem, r0, r1, r2, r3, r4, r5, r6]) rfl ⟨?_, (bthen b0 hB1).grown hg4 ((bthen b0 hB1).size) (by simp)⟩
  simp [askA]
set_option maxHeartbeats 3200000 in
theorem act_a2 (v : Int) (w : World) : Calls Tryd.prog 33 #[.agg #[.int .i64 7, .int .i64 0, .int .i64 8, .int .i64 2], .int .u32 v] w fun e w' => e = .returned (.agg (askA 2 v)) ∧ Below w.heap.size w w' := by
  have AS := Lib.hid (fun W => asks_is ⟨7, 0, 8, 2⟩ W)
  have t0 : Blok ((w.alloc (.cells #[.int .i64 7, .int .i64 0, .int .i64 8, .int .i64 2] 31)).alloc (.cells zactA 42)) w.heap.size 31 [.int .i64 7, .int .i64 0, .int .i64 8, .int .i64 2] := (Blok.new w _ _).alloc _
  have z0 : Blok ((w.alloc (.cells #[.int .i64 7, .int .i64 0, .int .i64 8, .int .i64 2] 31)).alloc (.cells zactA 42)) (w.heap.size + 1) 42 zactA.toList := by
    have := Blok.new (w.alloc (.cells #[.int .i64 7, .int .i64 0, .int .i64 8, .int .i64 2] 31)) 42 zactA.toList
    have e : (w.alloc (.cells #[.int .i64 7, .int .i64 0, .int .i64 8, .int .i64 2] 31)).heap.size = w.heap.size + 1 := by simp
    rwa [e] at this
  have b0 : Below w.heap.size w ((w.alloc (.cells #[.int .i64 7, .int .i64 0, .int .i64 8, .int .i64 2] 31)).alloc (.cells zactA 42)) := ((Below.refl _ _).alloc (Nat.le_refl _) _).alloc (by simp) _
  go_enter Tryd.func33, Tryd.ntmps33
  go_wp2_with fail
  refine (AS.out _).mono ?_
  rintro e w1 ⟨rfl, hB1⟩
  have ht : asksB ⟨7, 0, 8, 2⟩ = true := rfl
  rw [ht]
  have t1 := t0.below hB1 t0.lt
  have c3 : w1.cell? ⟨w.heap.size, 3, none⟩ = some (.int .i64 2) := t1.cell 3
  have z1 := z0.below hB1 z0.lt
  clear ht
  go_wp2_with (refine wpList_store_blok rfl _ (.tmp 4) (.tmp 18) rfl (w.heap.size + 1) 0 (#[.int .i64 3, .int .i64 0, .int .u32 0, .int .i64 0, .int .u32 (v / 4096 * 4096 % 4294967296), .bool true, .bool false]) rfl rfl (z1) (by simp [zactA]) (by kernel_rfl) rfl ?_; intro w4 hb4 hg4 hz4)
  have r0 := hb4.cell 0
  have r1 := hb4.cell 1
  have r2 := hb4.cell 2
  have r3 := hb4.cell 3
  have r4 := hb4.cell 4
  have r5 := hb4.cell 5
  have r6 := hb4.cell 6
  simp [zactA] at r0 r1 r2 r3 r4 r5 r6
  refine bodyPost_ret (v := .agg (#[.int .i64 3, .int .i64 0, .int .u32 0, .int .i64 0, .int .u32 (v / 4096 * 4096 % 4294967296), .bool true, .bool false])) (by simp [results, Tryd.results33, go_sem, r0, r1, r2, r3, r4, r5, r6]) rfl ⟨?_, (bthen b0 hB1).grown hg4 ((bthen b0 hB1).size) (by simp)⟩
  simp [askA]
set_option maxHeartbeats 3200000 in
theorem act_a3 (v : Int) (w : World) : Calls Tryd.prog 33 #[.agg #[.int .i64 7, .int .i64 0, .int .i64 8, .int .i64 3], .int .u32 v] w fun e w' => e = .returned (.agg (askA 3 v)) ∧ Below w.heap.size w w' := by
  have AS := Lib.hid (fun W => asks_is ⟨7, 0, 8, 3⟩ W)
  have t0 : Blok ((w.alloc (.cells #[.int .i64 7, .int .i64 0, .int .i64 8, .int .i64 3] 31)).alloc (.cells zactA 42)) w.heap.size 31 [.int .i64 7, .int .i64 0, .int .i64 8, .int .i64 3] := (Blok.new w _ _).alloc _
  have z0 : Blok ((w.alloc (.cells #[.int .i64 7, .int .i64 0, .int .i64 8, .int .i64 3] 31)).alloc (.cells zactA 42)) (w.heap.size + 1) 42 zactA.toList := by
    have := Blok.new (w.alloc (.cells #[.int .i64 7, .int .i64 0, .int .i64 8, .int .i64 3] 31)) 42 zactA.toList
    have e : (w.alloc (.cells #[.int .i64 7, .int .i64 0, .int .i64 8, .int .i64 3] 31)).heap.size = w.heap.size + 1 := by simp
    rwa [e] at this
  have b0 : Below w.heap.size w ((w.alloc (.cells #[.int .i64 7, .int .i64 0, .int .i64 8, .int .i64 3] 31)).alloc (.cells zactA 42)) := ((Below.refl _ _).alloc (Nat.le_refl _) _).alloc (by simp) _
  go_enter Tryd.func33, Tryd.ntmps33
  go_wp2_with fail
  refine (AS.out _).mono ?_
  rintro e w1 ⟨rfl, hB1⟩
  have ht : asksB ⟨7, 0, 8, 3⟩ = true := rfl
  rw [ht]
  have t1 := t0.below hB1 t0.lt
  have c3 : w1.cell? ⟨w.heap.size, 3, none⟩ = some (.int .i64 3) := t1.cell 3
  have z1 := z0.below hB1 z0.lt
  clear ht
  go_wp2_with (refine wpList_store_blok rfl _ (.tmp 4) (.tmp 18) rfl (w.heap.size + 1) 0 (#[.int .i64 3, .int .i64 0, .int .u32 0, .int .i64 0, .int .u32 (v / 4096 * 4096 % 4294967296), .bool true, .bool true]) rfl rfl (z1) (by simp [zactA]) (by kernel_rfl) rfl ?_; intro w4 hb4 hg4 hz4)
  have r0 := hb4.cell 0
  have r1 := hb4.cell 1
  have r2 := hb4.cell 2
  have r3 := hb4.cell 3
  have r4 := hb4.cell 4
  have r5 := hb4.cell 5
  have r6 := hb4.cell 6
  simp [zactA] at r0 r1 r2 r3 r4 r5 r6
  refine bodyPost_ret (v := .agg (#[.int .i64 3, .int .i64 0, .int .u32 0, .int .i64 0, .int .u32 (v / 4096 * 4096 % 4294967296), .bool true, .bool true])) (by simp [results, Tryd.results33, go_sem, r0, r1, r2, r3, r4, r5, r6]) rfl ⟨?_, (bthen b0 hB1).grown hg4 ((bthen b0 hB1).size) (by simp)⟩
  simp [askA]
set_option maxHeartbeats 3200000 in
theorem act_d0 (c v : Int) (h0 : 0 ≤ v) (h1 : v ≤ 4294967295) (hd : dropsB ⟨8, 0, c, 0⟩ = true) (w : World) : Calls Tryd.prog 33 #[.agg #[.int .i64 8, .int .i64 0, .int .i64 c, .int .i64 0], .int .u32 v] w fun e w' => e = .returned (.agg (dropA 1 v)) ∧ Below w.heap.size w w' := by
  have as1 := fun W => asks_is ⟨8, 0, c, 0⟩ W
  have dr1 := fun W => drops_is ⟨8, 0, c, 0⟩ W
  rw [show asksB ⟨8, 0, c, 0⟩ = false by simp [asksB]] at as1
  rw [hd] at dr1
  have AS := Lib.hid as1
  have DR := Lib.hid dr1
  have e2 : wrap64 (bits .and .u32 v 255) = v % 256 := by rw [and_255 v h0 h1]; exact wrap64_lo _ (by omega) (by omega)
  have E2 := Lib.hid e2
  have t0 : Blok ((w.alloc (.cells #[.int .i64 8, .int .i64 0, .int .i64 c, .int .i64 0] 31)).alloc (.cells zactA 42)) w.heap.size 31 #[.int .i64 8, .int .i64 0, .int .i64 c, .int .i64 0].toList := (Blok.new w _ _).alloc _
  have z0 : Blok ((w.alloc (.cells #[.int .i64 8, .int .i64 0, .int .i64 c, .int .i64 0] 31)).alloc (.cells zactA 42)) (w.heap.size + 1) 42 zactA.toList := by
    have := Blok.new (w.alloc (.cells #[.int .i64 8, .int .i64 0, .int .i64 c, .int .i64 0] 31)) 42 zactA.toList
    have e : (w.alloc (.cells #[.int .i64 8, .int .i64 0, .int .i64 c, .int .i64 0] 31)).heap.size = w.heap.size + 1 := by simp
    rwa [e] at this
  have b0 : Below w.heap.size w ((w.alloc (.cells #[.int .i64 8, .int .i64 0, .int .i64 c, .int .i64 0] 31)).alloc (.cells zactA 42)) := ((Below.refl _ _).alloc (Nat.le_refl _) _).alloc (by simp) _
  clear hd as1 dr1 e2 h0 h1
  go_enter Tryd.func33, Tryd.ntmps33
  go_wp2_with fail
  refine (AS.out _).mono ?_
  rintro e w1 ⟨rfl, hB1⟩
  have t1 := t0.below hB1 t0.lt
  have z1 := z0.below hB1 z0.lt
  (have x0 : (w1).cell? ⟨w.heap.size, 0, none⟩ = some (.int .i64 8) := (t1).cell 0; have x1 : (w1).cell? ⟨w.heap.size, 1, none⟩ = some (.int .i64 0) := (t1).cell 1; have x2 : (w1).cell? ⟨w.heap.size, 2, none⟩ = some (.int .i64 c) := (t1).cell 2; have x3 : (w1).cell? ⟨w.heap.size, 3, none⟩ = some (.int .i64 0) := (t1).cell 3)
  go_wp2_with fail
  refine (DR.out _).mono ?_
  rintro e w2 ⟨rfl, hB2⟩
  have t2 := t1.below hB2 t1.lt
  have z2 := z1.below hB2 z1.lt
  have b2 := bthen (bthen b0 hB1) hB2
  have tl := t2.lt
  (have y0 : (w2).cell? ⟨w.heap.size, 0, none⟩ = some (.int .i64 8) := (t2).cell 0; have y1 : (w2).cell? ⟨w.heap.size, 1, none⟩ = some (.int .i64 0) := (t2).cell 1; have y2 : (w2).cell? ⟨w.heap.size, 2, none⟩ = some (.int .i64 c) := (t2).cell 2; have y3 : (w2).cell? ⟨w.heap.size, 3, none⟩ = some (.int .i64 0) := (t2).cell 3)
  go_wp2_with (refine wpList_store_blok rfl _ (.tmp 4) (.tmp 52) rfl (w.heap.size + 1) 0 (#[.int .i64 2, .int .i64 1, .int .u32 (0), .int .i64 (0), .int .u32 0, .bool false, .bool false]) rfl rfl (z2.alloc _) (by simp [zactA]) (by kernel_rfl) rfl ?_; intro w4 hb4 hg4 hz4)
  have r0 := hb4.cell 0
  have r1 := hb4.cell 1
  have r2 := hb4.cell 2
  have r3 := hb4.cell 3
  have r4 := hb4.cell 4
  have r5 := hb4.cell 5
  have r6 := hb4.cell 6
  simp [zactA] at r0 r1 r2 r3 r4 r5 r6
  refine bodyPost_ret (v := .agg (#[.int .i64 2, .int .i64 1, .int .u32 (0), .int .i64 (0), .int .u32 0, .bool false, .bool false])) (by simp [results, Tryd.results33, go_sem, r0, r1, r2, r3, r4, r5, r6]) rfl ⟨?_, (b2.alloc b2.size _).grown hg4 ((b2.alloc b2.size _).size) (by simp)⟩
  rw [show dropA 1 v = #[.int .i64 2, .int .i64 1, .int .u32 (0), .int .i64 (0), .int .u32 0, .bool false, .bool false] by first | (simp [dropA]; done) | (simp [dropA, E2.out]; done)]
set_option maxHeartbeats 3200000 in
theorem act_d1 (c v : Int) (h0 : 0 ≤ v) (h1 : v ≤ 4294967295) (hd : dropsB ⟨8, 0, c, 1⟩ = true) (w : World) : Calls Tryd.prog 33 #[.agg #[.int .i64 8, .int .i64 0, .int .i64 c, .int .i64 1], .int .u32 v] w fun e w' => e = .returned (.agg (dropA 2 v)) ∧ Below w.heap.size w w' := by
  have as1 := fun W => asks_is ⟨8, 0, c, 1⟩ W
  have dr1 := fun W => drops_is ⟨8, 0, c, 1⟩ W
  rw [show asksB ⟨8, 0, c, 1⟩ = false by simp [asksB]] at as1
  rw [hd] at dr1
  have AS := Lib.hid as1
  have DR := Lib.hid dr1
  have e2 : wrap64 (bits .and .u32 v 255) = v % 256 := by rw [and_255 v h0 h1]; exact wrap64_lo _ (by omega) (by omega)
  have E2 := Lib.hid e2
  have t0 : Blok ((w.alloc (.cells #[.int .i64 8, .int .i64 0, .int .i64 c, .int .i64 1] 31)).alloc (.cells zactA 42)) w.heap.size 31 #[.int .i64 8, .int .i64 0, .int .i64 c, .int .i64 1].toList := (Blok.new w _ _).alloc _
  have z0 : Blok ((w.alloc (.cells #[.int .i64 8, .int .i64 0, .int .i64 c, .int .i64 1] 31)).alloc (.cells zactA 42)) (w.heap.size + 1) 42 zactA.toList := by
    have := Blok.new (w.alloc (.cells #[.int .i64 8, .int .i64 0, .int .i64 c, .int .i64 1] 31)) 42 zactA.toList
    have e : (w.alloc (.cells #[.int .i64 8, .int .i64 0, .int .i64 c, .int .i64 1] 31)).heap.size = w.heap.size + 1 := by simp
    rwa [e] at this
  have b0 : Below w.heap.size w ((w.alloc (.cells #[.int .i64 8, .int .i64 0, .int .i64 c, .int .i64 1] 31)).alloc (.cells zactA 42)) := ((Below.refl _ _).alloc (Nat.le_refl _) _).alloc (by simp) _
  clear hd as1 dr1 e2 h0 h1
  go_enter Tryd.func33, Tryd.ntmps33
  go_wp2_with fail
  refine (AS.out _).mono ?_
  rintro e w1 ⟨rfl, hB1⟩
  have t1 := t0.below hB1 t0.lt
  have z1 := z0.below hB1 z0.lt
  (have x0 : (w1).cell? ⟨w.heap.size, 0, none⟩ = some (.int .i64 8) := (t1).cell 0; have x1 : (w1).cell? ⟨w.heap.size, 1, none⟩ = some (.int .i64 0) := (t1).cell 1; have x2 : (w1).cell? ⟨w.heap.size, 2, none⟩ = some (.int .i64 c) := (t1).cell 2; have x3 : (w1).cell? ⟨w.heap.size, 3, none⟩ = some (.int .i64 1) := (t1).cell 3)
  go_wp2_with fail
  refine (DR.out _).mono ?_
  rintro e w2 ⟨rfl, hB2⟩
  have t2 := t1.below hB2 t1.lt
  have z2 := z1.below hB2 z1.lt
  have b2 := bthen (bthen b0 hB1) hB2
  have tl := t2.lt
  (have y0 : (w2).cell? ⟨w.heap.size, 0, none⟩ = some (.int .i64 8) := (t2).cell 0; have y1 : (w2).cell? ⟨w.heap.size, 1, none⟩ = some (.int .i64 0) := (t2).cell 1; have y2 : (w2).cell? ⟨w.heap.size, 2, none⟩ = some (.int .i64 c) := (t2).cell 2; have y3 : (w2).cell? ⟨w.heap.size, 3, none⟩ = some (.int .i64 1) := (t2).cell 3)
  go_wp2_with (refine wpList_store_blok rfl _ (.tmp 4) (.tmp 52) rfl (w.heap.size + 1) 0 (#[.int .i64 2, .int .i64 2, .int .u32 (v / 4096 * 4096 % 4294967296), .int .i64 (wrap64 (bits .and .u32 v 255)), .int .u32 0, .bool false, .bool false]) rfl rfl (z2.alloc _) (by simp [zactA]) (by kernel_rfl) rfl ?_; intro w4 hb4 hg4 hz4)
  have r0 := hb4.cell 0
  have r1 := hb4.cell 1
  have r2 := hb4.cell 2
  have r3 := hb4.cell 3
  have r4 := hb4.cell 4
  have r5 := hb4.cell 5
  have r6 := hb4.cell 6
  simp [zactA] at r0 r1 r2 r3 r4 r5 r6
  refine bodyPost_ret (v := .agg (#[.int .i64 2, .int .i64 2, .int .u32 (v / 4096 * 4096 % 4294967296), .int .i64 (wrap64 (bits .and .u32 v 255)), .int .u32 0, .bool false, .bool false])) (by simp [results, Tryd.results33, go_sem, r0, r1, r2, r3, r4, r5, r6]) rfl ⟨?_, (b2.alloc b2.size _).grown hg4 ((b2.alloc b2.size _).size) (by simp)⟩
  rw [show dropA 2 v = #[.int .i64 2, .int .i64 2, .int .u32 (v / 4096 * 4096 % 4294967296), .int .i64 (wrap64 (bits .and .u32 v 255)), .int .u32 0, .bool false, .bool false] by first | (simp [dropA]; done) | (simp [dropA, E2.out]; done)]
set_option maxHeartbeats 3200000 in
theorem act_d2 (c v : Int) (h0 : 0 ≤ v) (h1 : v ≤ 4294967295) (hd : dropsB ⟨8, 0, c, 2⟩ = true) (w : World) : Calls Tryd.prog 33 #[.agg #[.int .i64 8, .int .i64 0, .int .i64 c, .int .i64 2], .int .u32 v] w fun e w' => e = .returned (.agg (dropA 3 v)) ∧ Below w.heap.size w w' := by
  have as1 := fun W => asks_is ⟨8, 0, c, 2⟩ W
  have dr1 := fun W => drops_is ⟨8, 0, c, 2⟩ W
  rw [show asksB ⟨8, 0, c, 2⟩ = false by simp [asksB]] at as1
  rw [hd] at dr1
  have AS := Lib.hid as1
  have DR := Lib.hid dr1
  have e2 : wrap64 (bits .and .u32 v 255) = v % 256 := by rw [and_255 v h0 h1]; exact wrap64_lo _ (by omega) (by omega)
  have E2 := Lib.hid e2
  have t0 : Blok ((w.alloc (.cells #[.int .i64 8, .int .i64 0, .int .i64 c, .int .i64 2] 31)).alloc (.cells zactA 42)) w.heap.size 31 #[.int .i64 8, .int .i64 0, .int .i64 c, .int .i64 2].toList := (Blok.new w _ _).alloc _
  have z0 : Blok ((w.alloc (.cells #[.int .i64 8, .int .i64 0, .int .i64 c, .int .i64 2] 31)).alloc (.cells zactA 42)) (w.heap.size + 1) 42 zactA.toList := by
    have := Blok.new (w.alloc (.cells #[.int .i64 8, .int .i64 0, .int .i64 c, .int .i64 2] 31)) 42 zactA.toList
    have e : (w.alloc (.cells #[.int .i64 8, .int .i64 0, .int .i64 c, .int .i64 2] 31)).heap.size = w.heap.size + 1 := by simp
    rwa [e] at this
  have b0 : Below w.heap.size w ((w.alloc (.cells #[.int .i64 8, .int .i64 0, .int .i64 c, .int .i64 2] 31)).alloc (.cells zactA 42)) := ((Below.refl _ _).alloc (Nat.le_refl _) _).alloc (by simp) _
  clear hd as1 dr1 e2 h0 h1
  go_enter Tryd.func33, Tryd.ntmps33
  go_wp2_with fail
  refine (AS.out _).mono ?_
  rintro e w1 ⟨rfl, hB1⟩
  have t1 := t0.below hB1 t0.lt
  have z1 := z0.below hB1 z0.lt
  (have x0 : (w1).cell? ⟨w.heap.size, 0, none⟩ = some (.int .i64 8) := (t1).cell 0; have x1 : (w1).cell? ⟨w.heap.size, 1, none⟩ = some (.int .i64 0) := (t1).cell 1; have x2 : (w1).cell? ⟨w.heap.size, 2, none⟩ = some (.int .i64 c) := (t1).cell 2; have x3 : (w1).cell? ⟨w.heap.size, 3, none⟩ = some (.int .i64 2) := (t1).cell 3)
  go_wp2_with fail
  refine (DR.out _).mono ?_
  rintro e w2 ⟨rfl, hB2⟩
  have t2 := t1.below hB2 t1.lt
  have z2 := z1.below hB2 z1.lt
  have b2 := bthen (bthen b0 hB1) hB2
  have tl := t2.lt
  (have y0 : (w2).cell? ⟨w.heap.size, 0, none⟩ = some (.int .i64 8) := (t2).cell 0; have y1 : (w2).cell? ⟨w.heap.size, 1, none⟩ = some (.int .i64 0) := (t2).cell 1; have y2 : (w2).cell? ⟨w.heap.size, 2, none⟩ = some (.int .i64 c) := (t2).cell 2; have y3 : (w2).cell? ⟨w.heap.size, 3, none⟩ = some (.int .i64 2) := (t2).cell 3)
  go_wp2_with (refine wpList_store_blok rfl _ (.tmp 4) (.tmp 52) rfl (w.heap.size + 1) 0 (#[.int .i64 2, .int .i64 3, .int .u32 (0), .int .i64 (wrap64 (bits .and .u32 v 255)), .int .u32 0, .bool false, .bool false]) rfl rfl (z2.alloc _) (by simp [zactA]) (by kernel_rfl) rfl ?_; intro w4 hb4 hg4 hz4)
  have r0 := hb4.cell 0
  have r1 := hb4.cell 1
  have r2 := hb4.cell 2
  have r3 := hb4.cell 3
  have r4 := hb4.cell 4
  have r5 := hb4.cell 5
  have r6 := hb4.cell 6
  simp [zactA] at r0 r1 r2 r3 r4 r5 r6
  refine bodyPost_ret (v := .agg (#[.int .i64 2, .int .i64 3, .int .u32 (0), .int .i64 (wrap64 (bits .and .u32 v 255)), .int .u32 0, .bool false, .bool false])) (by simp [results, Tryd.results33, go_sem, r0, r1, r2, r3, r4, r5, r6]) rfl ⟨?_, (b2.alloc b2.size _).grown hg4 ((b2.alloc b2.size _).size) (by simp)⟩
  rw [show dropA 3 v = #[.int .i64 2, .int .i64 3, .int .u32 (0), .int .i64 (wrap64 (bits .and .u32 v 255)), .int .u32 0, .bool false, .bool false] by first | (simp [dropA]; done) | (simp [dropA, E2.out]; done)]
set_option maxHeartbeats 3200000 in
theorem act_d3 (c v : Int) (h0 : 0 ≤ v) (h1 : v ≤ 4294967295) (hd : dropsB ⟨8, 0, c, 3⟩ = true) (w : World) : Calls Tryd.prog 33 #[.agg #[.int .i64 8, .int .i64 0, .int .i64 c, .int .i64 3], .int .u32 v] w fun e w' => e = .returned (.agg (dropA 4 v)) ∧ Below w.heap.size w w' := by
  have as1 := fun W => asks_is ⟨8, 0, c, 3⟩ W
  have dr1 := fun W => drops_is ⟨8, 0, c, 3⟩ W
  rw [show asksB ⟨8, 0, c, 3⟩ = false by simp [asksB]] at as1
  rw [hd] at dr1
  have AS := Lib.hid as1
  have DR := Lib.hid dr1
  have e2 : wrap64 (bits .and .u32 v 255) = v % 256 := by rw [and_255 v h0 h1]; exact wrap64_lo _ (by omega) (by omega)
  have E2 := Lib.hid e2
  have t0 : Blok ((w.alloc (.cells #[.int .i64 8, .int .i64 0, .int .i64 c, .int .i64 3] 31)).alloc (.cells zactA 42)) w.heap.size 31 #[.int .i64 8, .int .i64 0, .int .i64 c, .int .i64 3].toList := (Blok.new w _ _).alloc _
  have z0 : Blok ((w.alloc (.cells #[.int .i64 8, .int .i64 0, .int .i64 c, .int .i64 3] 31)).alloc (.cells zactA 42)) (w.heap.size + 1) 42 zactA.toList := by
    have := Blok.new (w.alloc (.cells #[.int .i64 8, .int .i64 0, .int .i64 c, .int .i64 3] 31)) 42 zactA.toList
    have e : (w.alloc (.cells #[.int .i64 8, .int .i64 0, .int .i64 c, .int .i64 3] 31)).heap.size = w.heap.size + 1 := by simp
    rwa [e] at this
  have b0 : Below w.heap.size w ((w.alloc (.cells #[.int .i64 8, .int .i64 0, .int .i64 c, .int .i64 3] 31)).alloc (.cells zactA 42)) := ((Below.refl _ _).alloc (Nat.le_refl _) _).alloc (by simp) _
  clear hd as1 dr1 e2 h0 h1
  go_enter Tryd.func33, Tryd.ntmps33
  go_wp2_with fail
  refine (AS.out _).mono ?_
  rintro e w1 ⟨rfl, hB1⟩
  have t1 := t0.below hB1 t0.lt
  have z1 := z0.below hB1 z0.lt
  (have x0 : (w1).cell? ⟨w.heap.size, 0, none⟩ = some (.int .i64 8) := (t1).cell 0; have x1 : (w1).cell? ⟨w.heap.size, 1, none⟩ = some (.int .i64 0) := (t1).cell 1; have x2 : (w1).cell? ⟨w.heap.size, 2, none⟩ = some (.int .i64 c) := (t1).cell 2; have x3 : (w1).cell? ⟨w.heap.size, 3, none⟩ = some (.int .i64 3) := (t1).cell 3)
  go_wp2_with fail
  refine (DR.out _).mono ?_
  rintro e w2 ⟨rfl, hB2⟩
  have t2 := t1.below hB2 t1.lt
  have z2 := z1.below hB2 z1.lt
  have b2 := bthen (bthen b0 hB1) hB2
  have tl := t2.lt
  (have y0 : (w2).cell? ⟨w.heap.size, 0, none⟩ = some (.int .i64 8) := (t2).cell 0; have y1 : (w2).cell? ⟨w.heap.size, 1, none⟩ = some (.int .i64 0) := (t2).cell 1; have y2 : (w2).cell? ⟨w.heap.size, 2, none⟩ = some (.int .i64 c) := (t2).cell 2; have y3 : (w2).cell? ⟨w.heap.size, 3, none⟩ = some (.int .i64 3) := (t2).cell 3)
  go_wp2_with (refine wpList_store_blok rfl _ (.tmp 4) (.tmp 52) rfl (w.heap.size + 1) 0 (#[.int .i64 2, .int .i64 4, .int .u32 (v / 4096 * 4096 % 4294967296), .int .i64 (0), .int .u32 0, .bool false, .bool false]) rfl rfl (z2.alloc _) (by simp [zactA]) (by kernel_rfl) rfl ?_; intro w4 hb4 hg4 hz4)
  have r0 := hb4.cell 0
  have r1 := hb4.cell 1
  have r2 := hb4.cell 2
  have r3 := hb4.cell 3
  have r4 := hb4.cell 4
  have r5 := hb4.cell 5
  have r6 := hb4.cell 6
  simp [zactA] at r0 r1 r2 r3 r4 r5 r6
  refine bodyPost_ret (v := .agg (#[.int .i64 2, .int .i64 4, .int .u32 (v / 4096 * 4096 % 4294967296), .int .i64 (0), .int .u32 0, .bool false, .bool false])) (by simp [results, Tryd.results33, go_sem, r0, r1, r2, r3, r4, r5, r6]) rfl ⟨?_, (b2.alloc b2.size _).grown hg4 ((b2.alloc b2.size _).size) (by simp)⟩
  rw [show dropA 4 v = #[.int .i64 2, .int .i64 4, .int .u32 (v / 4096 * 4096 % 4294967296), .int .i64 (0), .int .u32 0, .bool false, .bool false] by first | (simp [dropA]; done) | (simp [dropA, E2.out]; done)]
set_option maxHeartbeats 3200000 in
theorem act_z (t : Tup) (v : Int) (ha : asksB t = false) (hd : dropsB t = false) (w : World) : Calls Tryd.prog 33 #[(.agg #[.int .i64 t.crn, .int .i64 t.op1, .int .i64 t.crm, .int .i64 t.op2]), .int .u32 v] w fun e w' => e = .returned (.agg zactA) ∧ Below w.heap.size w w' := by
  have as1 := fun W => asks_is t W
  have dr1 := fun W => drops_is t W
  rw [ha] at as1
  rw [hd] at dr1
  have AS := Lib.hid as1
  have DR := Lib.hid dr1
  have t0 : Blok ((w.alloc (.cells #[.int .i64 t.crn, .int .i64 t.op1, .int .i64 t.crm, .int .i64 t.op2] 31)).alloc (.cells zactA 42)) w.heap.size 31 #[.int .i64 t.crn, .int .i64 t.op1, .int .i64 t.crm, .int .i64 t.op2].toList := (Blok.new w _ _).alloc _
  have z0 : Blok ((w.alloc (.cells #[.int .i64 t.crn, .int .i64 t.op1, .int .i64 t.crm, .int .i64 t.op2] 31)).alloc (.cells zactA 42)) (w.heap.size + 1) 42 zactA.toList := by
    have := Blok.new (w.alloc (.cells #[.int .i64 t.crn, .int .i64 t.op1, .int .i64 t.crm, .int .i64 t.op2] 31)) 42 zactA.toList
    have e : (w.alloc (.cells #[.int .i64 t.crn, .int .i64 t.op1, .int .i64 t.crm, .int .i64 t.op2] 31)).heap.size = w.heap.size + 1 := by simp
    rwa [e] at this
  have b0 : Below w.heap.size w ((w.alloc (.cells #[.int .i64 t.crn, .int .i64 t.op1, .int .i64 t.crm, .int .i64 t.op2] 31)).alloc (.cells zactA 42)) := ((Below.refl _ _).alloc (Nat.le_refl _) _).alloc (by simp) _
  clear hd ha as1 dr1
  go_enter Tryd.func33, Tryd.ntmps33
  go_wp2_with fail
  refine (AS.out _).mono ?_
  rintro e w1 ⟨rfl, hB1⟩
  have t1 := t0.below hB1 t0.lt
  have z1 := z0.below hB1 z0.lt
  (have x0 : (w1).cell? ⟨w.heap.size, 0, none⟩ = some (.int .i64 t.crn) := (t1).cell 0; have x1 : (w1).cell? ⟨w.heap.size, 1, none⟩ = some (.int .i64 t.op1) := (t1).cell 1; have x2 : (w1).cell? ⟨w.heap.size, 2, none⟩ = some (.int .i64 t.crm) := (t1).cell 2; have x3 : (w1).cell? ⟨w.heap.size, 3, none⟩ = some (.int .i64 t.op2) := (t1).cell 3)
  go_wp2_with fail
  refine (DR.out _).mono ?_
  rintro e w2 ⟨rfl, hB2⟩
  have z2 := z1.below hB2 z1.lt
  have b2 := bthen (bthen b0 hB1) hB2
  go_wp2_with (refine wpList_store_blok rfl _ (.tmp 4) (.tmp 22) rfl (w.heap.size + 1) 0 (#[.int .i64 0, .int .i64 0, .int .u32 0, .int .i64 0, .int .u32 0, .bool false, .bool false]) rfl rfl (z2) (by simp [zactA]) (by kernel_rfl) rfl ?_; intro w4 hb4 hg4 hz4)
  have r0 := hb4.cell 0
  have r1 := hb4.cell 1
  have r2 := hb4.cell 2
  have r3 := hb4.cell 3
  have r4 := hb4.cell 4
  have r5 := hb4.cell 5
  have r6 := hb4.cell 6
  simp [zactA] at r0 r1 r2 r3 r4 r5 r6
  refine bodyPost_ret (v := .agg (#[.int .i64 0, .int .i64 0, .int .u32 0, .int .i64 0, .int .u32 0, .bool false, .bool false])) (by simp [results, Tryd.results33, go_sem, r0, r1, r2, r3, r4, r5, r6]) rfl ⟨?_, (b2).grown hg4 ((b2).size) (by simp)⟩
  rfl
theorem act_is (t : Tup) (v : Int) (h0 : 0 ≤ v) (h1 : v ≤ 4294967295) (w : World) : Calls Tryd.prog 33 #[(.agg #[.int .i64 t.crn, .int .i64 t.op1, .int .i64 t.crm, .int .i64 t.op2]), .int .u32 v] w fun e w' => e = .returned (.agg (actA t v)) ∧ Below w.heap.size w w' := by
  unfold actA
  cases ha : asksB t
  · rw [if_neg (by decide)]
    cases hd : dropsB t
    · rw [if_neg (by decide)]; exact act_z t v ha hd w
    · rw [if_pos rfl]
      obtain ⟨a, b, c, d⟩ := t
      have hd' := hd
      simp [dropsB] at hd'
      obtain ⟨⟨⟨⟨rfl, rfl⟩, h3⟩, h4⟩, _⟩ := hd'
      have hx : d = 0 ∨ d = 1 ∨ d = 2 ∨ d = 3 := by omega
      rcases hx with rfl | rfl | rfl | rfl
      · exact act_d0 c v h0 h1 hd w
      · exact act_d1 c v h0 h1 hd w
      · exact act_d2 c v h0 h1 hd w
      · exact act_d3 c v h0 h1 hd w
  · rw [if_pos rfl]
    obtain ⟨a, b, c, d⟩ := t
    simp [asksB] at ha
    obtain ⟨⟨⟨⟨rfl, rfl⟩, rfl⟩, h3⟩, h4⟩ := ha
    have hx : d = 0 ∨ d = 1 ∨ d = 2 ∨ d = 3 := by omega
    rcases hx with rfl | rfl | rfl | rfl
    · exact act_a0 v w
    · exact act_a1 v w
    · exact act_a2 v w
    · exact act_a3 v w
end Go.Proofs.YtakihcdolpocjaaDoor
