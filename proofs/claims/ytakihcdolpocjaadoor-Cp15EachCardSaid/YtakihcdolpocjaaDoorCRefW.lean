/- The document's Write of layer 8 (atlasref08). -/
import Derived.Test.YtakihcdolpocjaaDoorCAct
import Derived.Test.YtakihcdolpocjaaDoorCRef
namespace Go.Proofs.YtakihcdolpocjaaDoor
open Go.RowKit

theorem drops_asks {t : Tup} (h : dropsB t = true) : asksB t = false := by
  simp [dropsB] at h
  simp [asksB, h.1.1.1.2]
theorem bar_no {t : Tup} (h : barB t = true) : asksB t = false ∧ dropsB t = false := by
  obtain ⟨a, b, c, d⟩ := t
  simp [barB] at h
  obtain ⟨⟨rfl, rfl⟩, ⟨rfl, rfl⟩ | ⟨rfl, rfl | rfl⟩⟩ := h <;> exact ⟨rfl, rfl⟩
set_option maxHeartbeats 6400000 in
set_option maxRecDepth 100000 in
theorem refWrite_none_true (fb : Nat) (rs : List Int) (t : Tup) (v : Int) (hr : regOf t = none) (k1 : dropsB t = false) (k2 : asksB t = false) (k3 : barB t = false) (w : World) (h : IsFile w 68 fb rs) :
    Calls Tryd.prog 25 #[.pointer (some ⟨fb, 0, none⟩), (.agg #[.int .i64 t.crn, .int .i64 t.op1, .int .i64 t.crm, .int .i64 t.op2]), .bool true, .int .u32 v] w (WritePost 68 fb (zactA, 80, rs) w) := by
  have RG0 := refRegister_is t ((w.alloc (.cells #[.int .i64 t.crn, .int .i64 t.op1, .int .i64 t.crm, .int .i64 t.op2] 31)).alloc (.cells zactA 42))
  unfold regRes at RG0
  rw [hr] at RG0
  have RG := Lib.hid RG0
  have BR := Lib.hid (fun W => barrier_is t W)
  have OP := Lib.hid (fun W => Operation_is t W)
  clear RG0
  have h0 := (h.alloc (.cells #[.int .i64 t.crn, .int .i64 t.op1, .int .i64 t.crm, .int .i64 t.op2] 31)).alloc (.cells zactA 42)
  have t0 : Blok ((w.alloc (.cells #[.int .i64 t.crn, .int .i64 t.op1, .int .i64 t.crm, .int .i64 t.op2] 31)).alloc (.cells zactA 42)) w.heap.size 31 #[.int .i64 t.crn, .int .i64 t.op1, .int .i64 t.crm, .int .i64 t.op2].toList := (Blok.new w _ _).alloc _
  have z0 : Blok ((w.alloc (.cells #[.int .i64 t.crn, .int .i64 t.op1, .int .i64 t.crm, .int .i64 t.op2] 31)).alloc (.cells zactA 42)) (w.heap.size + 1) 42 zactA.toList := by
    have := Blok.new (w.alloc (.cells #[.int .i64 t.crn, .int .i64 t.op1, .int .i64 t.crm, .int .i64 t.op2] 31)) 42 zactA.toList
    have e : (w.alloc (.cells #[.int .i64 t.crn, .int .i64 t.op1, .int .i64 t.crm, .int .i64 t.op2] 31)).heap.size = w.heap.size + 1 := by simp
    rwa [e] at this
  have b0 : Below w.heap.size w ((w.alloc (.cells #[.int .i64 t.crn, .int .i64 t.op1, .int .i64 t.crm, .int .i64 t.op2] 31)).alloc (.cells zactA 42)) := ((Below.refl _ _).alloc (Nat.le_refl _) _).alloc (by simp) _
  have hfl := h.b.lt
  have ho : opB t = false := by unfold opB; simp [k1, k2, k3]
  clear k1 k2 k3 hr
  go_enter Tryd.func25, Tryd.ntmps25
  go_wp2_with fail
  refine (RG.out).mono ?_
  rintro e w11 ⟨rfl, hB1⟩
  have t1 := t0.below hB1 t0.lt
  have z1 := z0.below hB1 z0.lt
  have h1 := h0.below hB1
  have b1 := bthen b0 hB1
  have q1 := b1.size
  have l1 := t1.lt
  (have x10 : (w11).cell? ⟨w.heap.size, 0, none⟩ = some (.int .i64 t.crn) := (t1).cell 0; have x11 : (w11).cell? ⟨w.heap.size, 1, none⟩ = some (.int .i64 t.op1) := (t1).cell 1; have x12 : (w11).cell? ⟨w.heap.size, 2, none⟩ = some (.int .i64 t.crm) := (t1).cell 2; have x13 : (w11).cell? ⟨w.heap.size, 3, none⟩ = some (.int .i64 t.op2) := (t1).cell 3)
  go_wp2_with fail
  refine (OP.out _).mono ?_
  rintro e w12 ⟨rfl, hB2⟩
  rw [ho]
  have t2 := t1.below hB2 t1.lt
  have z2 := z1.below hB2 z1.lt
  have h2 := h1.below hB2
  have b2 := bthen b1 hB2
  have q2 := b2.size
  have l2 := t2.lt
  (have x20 : (w12).cell? ⟨w.heap.size, 0, none⟩ = some (.int .i64 t.crn) := (t2).cell 0; have x21 : (w12).cell? ⟨w.heap.size, 1, none⟩ = some (.int .i64 t.op1) := (t2).cell 1; have x22 : (w12).cell? ⟨w.heap.size, 2, none⟩ = some (.int .i64 t.crm) := (t2).cell 2; have x23 : (w12).cell? ⟨w.heap.size, 3, none⟩ = some (.int .i64 t.op2) := (t2).cell 3)
  clear ho
  go_wp2_with (refine wpList_store_blok rfl _ (.tmp 8) (.tmp 24) rfl (w.heap.size + 1) 0 (zactA) rfl rfl (z2) (by simp [zactA]) (by kernel_rfl) rfl ?_; intro w4 hb4 hg4 hz4)
  have r0 := hb4.cell 0
  have r1 := hb4.cell 1
  have r2 := hb4.cell 2
  have r3 := hb4.cell 3
  have r4 := hb4.cell 4
  have r5 := hb4.cell 5
  have r6 := hb4.cell 6
  simp [zactA] at r0 r1 r2 r3 r4 r5 r6
  refine bodyPost_ret (v := .tuple #[.agg (zactA), .int .i64 80]) (by simp [results, Tryd.results25, go_sem, zactA, r0, r1, r2, r3, r4, r5, r6]) rfl ⟨rfl, (h2).far hg4 (by intro e; have := Option.some.inj e; omega), gnew (grown_of b2 _) hg4 (by omega)⟩
set_option maxHeartbeats 6400000 in
set_option maxRecDepth 100000 in
theorem refWrite_none_false (fb : Nat) (rs : List Int) (t : Tup) (v : Int) (hr : regOf t = none) (k1 : dropsB t = false) (k2 : asksB t = false) (k3 : barB t = false) (w : World) (h : IsFile w 68 fb rs) :
    Calls Tryd.prog 25 #[.pointer (some ⟨fb, 0, none⟩), (.agg #[.int .i64 t.crn, .int .i64 t.op1, .int .i64 t.crm, .int .i64 t.op2]), .bool false, .int .u32 v] w (WritePost 68 fb (zactA, 80, rs) w) := by
  have RG0 := refRegister_is t ((w.alloc (.cells #[.int .i64 t.crn, .int .i64 t.op1, .int .i64 t.crm, .int .i64 t.op2] 31)).alloc (.cells zactA 42))
  unfold regRes at RG0
  rw [hr] at RG0
  have RG := Lib.hid RG0
  have BR := Lib.hid (fun W => barrier_is t W)
  have OP := Lib.hid (fun W => Operation_is t W)
  clear RG0
  have h0 := (h.alloc (.cells #[.int .i64 t.crn, .int .i64 t.op1, .int .i64 t.crm, .int .i64 t.op2] 31)).alloc (.cells zactA 42)
  have t0 : Blok ((w.alloc (.cells #[.int .i64 t.crn, .int .i64 t.op1, .int .i64 t.crm, .int .i64 t.op2] 31)).alloc (.cells zactA 42)) w.heap.size 31 #[.int .i64 t.crn, .int .i64 t.op1, .int .i64 t.crm, .int .i64 t.op2].toList := (Blok.new w _ _).alloc _
  have z0 : Blok ((w.alloc (.cells #[.int .i64 t.crn, .int .i64 t.op1, .int .i64 t.crm, .int .i64 t.op2] 31)).alloc (.cells zactA 42)) (w.heap.size + 1) 42 zactA.toList := by
    have := Blok.new (w.alloc (.cells #[.int .i64 t.crn, .int .i64 t.op1, .int .i64 t.crm, .int .i64 t.op2] 31)) 42 zactA.toList
    have e : (w.alloc (.cells #[.int .i64 t.crn, .int .i64 t.op1, .int .i64 t.crm, .int .i64 t.op2] 31)).heap.size = w.heap.size + 1 := by simp
    rwa [e] at this
  have b0 : Below w.heap.size w ((w.alloc (.cells #[.int .i64 t.crn, .int .i64 t.op1, .int .i64 t.crm, .int .i64 t.op2] 31)).alloc (.cells zactA 42)) := ((Below.refl _ _).alloc (Nat.le_refl _) _).alloc (by simp) _
  have hfl := h.b.lt
  have ho : opB t = false := by unfold opB; simp [k1, k2, k3]
  clear k1 k2 k3 hr
  go_enter Tryd.func25, Tryd.ntmps25
  go_wp2_with fail
  refine (RG.out).mono ?_
  rintro e w11 ⟨rfl, hB1⟩
  have t1 := t0.below hB1 t0.lt
  have z1 := z0.below hB1 z0.lt
  have h1 := h0.below hB1
  have b1 := bthen b0 hB1
  have q1 := b1.size
  have l1 := t1.lt
  (have x10 : (w11).cell? ⟨w.heap.size, 0, none⟩ = some (.int .i64 t.crn) := (t1).cell 0; have x11 : (w11).cell? ⟨w.heap.size, 1, none⟩ = some (.int .i64 t.op1) := (t1).cell 1; have x12 : (w11).cell? ⟨w.heap.size, 2, none⟩ = some (.int .i64 t.crm) := (t1).cell 2; have x13 : (w11).cell? ⟨w.heap.size, 3, none⟩ = some (.int .i64 t.op2) := (t1).cell 3)
  go_wp2_with fail
  refine (OP.out _).mono ?_
  rintro e w12 ⟨rfl, hB2⟩
  rw [ho]
  have t2 := t1.below hB2 t1.lt
  have z2 := z1.below hB2 z1.lt
  have h2 := h1.below hB2
  have b2 := bthen b1 hB2
  have q2 := b2.size
  have l2 := t2.lt
  (have x20 : (w12).cell? ⟨w.heap.size, 0, none⟩ = some (.int .i64 t.crn) := (t2).cell 0; have x21 : (w12).cell? ⟨w.heap.size, 1, none⟩ = some (.int .i64 t.op1) := (t2).cell 1; have x22 : (w12).cell? ⟨w.heap.size, 2, none⟩ = some (.int .i64 t.crm) := (t2).cell 2; have x23 : (w12).cell? ⟨w.heap.size, 3, none⟩ = some (.int .i64 t.op2) := (t2).cell 3)
  clear ho
  go_wp2_with (refine wpList_store_blok rfl _ (.tmp 8) (.tmp 24) rfl (w.heap.size + 1) 0 (zactA) rfl rfl (z2) (by simp [zactA]) (by kernel_rfl) rfl ?_; intro w4 hb4 hg4 hz4)
  have r0 := hb4.cell 0
  have r1 := hb4.cell 1
  have r2 := hb4.cell 2
  have r3 := hb4.cell 3
  have r4 := hb4.cell 4
  have r5 := hb4.cell 5
  have r6 := hb4.cell 6
  simp [zactA] at r0 r1 r2 r3 r4 r5 r6
  refine bodyPost_ret (v := .tuple #[.agg (zactA), .int .i64 80]) (by simp [results, Tryd.results25, go_sem, zactA, r0, r1, r2, r3, r4, r5, r6]) rfl ⟨rfl, (h2).far hg4 (by intro e; have := Option.some.inj e; omega), gnew (grown_of b2 _) hg4 (by omega)⟩
set_option maxHeartbeats 6400000 in
set_option maxRecDepth 100000 in
theorem refWrite_op_false (fb : Nat) (rs : List Int) (t : Tup) (v : Int) (hr : regOf t = none) (ho : opB t = true) (k3 : barB t = false) (w : World) (h : IsFile w 68 fb rs) :
    Calls Tryd.prog 25 #[.pointer (some ⟨fb, 0, none⟩), (.agg #[.int .i64 t.crn, .int .i64 t.op1, .int .i64 t.crm, .int .i64 t.op2]), .bool false, .int .u32 v] w (WritePost 68 fb (zactA, 81, rs) w) := by
  have RG0 := refRegister_is t ((w.alloc (.cells #[.int .i64 t.crn, .int .i64 t.op1, .int .i64 t.crm, .int .i64 t.op2] 31)).alloc (.cells zactA 42))
  unfold regRes at RG0
  rw [hr] at RG0
  have RG := Lib.hid RG0
  have BR := Lib.hid (fun W => barrier_is t W)
  have OP := Lib.hid (fun W => Operation_is t W)
  clear RG0
  have h0 := (h.alloc (.cells #[.int .i64 t.crn, .int .i64 t.op1, .int .i64 t.crm, .int .i64 t.op2] 31)).alloc (.cells zactA 42)
  have t0 : Blok ((w.alloc (.cells #[.int .i64 t.crn, .int .i64 t.op1, .int .i64 t.crm, .int .i64 t.op2] 31)).alloc (.cells zactA 42)) w.heap.size 31 #[.int .i64 t.crn, .int .i64 t.op1, .int .i64 t.crm, .int .i64 t.op2].toList := (Blok.new w _ _).alloc _
  have z0 : Blok ((w.alloc (.cells #[.int .i64 t.crn, .int .i64 t.op1, .int .i64 t.crm, .int .i64 t.op2] 31)).alloc (.cells zactA 42)) (w.heap.size + 1) 42 zactA.toList := by
    have := Blok.new (w.alloc (.cells #[.int .i64 t.crn, .int .i64 t.op1, .int .i64 t.crm, .int .i64 t.op2] 31)) 42 zactA.toList
    have e : (w.alloc (.cells #[.int .i64 t.crn, .int .i64 t.op1, .int .i64 t.crm, .int .i64 t.op2] 31)).heap.size = w.heap.size + 1 := by simp
    rwa [e] at this
  have b0 : Below w.heap.size w ((w.alloc (.cells #[.int .i64 t.crn, .int .i64 t.op1, .int .i64 t.crm, .int .i64 t.op2] 31)).alloc (.cells zactA 42)) := ((Below.refl _ _).alloc (Nat.le_refl _) _).alloc (by simp) _
  have hfl := h.b.lt
  clear hr
  go_enter Tryd.func25, Tryd.ntmps25
  go_wp2_with fail
  refine (RG.out).mono ?_
  rintro e w11 ⟨rfl, hB1⟩
  have t1 := t0.below hB1 t0.lt
  have z1 := z0.below hB1 z0.lt
  have h1 := h0.below hB1
  have b1 := bthen b0 hB1
  have q1 := b1.size
  have l1 := t1.lt
  (have x10 : (w11).cell? ⟨w.heap.size, 0, none⟩ = some (.int .i64 t.crn) := (t1).cell 0; have x11 : (w11).cell? ⟨w.heap.size, 1, none⟩ = some (.int .i64 t.op1) := (t1).cell 1; have x12 : (w11).cell? ⟨w.heap.size, 2, none⟩ = some (.int .i64 t.crm) := (t1).cell 2; have x13 : (w11).cell? ⟨w.heap.size, 3, none⟩ = some (.int .i64 t.op2) := (t1).cell 3)
  go_wp2_with fail
  refine (OP.out _).mono ?_
  rintro e w12 ⟨rfl, hB2⟩
  rw [ho]
  have t2 := t1.below hB2 t1.lt
  have z2 := z1.below hB2 z1.lt
  have h2 := h1.below hB2
  have b2 := bthen b1 hB2
  have q2 := b2.size
  have l2 := t2.lt
  (have x20 : (w12).cell? ⟨w.heap.size, 0, none⟩ = some (.int .i64 t.crn) := (t2).cell 0; have x21 : (w12).cell? ⟨w.heap.size, 1, none⟩ = some (.int .i64 t.op1) := (t2).cell 1; have x22 : (w12).cell? ⟨w.heap.size, 2, none⟩ = some (.int .i64 t.crm) := (t2).cell 2; have x23 : (w12).cell? ⟨w.heap.size, 3, none⟩ = some (.int .i64 t.op2) := (t2).cell 3)
  go_wp2_with fail
  refine (BR.out _).mono ?_
  rintro e w13 ⟨rfl, hB3⟩
  rw [k3]
  have t3 := t2.below hB3 t2.lt
  have z3 := z2.below hB3 z2.lt
  have h3 := h2.below hB3
  have b3 := bthen b2 hB3
  have q3 := b3.size
  have l3 := t3.lt
  (have x30 : (w13).cell? ⟨w.heap.size, 0, none⟩ = some (.int .i64 t.crn) := (t3).cell 0; have x31 : (w13).cell? ⟨w.heap.size, 1, none⟩ = some (.int .i64 t.op1) := (t3).cell 1; have x32 : (w13).cell? ⟨w.heap.size, 2, none⟩ = some (.int .i64 t.crm) := (t3).cell 2; have x33 : (w13).cell? ⟨w.heap.size, 3, none⟩ = some (.int .i64 t.op2) := (t3).cell 3)
  clear ho k3
  go_wp2_with (refine wpList_store_blok rfl _ (.tmp 8) (.tmp 32) rfl (w.heap.size + 1) 0 (zactA) rfl rfl (z3) (by simp [zactA]) (by kernel_rfl) rfl ?_; intro w4 hb4 hg4 hz4)
  have r0 := hb4.cell 0
  have r1 := hb4.cell 1
  have r2 := hb4.cell 2
  have r3 := hb4.cell 3
  have r4 := hb4.cell 4
  have r5 := hb4.cell 5
  have r6 := hb4.cell 6
  simp [zactA] at r0 r1 r2 r3 r4 r5 r6
  refine bodyPost_ret (v := .tuple #[.agg (zactA), .int .i64 81]) (by simp [results, Tryd.results25, go_sem, zactA, r0, r1, r2, r3, r4, r5, r6]) rfl ⟨rfl, (h3).far hg4 (by intro e; have := Option.some.inj e; omega), gnew (grown_of b3 _) hg4 (by omega)⟩
set_option maxHeartbeats 6400000 in
set_option maxRecDepth 100000 in
theorem refWrite_drop (fb : Nat) (rs : List Int) (t : Tup) (v : Int) (hv0 : 0 ≤ v) (hv1 : v ≤ 4294967295) (hr : regOf t = none) (k1 : dropsB t = true) (w : World) (h : IsFile w 68 fb rs) :
    Calls Tryd.prog 25 #[.pointer (some ⟨fb, 0, none⟩), (.agg #[.int .i64 t.crn, .int .i64 t.op1, .int .i64 t.crm, .int .i64 t.op2]), .bool true, .int .u32 v] w (WritePost 68 fb (dropA (t.op2 + 1) v, 0, rs) w) := by
  have RG0 := refRegister_is t ((w.alloc (.cells #[.int .i64 t.crn, .int .i64 t.op1, .int .i64 t.crm, .int .i64 t.op2] 31)).alloc (.cells zactA 42))
  unfold regRes at RG0
  rw [hr] at RG0
  have RG := Lib.hid RG0
  have BR := Lib.hid (fun W => barrier_is t W)
  have OP := Lib.hid (fun W => Operation_is t W)
  clear RG0
  have h0 := (h.alloc (.cells #[.int .i64 t.crn, .int .i64 t.op1, .int .i64 t.crm, .int .i64 t.op2] 31)).alloc (.cells zactA 42)
  have t0 : Blok ((w.alloc (.cells #[.int .i64 t.crn, .int .i64 t.op1, .int .i64 t.crm, .int .i64 t.op2] 31)).alloc (.cells zactA 42)) w.heap.size 31 #[.int .i64 t.crn, .int .i64 t.op1, .int .i64 t.crm, .int .i64 t.op2].toList := (Blok.new w _ _).alloc _
  have z0 : Blok ((w.alloc (.cells #[.int .i64 t.crn, .int .i64 t.op1, .int .i64 t.crm, .int .i64 t.op2] 31)).alloc (.cells zactA 42)) (w.heap.size + 1) 42 zactA.toList := by
    have := Blok.new (w.alloc (.cells #[.int .i64 t.crn, .int .i64 t.op1, .int .i64 t.crm, .int .i64 t.op2] 31)) 42 zactA.toList
    have e : (w.alloc (.cells #[.int .i64 t.crn, .int .i64 t.op1, .int .i64 t.crm, .int .i64 t.op2] 31)).heap.size = w.heap.size + 1 := by simp
    rwa [e] at this
  have b0 : Below w.heap.size w ((w.alloc (.cells #[.int .i64 t.crn, .int .i64 t.op1, .int .i64 t.crm, .int .i64 t.op2] 31)).alloc (.cells zactA 42)) := ((Below.refl _ _).alloc (Nat.le_refl _) _).alloc (by simp) _
  have hfl := h.b.lt
  have ka : asksB t = false := drops_asks k1
  have ho : opB t = true := by unfold opB; simp [k1]
  have ha : actA t v = dropA (t.op2 + 1) v := by unfold actA; simp [k1, ka]
  have AC := Lib.hid (fun W => act_is t v hv0 hv1 W)
  have HA := Lib.hid ha
  clear ha hr hv0 hv1 k1 ka
  go_enter Tryd.func25, Tryd.ntmps25
  go_wp2_with fail
  refine (RG.out).mono ?_
  rintro e w11 ⟨rfl, hB1⟩
  have t1 := t0.below hB1 t0.lt
  have z1 := z0.below hB1 z0.lt
  have h1 := h0.below hB1
  have b1 := bthen b0 hB1
  have q1 := b1.size
  have l1 := t1.lt
  (have x10 : (w11).cell? ⟨w.heap.size, 0, none⟩ = some (.int .i64 t.crn) := (t1).cell 0; have x11 : (w11).cell? ⟨w.heap.size, 1, none⟩ = some (.int .i64 t.op1) := (t1).cell 1; have x12 : (w11).cell? ⟨w.heap.size, 2, none⟩ = some (.int .i64 t.crm) := (t1).cell 2; have x13 : (w11).cell? ⟨w.heap.size, 3, none⟩ = some (.int .i64 t.op2) := (t1).cell 3)
  go_wp2_with fail
  refine (OP.out _).mono ?_
  rintro e w12 ⟨rfl, hB2⟩
  rw [ho]
  have t2 := t1.below hB2 t1.lt
  have z2 := z1.below hB2 z1.lt
  have h2 := h1.below hB2
  have b2 := bthen b1 hB2
  have q2 := b2.size
  have l2 := t2.lt
  (have x20 : (w12).cell? ⟨w.heap.size, 0, none⟩ = some (.int .i64 t.crn) := (t2).cell 0; have x21 : (w12).cell? ⟨w.heap.size, 1, none⟩ = some (.int .i64 t.op1) := (t2).cell 1; have x22 : (w12).cell? ⟨w.heap.size, 2, none⟩ = some (.int .i64 t.crm) := (t2).cell 2; have x23 : (w12).cell? ⟨w.heap.size, 3, none⟩ = some (.int .i64 t.op2) := (t2).cell 3)
  clear ho
  go_wp2_with fail
  refine (AC.out _).mono ?_
  rintro e w13 ⟨rfl, hB3⟩
  rw [HA.out]
  have z3 := z2.below hB3 z2.lt
  have h3 := h2.below hB3
  have b3 := bthen b2 hB3
  go_wp2_with (refine wpList_store_blok rfl _ (.tmp 8) (.tmp 37) rfl (w.heap.size + 1) 0 (dropA (t.op2 + 1) v) rfl rfl (z3) (by simp [zactA, dropA]) (by kernel_rfl) rfl ?_; intro w4 hb4 hg4 hz4)
  have r0 := hb4.cell 0
  have r1 := hb4.cell 1
  have r2 := hb4.cell 2
  have r3 := hb4.cell 3
  have r4 := hb4.cell 4
  have r5 := hb4.cell 5
  have r6 := hb4.cell 6
  simp [zactA, dropA] at r0 r1 r2 r3 r4 r5 r6
  refine bodyPost_ret (v := .tuple #[.agg (dropA (t.op2 + 1) v), .int .i64 0]) (by simp [results, Tryd.results25, go_sem, dropA, r0, r1, r2, r3, r4, r5, r6]) rfl ⟨rfl, (h3).far hg4 (by intro e; have := Option.some.inj e; omega), gnew (grown_of b3 _) hg4 (by omega)⟩
set_option maxHeartbeats 6400000 in
set_option maxRecDepth 100000 in
theorem refWrite_ask (fb : Nat) (rs : List Int) (t : Tup) (v : Int) (hv0 : 0 ≤ v) (hv1 : v ≤ 4294967295) (hr : regOf t = none) (k1 : asksB t = true) (w : World) (h : IsFile w 68 fb rs) :
    Calls Tryd.prog 25 #[.pointer (some ⟨fb, 0, none⟩), (.agg #[.int .i64 t.crn, .int .i64 t.op1, .int .i64 t.crm, .int .i64 t.op2]), .bool true, .int .u32 v] w (WritePost 68 fb (askA t.op2 v, 0, rs) w) := by
  have RG0 := refRegister_is t ((w.alloc (.cells #[.int .i64 t.crn, .int .i64 t.op1, .int .i64 t.crm, .int .i64 t.op2] 31)).alloc (.cells zactA 42))
  unfold regRes at RG0
  rw [hr] at RG0
  have RG := Lib.hid RG0
  have BR := Lib.hid (fun W => barrier_is t W)
  have OP := Lib.hid (fun W => Operation_is t W)
  clear RG0
  have h0 := (h.alloc (.cells #[.int .i64 t.crn, .int .i64 t.op1, .int .i64 t.crm, .int .i64 t.op2] 31)).alloc (.cells zactA 42)
  have t0 : Blok ((w.alloc (.cells #[.int .i64 t.crn, .int .i64 t.op1, .int .i64 t.crm, .int .i64 t.op2] 31)).alloc (.cells zactA 42)) w.heap.size 31 #[.int .i64 t.crn, .int .i64 t.op1, .int .i64 t.crm, .int .i64 t.op2].toList := (Blok.new w _ _).alloc _
  have z0 : Blok ((w.alloc (.cells #[.int .i64 t.crn, .int .i64 t.op1, .int .i64 t.crm, .int .i64 t.op2] 31)).alloc (.cells zactA 42)) (w.heap.size + 1) 42 zactA.toList := by
    have := Blok.new (w.alloc (.cells #[.int .i64 t.crn, .int .i64 t.op1, .int .i64 t.crm, .int .i64 t.op2] 31)) 42 zactA.toList
    have e : (w.alloc (.cells #[.int .i64 t.crn, .int .i64 t.op1, .int .i64 t.crm, .int .i64 t.op2] 31)).heap.size = w.heap.size + 1 := by simp
    rwa [e] at this
  have b0 : Below w.heap.size w ((w.alloc (.cells #[.int .i64 t.crn, .int .i64 t.op1, .int .i64 t.crm, .int .i64 t.op2] 31)).alloc (.cells zactA 42)) := ((Below.refl _ _).alloc (Nat.le_refl _) _).alloc (by simp) _
  have hfl := h.b.lt
  have ho : opB t = true := by unfold opB; simp [k1]
  have ha : actA t v = askA t.op2 v := by unfold actA; simp [k1]
  have AC := Lib.hid (fun W => act_is t v hv0 hv1 W)
  have HA := Lib.hid ha
  clear ha hr hv0 hv1 k1
  go_enter Tryd.func25, Tryd.ntmps25
  go_wp2_with fail
  refine (RG.out).mono ?_
  rintro e w11 ⟨rfl, hB1⟩
  have t1 := t0.below hB1 t0.lt
  have z1 := z0.below hB1 z0.lt
  have h1 := h0.below hB1
  have b1 := bthen b0 hB1
  have q1 := b1.size
  have l1 := t1.lt
  (have x10 : (w11).cell? ⟨w.heap.size, 0, none⟩ = some (.int .i64 t.crn) := (t1).cell 0; have x11 : (w11).cell? ⟨w.heap.size, 1, none⟩ = some (.int .i64 t.op1) := (t1).cell 1; have x12 : (w11).cell? ⟨w.heap.size, 2, none⟩ = some (.int .i64 t.crm) := (t1).cell 2; have x13 : (w11).cell? ⟨w.heap.size, 3, none⟩ = some (.int .i64 t.op2) := (t1).cell 3)
  go_wp2_with fail
  refine (OP.out _).mono ?_
  rintro e w12 ⟨rfl, hB2⟩
  rw [ho]
  have t2 := t1.below hB2 t1.lt
  have z2 := z1.below hB2 z1.lt
  have h2 := h1.below hB2
  have b2 := bthen b1 hB2
  have q2 := b2.size
  have l2 := t2.lt
  (have x20 : (w12).cell? ⟨w.heap.size, 0, none⟩ = some (.int .i64 t.crn) := (t2).cell 0; have x21 : (w12).cell? ⟨w.heap.size, 1, none⟩ = some (.int .i64 t.op1) := (t2).cell 1; have x22 : (w12).cell? ⟨w.heap.size, 2, none⟩ = some (.int .i64 t.crm) := (t2).cell 2; have x23 : (w12).cell? ⟨w.heap.size, 3, none⟩ = some (.int .i64 t.op2) := (t2).cell 3)
  clear ho
  go_wp2_with fail
  refine (AC.out _).mono ?_
  rintro e w13 ⟨rfl, hB3⟩
  rw [HA.out]
  have z3 := z2.below hB3 z2.lt
  have h3 := h2.below hB3
  have b3 := bthen b2 hB3
  go_wp2_with (refine wpList_store_blok rfl _ (.tmp 8) (.tmp 37) rfl (w.heap.size + 1) 0 (askA t.op2 v) rfl rfl (z3) (by simp [zactA, askA]) (by kernel_rfl) rfl ?_; intro w4 hb4 hg4 hz4)
  have r0 := hb4.cell 0
  have r1 := hb4.cell 1
  have r2 := hb4.cell 2
  have r3 := hb4.cell 3
  have r4 := hb4.cell 4
  have r5 := hb4.cell 5
  have r6 := hb4.cell 6
  simp [zactA, askA] at r0 r1 r2 r3 r4 r5 r6
  refine bodyPost_ret (v := .tuple #[.agg (askA t.op2 v), .int .i64 0]) (by simp [results, Tryd.results25, go_sem, askA, r0, r1, r2, r3, r4, r5, r6]) rfl ⟨rfl, (h3).far hg4 (by intro e; have := Option.some.inj e; omega), gnew (grown_of b3 _) hg4 (by omega)⟩
set_option maxHeartbeats 6400000 in
set_option maxRecDepth 100000 in
theorem refWrite_bar_true (fb : Nat) (rs : List Int) (t : Tup) (v : Int) (hv0 : 0 ≤ v) (hv1 : v ≤ 4294967295) (hr : regOf t = none) (k1 : barB t = true) (w : World) (h : IsFile w 68 fb rs) :
    Calls Tryd.prog 25 #[.pointer (some ⟨fb, 0, none⟩), (.agg #[.int .i64 t.crn, .int .i64 t.op1, .int .i64 t.crm, .int .i64 t.op2]), .bool true, .int .u32 v] w (WritePost 68 fb (zactA, 0, rs) w) := by
  have RG0 := refRegister_is t ((w.alloc (.cells #[.int .i64 t.crn, .int .i64 t.op1, .int .i64 t.crm, .int .i64 t.op2] 31)).alloc (.cells zactA 42))
  unfold regRes at RG0
  rw [hr] at RG0
  have RG := Lib.hid RG0
  have BR := Lib.hid (fun W => barrier_is t W)
  have OP := Lib.hid (fun W => Operation_is t W)
  clear RG0
  have h0 := (h.alloc (.cells #[.int .i64 t.crn, .int .i64 t.op1, .int .i64 t.crm, .int .i64 t.op2] 31)).alloc (.cells zactA 42)
  have t0 : Blok ((w.alloc (.cells #[.int .i64 t.crn, .int .i64 t.op1, .int .i64 t.crm, .int .i64 t.op2] 31)).alloc (.cells zactA 42)) w.heap.size 31 #[.int .i64 t.crn, .int .i64 t.op1, .int .i64 t.crm, .int .i64 t.op2].toList := (Blok.new w _ _).alloc _
  have z0 : Blok ((w.alloc (.cells #[.int .i64 t.crn, .int .i64 t.op1, .int .i64 t.crm, .int .i64 t.op2] 31)).alloc (.cells zactA 42)) (w.heap.size + 1) 42 zactA.toList := by
    have := Blok.new (w.alloc (.cells #[.int .i64 t.crn, .int .i64 t.op1, .int .i64 t.crm, .int .i64 t.op2] 31)) 42 zactA.toList
    have e : (w.alloc (.cells #[.int .i64 t.crn, .int .i64 t.op1, .int .i64 t.crm, .int .i64 t.op2] 31)).heap.size = w.heap.size + 1 := by simp
    rwa [e] at this
  have b0 : Below w.heap.size w ((w.alloc (.cells #[.int .i64 t.crn, .int .i64 t.op1, .int .i64 t.crm, .int .i64 t.op2] 31)).alloc (.cells zactA 42)) := ((Below.refl _ _).alloc (Nat.le_refl _) _).alloc (by simp) _
  have hfl := h.b.lt
  have ka := bar_no k1
  have ho : opB t = true := by unfold opB; simp [k1]
  have ha : actA t v = zactA := by unfold actA; simp [ka.1, ka.2]
  have AC := Lib.hid (fun W => act_is t v hv0 hv1 W)
  have HA := Lib.hid ha
  clear ha hr hv0 hv1 k1 ka
  go_enter Tryd.func25, Tryd.ntmps25
  go_wp2_with fail
  refine (RG.out).mono ?_
  rintro e w11 ⟨rfl, hB1⟩
  have t1 := t0.below hB1 t0.lt
  have z1 := z0.below hB1 z0.lt
  have h1 := h0.below hB1
  have b1 := bthen b0 hB1
  have q1 := b1.size
  have l1 := t1.lt
  (have x10 : (w11).cell? ⟨w.heap.size, 0, none⟩ = some (.int .i64 t.crn) := (t1).cell 0; have x11 : (w11).cell? ⟨w.heap.size, 1, none⟩ = some (.int .i64 t.op1) := (t1).cell 1; have x12 : (w11).cell? ⟨w.heap.size, 2, none⟩ = some (.int .i64 t.crm) := (t1).cell 2; have x13 : (w11).cell? ⟨w.heap.size, 3, none⟩ = some (.int .i64 t.op2) := (t1).cell 3)
  go_wp2_with fail
  refine (OP.out _).mono ?_
  rintro e w12 ⟨rfl, hB2⟩
  rw [ho]
  have t2 := t1.below hB2 t1.lt
  have z2 := z1.below hB2 z1.lt
  have h2 := h1.below hB2
  have b2 := bthen b1 hB2
  have q2 := b2.size
  have l2 := t2.lt
  (have x20 : (w12).cell? ⟨w.heap.size, 0, none⟩ = some (.int .i64 t.crn) := (t2).cell 0; have x21 : (w12).cell? ⟨w.heap.size, 1, none⟩ = some (.int .i64 t.op1) := (t2).cell 1; have x22 : (w12).cell? ⟨w.heap.size, 2, none⟩ = some (.int .i64 t.crm) := (t2).cell 2; have x23 : (w12).cell? ⟨w.heap.size, 3, none⟩ = some (.int .i64 t.op2) := (t2).cell 3)
  clear ho
  go_wp2_with fail
  refine (AC.out _).mono ?_
  rintro e w13 ⟨rfl, hB3⟩
  rw [HA.out]
  have z3 := z2.below hB3 z2.lt
  have h3 := h2.below hB3
  have b3 := bthen b2 hB3
  go_wp2_with (refine wpList_store_blok rfl _ (.tmp 8) (.tmp 37) rfl (w.heap.size + 1) 0 (zactA) rfl rfl (z3) (by simp [zactA]) (by kernel_rfl) rfl ?_; intro w4 hb4 hg4 hz4)
  have r0 := hb4.cell 0
  have r1 := hb4.cell 1
  have r2 := hb4.cell 2
  have r3 := hb4.cell 3
  have r4 := hb4.cell 4
  have r5 := hb4.cell 5
  have r6 := hb4.cell 6
  simp [zactA] at r0 r1 r2 r3 r4 r5 r6
  refine bodyPost_ret (v := .tuple #[.agg (zactA), .int .i64 0]) (by simp [results, Tryd.results25, go_sem, zactA, r0, r1, r2, r3, r4, r5, r6]) rfl ⟨rfl, (h3).far hg4 (by intro e; have := Option.some.inj e; omega), gnew (grown_of b3 _) hg4 (by omega)⟩
set_option maxHeartbeats 6400000 in
set_option maxRecDepth 100000 in
theorem refWrite_bar_false (fb : Nat) (rs : List Int) (t : Tup) (v : Int) (hv0 : 0 ≤ v) (hv1 : v ≤ 4294967295) (hr : regOf t = none) (k1 : barB t = true) (w : World) (h : IsFile w 68 fb rs) :
    Calls Tryd.prog 25 #[.pointer (some ⟨fb, 0, none⟩), (.agg #[.int .i64 t.crn, .int .i64 t.op1, .int .i64 t.crm, .int .i64 t.op2]), .bool false, .int .u32 v] w (WritePost 68 fb (zactA, 0, rs) w) := by
  have RG0 := refRegister_is t ((w.alloc (.cells #[.int .i64 t.crn, .int .i64 t.op1, .int .i64 t.crm, .int .i64 t.op2] 31)).alloc (.cells zactA 42))
  unfold regRes at RG0
  rw [hr] at RG0
  have RG := Lib.hid RG0
  have BR := Lib.hid (fun W => barrier_is t W)
  have OP := Lib.hid (fun W => Operation_is t W)
  clear RG0
  have h0 := (h.alloc (.cells #[.int .i64 t.crn, .int .i64 t.op1, .int .i64 t.crm, .int .i64 t.op2] 31)).alloc (.cells zactA 42)
  have t0 : Blok ((w.alloc (.cells #[.int .i64 t.crn, .int .i64 t.op1, .int .i64 t.crm, .int .i64 t.op2] 31)).alloc (.cells zactA 42)) w.heap.size 31 #[.int .i64 t.crn, .int .i64 t.op1, .int .i64 t.crm, .int .i64 t.op2].toList := (Blok.new w _ _).alloc _
  have z0 : Blok ((w.alloc (.cells #[.int .i64 t.crn, .int .i64 t.op1, .int .i64 t.crm, .int .i64 t.op2] 31)).alloc (.cells zactA 42)) (w.heap.size + 1) 42 zactA.toList := by
    have := Blok.new (w.alloc (.cells #[.int .i64 t.crn, .int .i64 t.op1, .int .i64 t.crm, .int .i64 t.op2] 31)) 42 zactA.toList
    have e : (w.alloc (.cells #[.int .i64 t.crn, .int .i64 t.op1, .int .i64 t.crm, .int .i64 t.op2] 31)).heap.size = w.heap.size + 1 := by simp
    rwa [e] at this
  have b0 : Below w.heap.size w ((w.alloc (.cells #[.int .i64 t.crn, .int .i64 t.op1, .int .i64 t.crm, .int .i64 t.op2] 31)).alloc (.cells zactA 42)) := ((Below.refl _ _).alloc (Nat.le_refl _) _).alloc (by simp) _
  have hfl := h.b.lt
  have ka := bar_no k1
  have ho : opB t = true := by unfold opB; simp [k1]
  have ha : actA t v = zactA := by unfold actA; simp [ka.1, ka.2]
  have AC := Lib.hid (fun W => act_is t v hv0 hv1 W)
  have HA := Lib.hid ha
  clear ha hr hv0 hv1 ka
  go_enter Tryd.func25, Tryd.ntmps25
  go_wp2_with fail
  refine (RG.out).mono ?_
  rintro e w11 ⟨rfl, hB1⟩
  have t1 := t0.below hB1 t0.lt
  have z1 := z0.below hB1 z0.lt
  have h1 := h0.below hB1
  have b1 := bthen b0 hB1
  have q1 := b1.size
  have l1 := t1.lt
  (have x10 : (w11).cell? ⟨w.heap.size, 0, none⟩ = some (.int .i64 t.crn) := (t1).cell 0; have x11 : (w11).cell? ⟨w.heap.size, 1, none⟩ = some (.int .i64 t.op1) := (t1).cell 1; have x12 : (w11).cell? ⟨w.heap.size, 2, none⟩ = some (.int .i64 t.crm) := (t1).cell 2; have x13 : (w11).cell? ⟨w.heap.size, 3, none⟩ = some (.int .i64 t.op2) := (t1).cell 3)
  go_wp2_with fail
  refine (OP.out _).mono ?_
  rintro e w12 ⟨rfl, hB2⟩
  rw [ho]
  have t2 := t1.below hB2 t1.lt
  have z2 := z1.below hB2 z1.lt
  have h2 := h1.below hB2
  have b2 := bthen b1 hB2
  have q2 := b2.size
  have l2 := t2.lt
  (have x20 : (w12).cell? ⟨w.heap.size, 0, none⟩ = some (.int .i64 t.crn) := (t2).cell 0; have x21 : (w12).cell? ⟨w.heap.size, 1, none⟩ = some (.int .i64 t.op1) := (t2).cell 1; have x22 : (w12).cell? ⟨w.heap.size, 2, none⟩ = some (.int .i64 t.crm) := (t2).cell 2; have x23 : (w12).cell? ⟨w.heap.size, 3, none⟩ = some (.int .i64 t.op2) := (t2).cell 3)
  go_wp2_with fail
  refine (BR.out _).mono ?_
  rintro e w13 ⟨rfl, hB3⟩
  rw [k1]
  have t3 := t2.below hB3 t2.lt
  have z3 := z2.below hB3 z2.lt
  have h3 := h2.below hB3
  have b3 := bthen b2 hB3
  have q3 := b3.size
  have l3 := t3.lt
  (have x30 : (w13).cell? ⟨w.heap.size, 0, none⟩ = some (.int .i64 t.crn) := (t3).cell 0; have x31 : (w13).cell? ⟨w.heap.size, 1, none⟩ = some (.int .i64 t.op1) := (t3).cell 1; have x32 : (w13).cell? ⟨w.heap.size, 2, none⟩ = some (.int .i64 t.crm) := (t3).cell 2; have x33 : (w13).cell? ⟨w.heap.size, 3, none⟩ = some (.int .i64 t.op2) := (t3).cell 3)
  clear ho k1
  go_wp2_with fail
  refine (AC.out _).mono ?_
  rintro e w14 ⟨rfl, hB4⟩
  rw [HA.out]
  have z4 := z3.below hB4 z3.lt
  have h4 := h3.below hB4
  have b4 := bthen b3 hB4
  go_wp2_with (refine wpList_store_blok rfl _ (.tmp 8) (.tmp 37) rfl (w.heap.size + 1) 0 (zactA) rfl rfl (z4) (by simp [zactA]) (by kernel_rfl) rfl ?_; intro w4 hb4 hg4 hz4)
  have r0 := hb4.cell 0
  have r1 := hb4.cell 1
  have r2 := hb4.cell 2
  have r3 := hb4.cell 3
  have r4 := hb4.cell 4
  have r5 := hb4.cell 5
  have r6 := hb4.cell 6
  simp [zactA] at r0 r1 r2 r3 r4 r5 r6
  refine bodyPost_ret (v := .tuple #[.agg (zactA), .int .i64 0]) (by simp [results, Tryd.results25, go_sem, zactA, r0, r1, r2, r3, r4, r5, r6]) rfl ⟨rfl, (h4).far hg4 (by intro e; have := Option.some.inj e; omega), gnew (grown_of b4 _) hg4 (by omega)⟩
set_option maxHeartbeats 6400000 in
set_option maxRecDepth 100000 in
theorem refWrite_reg_false (fb : Nat) (rs : List Int) (t : Tup) (v : Int) (i : Nat) (hr : regOf t = some i) (w : World) (h : IsFile w 68 fb rs) :
    Calls Tryd.prog 25 #[.pointer (some ⟨fb, 0, none⟩), (.agg #[.int .i64 t.crn, .int .i64 t.op1, .int .i64 t.crm, .int .i64 t.op2]), .bool false, .int .u32 v] w (WritePost 68 fb (zactA, 81, rs) w) := by
  have RG0 := refRegister_is t ((w.alloc (.cells #[.int .i64 t.crn, .int .i64 t.op1, .int .i64 t.crm, .int .i64 t.op2] 31)).alloc (.cells zactA 42))
  unfold regRes at RG0
  rw [hr] at RG0
  have RG := Lib.hid RG0
  have BR := Lib.hid (fun W => barrier_is t W)
  have OP := Lib.hid (fun W => Operation_is t W)
  clear RG0
  have h0 := (h.alloc (.cells #[.int .i64 t.crn, .int .i64 t.op1, .int .i64 t.crm, .int .i64 t.op2] 31)).alloc (.cells zactA 42)
  have t0 : Blok ((w.alloc (.cells #[.int .i64 t.crn, .int .i64 t.op1, .int .i64 t.crm, .int .i64 t.op2] 31)).alloc (.cells zactA 42)) w.heap.size 31 #[.int .i64 t.crn, .int .i64 t.op1, .int .i64 t.crm, .int .i64 t.op2].toList := (Blok.new w _ _).alloc _
  have z0 : Blok ((w.alloc (.cells #[.int .i64 t.crn, .int .i64 t.op1, .int .i64 t.crm, .int .i64 t.op2] 31)).alloc (.cells zactA 42)) (w.heap.size + 1) 42 zactA.toList := by
    have := Blok.new (w.alloc (.cells #[.int .i64 t.crn, .int .i64 t.op1, .int .i64 t.crm, .int .i64 t.op2] 31)) 42 zactA.toList
    have e : (w.alloc (.cells #[.int .i64 t.crn, .int .i64 t.op1, .int .i64 t.crm, .int .i64 t.op2] 31)).heap.size = w.heap.size + 1 := by simp
    rwa [e] at this
  have b0 : Below w.heap.size w ((w.alloc (.cells #[.int .i64 t.crn, .int .i64 t.op1, .int .i64 t.crm, .int .i64 t.op2] 31)).alloc (.cells zactA 42)) := ((Below.refl _ _).alloc (Nat.le_refl _) _).alloc (by simp) _
  have hfl := h.b.lt
  have k3 := (reg_none hr).2.2
  clear hr
  go_enter Tryd.func25, Tryd.ntmps25
  go_wp2_with fail
  refine (RG.out).mono ?_
  rintro e w11 ⟨rfl, hB1⟩
  have t1 := t0.below hB1 t0.lt
  have z1 := z0.below hB1 z0.lt
  have h1 := h0.below hB1
  have b1 := bthen b0 hB1
  have q1 := b1.size
  have l1 := t1.lt
  (have x10 : (w11).cell? ⟨w.heap.size, 0, none⟩ = some (.int .i64 t.crn) := (t1).cell 0; have x11 : (w11).cell? ⟨w.heap.size, 1, none⟩ = some (.int .i64 t.op1) := (t1).cell 1; have x12 : (w11).cell? ⟨w.heap.size, 2, none⟩ = some (.int .i64 t.crm) := (t1).cell 2; have x13 : (w11).cell? ⟨w.heap.size, 3, none⟩ = some (.int .i64 t.op2) := (t1).cell 3)
  go_wp2_with fail
  refine (BR.out _).mono ?_
  rintro e w12 ⟨rfl, hB2⟩
  rw [k3]
  have t2 := t1.below hB2 t1.lt
  have z2 := z1.below hB2 z1.lt
  have h2 := h1.below hB2
  have b2 := bthen b1 hB2
  have q2 := b2.size
  have l2 := t2.lt
  (have x20 : (w12).cell? ⟨w.heap.size, 0, none⟩ = some (.int .i64 t.crn) := (t2).cell 0; have x21 : (w12).cell? ⟨w.heap.size, 1, none⟩ = some (.int .i64 t.op1) := (t2).cell 1; have x22 : (w12).cell? ⟨w.heap.size, 2, none⟩ = some (.int .i64 t.crm) := (t2).cell 2; have x23 : (w12).cell? ⟨w.heap.size, 3, none⟩ = some (.int .i64 t.op2) := (t2).cell 3)
  clear k3
  go_wp2_with (refine wpList_store_blok rfl _ (.tmp 8) (.tmp 32) rfl (w.heap.size + 1) 0 (zactA) rfl rfl (z2) (by simp [zactA]) (by kernel_rfl) rfl ?_; intro w4 hb4 hg4 hz4)
  have r0 := hb4.cell 0
  have r1 := hb4.cell 1
  have r2 := hb4.cell 2
  have r3 := hb4.cell 3
  have r4 := hb4.cell 4
  have r5 := hb4.cell 5
  have r6 := hb4.cell 6
  simp [zactA] at r0 r1 r2 r3 r4 r5 r6
  refine bodyPost_ret (v := .tuple #[.agg (zactA), .int .i64 81]) (by simp [results, Tryd.results25, go_sem, zactA, r0, r1, r2, r3, r4, r5, r6]) rfl ⟨rfl, (h2).far hg4 (by intro e; have := Option.some.inj e; omega), gnew (grown_of b2 _) hg4 (by omega)⟩
set_option maxHeartbeats 6400000 in
set_option maxRecDepth 100000 in
theorem refWrite_reg_lo (fb : Nat) (rs : List Int) (t : Tup) (v : Int) (i : Nat) (hi : i < 13) (hn : i ≤ 4) (hr : regOf t = some i) (w : World) (h : IsFile w 68 fb rs) :
    Calls Tryd.prog 25 #[.pointer (some ⟨fb, 0, none⟩), (.agg #[.int .i64 t.crn, .int .i64 t.op1, .int .i64 t.crm, .int .i64 t.op2]), .bool true, .int .u32 v] w (WritePost 68 fb (regA, 0, rs.set i (keep i v)) w) := by
  have RG0 := refRegister_is t ((w.alloc (.cells #[.int .i64 t.crn, .int .i64 t.op1, .int .i64 t.crm, .int .i64 t.op2] 31)).alloc (.cells zactA 42))
  unfold regRes at RG0
  rw [hr] at RG0
  have RG := Lib.hid RG0
  have BR := Lib.hid (fun W => barrier_is t W)
  have OP := Lib.hid (fun W => Operation_is t W)
  clear RG0
  have h0 := (h.alloc (.cells #[.int .i64 t.crn, .int .i64 t.op1, .int .i64 t.crm, .int .i64 t.op2] 31)).alloc (.cells zactA 42)
  have t0 : Blok ((w.alloc (.cells #[.int .i64 t.crn, .int .i64 t.op1, .int .i64 t.crm, .int .i64 t.op2] 31)).alloc (.cells zactA 42)) w.heap.size 31 #[.int .i64 t.crn, .int .i64 t.op1, .int .i64 t.crm, .int .i64 t.op2].toList := (Blok.new w _ _).alloc _
  have z0 : Blok ((w.alloc (.cells #[.int .i64 t.crn, .int .i64 t.op1, .int .i64 t.crm, .int .i64 t.op2] 31)).alloc (.cells zactA 42)) (w.heap.size + 1) 42 zactA.toList := by
    have := Blok.new (w.alloc (.cells #[.int .i64 t.crn, .int .i64 t.op1, .int .i64 t.crm, .int .i64 t.op2] 31)) 42 zactA.toList
    have e : (w.alloc (.cells #[.int .i64 t.crn, .int .i64 t.op1, .int .i64 t.crm, .int .i64 t.op2] 31)).heap.size = w.heap.size + 1 := by simp
    rwa [e] at this
  have b0 : Below w.heap.size w ((w.alloc (.cells #[.int .i64 t.crn, .int .i64 t.op1, .int .i64 t.crm, .int .i64 t.op2] 31)).alloc (.cells zactA 42)) := ((Below.refl _ _).alloc (Nat.le_refl _) _).alloc (by simp) _
  have hfl := h.b.lt
  have i0 : (0 : Int) ≤ ↑i := by omega
  have i1 : (↑i : Int) < 13 := by omega
  have f1 : decide ((i : Int) ≤ 4) = true := decide_eq_true (by omega)
  have KP := Lib.hid (fun W => refKept_is i hi W)
  clear hr
  go_enter Tryd.func25, Tryd.ntmps25
  go_wp2_with fail
  refine (RG.out).mono ?_
  rintro e w11 ⟨rfl, hB1⟩
  have t1 := t0.below hB1 t0.lt
  have z1 := z0.below hB1 z0.lt
  have h1 := h0.below hB1
  have b1 := bthen b0 hB1
  have q1 := b1.size
  have l1 := t1.lt
  (have x10 : (w11).cell? ⟨w.heap.size, 0, none⟩ = some (.int .i64 t.crn) := (t1).cell 0; have x11 : (w11).cell? ⟨w.heap.size, 1, none⟩ = some (.int .i64 t.op1) := (t1).cell 1; have x12 : (w11).cell? ⟨w.heap.size, 2, none⟩ = some (.int .i64 t.crm) := (t1).cell 2; have x13 : (w11).cell? ⟨w.heap.size, 3, none⟩ = some (.int .i64 t.op2) := (t1).cell 3)
  have hd := h1.drew
  have zd := z1.drewN 1
  go_wp2_with fail
  go_region_held3 (fun w' => GrownS w11 w' (fun b => b = fb))
    (first | with_reducible assumption | exact GrownS.drew _ _ | exact g3.one (grown_setCell w3 fb i _) rfl)
    (first | (go_at_call 34; refine (KP.out _).mono ?_; rintro e w3 ⟨rfl, hb3⟩; have g3 : GrownS w11 w3 (fun b => b = fb) := (GrownS.drew w11 _).below hb3; have h3 := hd.below hb3; have z3 := zd.below hb3 zd.lt; have c3 := h3.cell i hi; have f3 : w3.frozen? ⟨fb, i, none⟩ = false := h3.b.frozen i; have b3 : Below w.heap.size w w3 := bthen (bdrew b1) hb3))
  all_goals
    have zz := z3.far (p := ⟨fb, i, none⟩) (by simp; omega) (.int .u32 (keep i v))
    have hh := h3.put i (keep i v)
    have gg := gtrans (grown_of b3 (some fb)) (grown_setCell w3 fb i (.int .u32 (keep i v)))
    go_wp2_with (refine wpList_store_blok rfl _ (.tmp 8) (.tmp 53) rfl (w.heap.size + 1) 0 (regA) rfl rfl (zz) (by simp [zactA, regA]) (by kernel_rfl) rfl ?_; intro w4 hb4 hg4 hz4)
    have r0 := hb4.cell 0
    have r1 := hb4.cell 1
    have r2 := hb4.cell 2
    have r3 := hb4.cell 3
    have r4 := hb4.cell 4
    have r5 := hb4.cell 5
    have r6 := hb4.cell 6
    simp [zactA, regA] at r0 r1 r2 r3 r4 r5 r6
    refine bodyPost_ret (v := .tuple #[.agg (regA), .int .i64 0]) (by simp [results, Tryd.results25, go_sem, regA, r0, r1, r2, r3, r4, r5, r6]) rfl ⟨rfl, (hh).far hg4 (by intro e; have := Option.some.inj e; omega), gnew (gg) hg4 (by omega)⟩
set_option maxHeartbeats 6400000 in
set_option maxRecDepth 100000 in
theorem refWrite_reg_hi (fb : Nat) (rs : List Int) (t : Tup) (v : Int) (i : Nat) (hi : i < 13) (hn : 10 ≤ i) (hr : regOf t = some i) (w : World) (h : IsFile w 68 fb rs) :
    Calls Tryd.prog 25 #[.pointer (some ⟨fb, 0, none⟩), (.agg #[.int .i64 t.crn, .int .i64 t.op1, .int .i64 t.crm, .int .i64 t.op2]), .bool true, .int .u32 v] w (WritePost 68 fb (regA, 0, rs.set i (keep i v)) w) := by
  have RG0 := refRegister_is t ((w.alloc (.cells #[.int .i64 t.crn, .int .i64 t.op1, .int .i64 t.crm, .int .i64 t.op2] 31)).alloc (.cells zactA 42))
  unfold regRes at RG0
  rw [hr] at RG0
  have RG := Lib.hid RG0
  have BR := Lib.hid (fun W => barrier_is t W)
  have OP := Lib.hid (fun W => Operation_is t W)
  clear RG0
  have h0 := (h.alloc (.cells #[.int .i64 t.crn, .int .i64 t.op1, .int .i64 t.crm, .int .i64 t.op2] 31)).alloc (.cells zactA 42)
  have t0 : Blok ((w.alloc (.cells #[.int .i64 t.crn, .int .i64 t.op1, .int .i64 t.crm, .int .i64 t.op2] 31)).alloc (.cells zactA 42)) w.heap.size 31 #[.int .i64 t.crn, .int .i64 t.op1, .int .i64 t.crm, .int .i64 t.op2].toList := (Blok.new w _ _).alloc _
  have z0 : Blok ((w.alloc (.cells #[.int .i64 t.crn, .int .i64 t.op1, .int .i64 t.crm, .int .i64 t.op2] 31)).alloc (.cells zactA 42)) (w.heap.size + 1) 42 zactA.toList := by
    have := Blok.new (w.alloc (.cells #[.int .i64 t.crn, .int .i64 t.op1, .int .i64 t.crm, .int .i64 t.op2] 31)) 42 zactA.toList
    have e : (w.alloc (.cells #[.int .i64 t.crn, .int .i64 t.op1, .int .i64 t.crm, .int .i64 t.op2] 31)).heap.size = w.heap.size + 1 := by simp
    rwa [e] at this
  have b0 : Below w.heap.size w ((w.alloc (.cells #[.int .i64 t.crn, .int .i64 t.op1, .int .i64 t.crm, .int .i64 t.op2] 31)).alloc (.cells zactA 42)) := ((Below.refl _ _).alloc (Nat.le_refl _) _).alloc (by simp) _
  have hfl := h.b.lt
  have i0 : (0 : Int) ≤ ↑i := by omega
  have i1 : (↑i : Int) < 13 := by omega
  have f1 : decide ((i : Int) ≤ 4) = false := decide_eq_false (by omega)
  have f2 : decide ((i : Int) ≥ 10) = true := decide_eq_true (by omega)
  have KP := Lib.hid (fun W => refKept_is i hi W)
  clear hr
  go_enter Tryd.func25, Tryd.ntmps25
  go_wp2_with fail
  refine (RG.out).mono ?_
  rintro e w11 ⟨rfl, hB1⟩
  have t1 := t0.below hB1 t0.lt
  have z1 := z0.below hB1 z0.lt
  have h1 := h0.below hB1
  have b1 := bthen b0 hB1
  have q1 := b1.size
  have l1 := t1.lt
  (have x10 : (w11).cell? ⟨w.heap.size, 0, none⟩ = some (.int .i64 t.crn) := (t1).cell 0; have x11 : (w11).cell? ⟨w.heap.size, 1, none⟩ = some (.int .i64 t.op1) := (t1).cell 1; have x12 : (w11).cell? ⟨w.heap.size, 2, none⟩ = some (.int .i64 t.crm) := (t1).cell 2; have x13 : (w11).cell? ⟨w.heap.size, 3, none⟩ = some (.int .i64 t.op2) := (t1).cell 3)
  have hd := h1.drew
  have zd := z1.drewN 1
  go_wp2_with fail
  go_region_held3 (fun w' => GrownS w11 w' (fun b => b = fb))
    (first | with_reducible assumption | exact GrownS.drew _ _ | exact g3.one (grown_setCell w3 fb i _) rfl)
    (first | (go_at_call 34; refine (KP.out _).mono ?_; rintro e w3 ⟨rfl, hb3⟩; have g3 : GrownS w11 w3 (fun b => b = fb) := (GrownS.drew w11 _).below hb3; have h3 := hd.below hb3; have z3 := zd.below hb3 zd.lt; have c3 := h3.cell i hi; have f3 : w3.frozen? ⟨fb, i, none⟩ = false := h3.b.frozen i; have b3 : Below w.heap.size w w3 := bthen (bdrew b1) hb3))
  all_goals
    have zz := z3.far (p := ⟨fb, i, none⟩) (by simp; omega) (.int .u32 (keep i v))
    have hh := h3.put i (keep i v)
    have gg := gtrans (grown_of b3 (some fb)) (grown_setCell w3 fb i (.int .u32 (keep i v)))
    go_wp2_with (refine wpList_store_blok rfl _ (.tmp 8) (.tmp 53) rfl (w.heap.size + 1) 0 (regA) rfl rfl (zz) (by simp [zactA, regA]) (by kernel_rfl) rfl ?_; intro w4 hb4 hg4 hz4)
    have r0 := hb4.cell 0
    have r1 := hb4.cell 1
    have r2 := hb4.cell 2
    have r3 := hb4.cell 3
    have r4 := hb4.cell 4
    have r5 := hb4.cell 5
    have r6 := hb4.cell 6
    simp [zactA, regA] at r0 r1 r2 r3 r4 r5 r6
    refine bodyPost_ret (v := .tuple #[.agg (regA), .int .i64 0]) (by simp [results, Tryd.results25, go_sem, regA, r0, r1, r2, r3, r4, r5, r6]) rfl ⟨rfl, (hh).far hg4 (by intro e; have := Option.some.inj e; omega), gnew (gg) hg4 (by omega)⟩
set_option maxHeartbeats 6400000 in
set_option maxRecDepth 100000 in
theorem refWrite_reg_mid (fb : Nat) (rs : List Int) (t : Tup) (v : Int) (i : Nat) (hi : i < 13) (hn : 5 ≤ i) (hn2 : i ≤ 9) (hr : regOf t = some i) (w : World) (h : IsFile w 68 fb rs) :
    Calls Tryd.prog 25 #[.pointer (some ⟨fb, 0, none⟩), (.agg #[.int .i64 t.crn, .int .i64 t.op1, .int .i64 t.crm, .int .i64 t.op2]), .bool true, .int .u32 v] w (WritePost 68 fb (zactA, 0, rs.set i (keep i v)) w) := by
  have RG0 := refRegister_is t ((w.alloc (.cells #[.int .i64 t.crn, .int .i64 t.op1, .int .i64 t.crm, .int .i64 t.op2] 31)).alloc (.cells zactA 42))
  unfold regRes at RG0
  rw [hr] at RG0
  have RG := Lib.hid RG0
  have BR := Lib.hid (fun W => barrier_is t W)
  have OP := Lib.hid (fun W => Operation_is t W)
  clear RG0
  have h0 := (h.alloc (.cells #[.int .i64 t.crn, .int .i64 t.op1, .int .i64 t.crm, .int .i64 t.op2] 31)).alloc (.cells zactA 42)
  have t0 : Blok ((w.alloc (.cells #[.int .i64 t.crn, .int .i64 t.op1, .int .i64 t.crm, .int .i64 t.op2] 31)).alloc (.cells zactA 42)) w.heap.size 31 #[.int .i64 t.crn, .int .i64 t.op1, .int .i64 t.crm, .int .i64 t.op2].toList := (Blok.new w _ _).alloc _
  have z0 : Blok ((w.alloc (.cells #[.int .i64 t.crn, .int .i64 t.op1, .int .i64 t.crm, .int .i64 t.op2] 31)).alloc (.cells zactA 42)) (w.heap.size + 1) 42 zactA.toList := by
    have := Blok.new (w.alloc (.cells #[.int .i64 t.crn, .int .i64 t.op1, .int .i64 t.crm, .int .i64 t.op2] 31)) 42 zactA.toList
    have e : (w.alloc (.cells #[.int .i64 t.crn, .int .i64 t.op1, .int .i64 t.crm, .int .i64 t.op2] 31)).heap.size = w.heap.size + 1 := by simp
    rwa [e] at this
  have b0 : Below w.heap.size w ((w.alloc (.cells #[.int .i64 t.crn, .int .i64 t.op1, .int .i64 t.crm, .int .i64 t.op2] 31)).alloc (.cells zactA 42)) := ((Below.refl _ _).alloc (Nat.le_refl _) _).alloc (by simp) _
  have hfl := h.b.lt
  have i0 : (0 : Int) ≤ ↑i := by omega
  have i1 : (↑i : Int) < 13 := by omega
  have f1 : decide ((i : Int) ≤ 4) = false := decide_eq_false (by omega)
  have f2 : decide ((i : Int) ≥ 10) = false := decide_eq_false (by omega)
  have KP := Lib.hid (fun W => refKept_is i hi W)
  clear hr
  go_enter Tryd.func25, Tryd.ntmps25
  go_wp2_with fail
  refine (RG.out).mono ?_
  rintro e w11 ⟨rfl, hB1⟩
  have t1 := t0.below hB1 t0.lt
  have z1 := z0.below hB1 z0.lt
  have h1 := h0.below hB1
  have b1 := bthen b0 hB1
  have q1 := b1.size
  have l1 := t1.lt
  (have x10 : (w11).cell? ⟨w.heap.size, 0, none⟩ = some (.int .i64 t.crn) := (t1).cell 0; have x11 : (w11).cell? ⟨w.heap.size, 1, none⟩ = some (.int .i64 t.op1) := (t1).cell 1; have x12 : (w11).cell? ⟨w.heap.size, 2, none⟩ = some (.int .i64 t.crm) := (t1).cell 2; have x13 : (w11).cell? ⟨w.heap.size, 3, none⟩ = some (.int .i64 t.op2) := (t1).cell 3)
  have hd := h1.drew
  have zd := z1.drewN 1
  go_wp2_with fail
  go_region_held3 (fun w' => GrownS w11 w' (fun b => b = fb))
    (first | with_reducible assumption | exact GrownS.drew _ _ | exact g3.one (grown_setCell w3 fb i _) rfl)
    (first | (go_at_call 34; refine (KP.out _).mono ?_; rintro e w3 ⟨rfl, hb3⟩; have g3 : GrownS w11 w3 (fun b => b = fb) := (GrownS.drew w11 _).below hb3; have h3 := hd.below hb3; have z3 := zd.below hb3 zd.lt; have c3 := h3.cell i hi; have f3 : w3.frozen? ⟨fb, i, none⟩ = false := h3.b.frozen i; have b3 : Below w.heap.size w w3 := bthen (bdrew b1) hb3))
  all_goals
    have zz := z3.far (p := ⟨fb, i, none⟩) (by simp; omega) (.int .u32 (keep i v))
    have hh := h3.put i (keep i v)
    have gg := gtrans (grown_of b3 (some fb)) (grown_setCell w3 fb i (.int .u32 (keep i v)))
    go_wp2_with (refine wpList_store_blok rfl _ (.tmp 8) (.tmp 54) rfl (w.heap.size + 1) 0 (zactA) rfl rfl (zz) (by simp [zactA]) (by kernel_rfl) rfl ?_; intro w4 hb4 hg4 hz4)
    have r0 := hb4.cell 0
    have r1 := hb4.cell 1
    have r2 := hb4.cell 2
    have r3 := hb4.cell 3
    have r4 := hb4.cell 4
    have r5 := hb4.cell 5
    have r6 := hb4.cell 6
    simp [zactA] at r0 r1 r2 r3 r4 r5 r6
    refine bodyPost_ret (v := .tuple #[.agg (zactA), .int .i64 0]) (by simp [results, Tryd.results25, go_sem, zactA, r0, r1, r2, r3, r4, r5, r6]) rfl ⟨rfl, (hh).far hg4 (by intro e; have := Option.some.inj e; omega), gnew (gg) hg4 (by omega)⟩
/-- both Writes in one contract -/
theorem Write_is (fb : Nat) (rs : List Int) (t : Tup) (priv : Bool) (v : Int) (h0 : 0 ≤ v) (h1 : v ≤ 4294967295) (w : World) (hs : Rul w) (h : IsFile w 63 fb rs) :
    Calls Tryd.prog 20 #[.pointer (some ⟨fb, 0, none⟩), (.agg #[.int .i64 t.crn, .int .i64 t.op1, .int .i64 t.crm, .int .i64 t.op2]), .bool priv, .int .u32 v] w (WritePost 63 fb (writeR t priv v rs) w) := by
  unfold writeR
  cases hr : regOf t with
  | some i =>
    have hi := regOf_lt hr
    dsimp only
    cases priv
    · exact Write_reg_false fb rs t v i hr w hs h
    · rw [if_pos rfl]
      by_cases hh : 5 ≤ i ∧ i ≤ 9
      · rw [if_pos (by simp [hidB, hh])]
        obtain rfl | rfl | rfl | rfl | rfl : i = 5 ∨ i = 6 ∨ i = 7 ∨ i = 8 ∨ i = 9 := by omega
        · exact Write_reg_5 fb rs t v hr w hs h
        · exact Write_reg_6 fb rs t v hr w hs h
        · exact Write_reg_7 fb rs t v hr w hs h
        · exact Write_reg_8 fb rs t v hr w hs h
        · exact Write_reg_9 fb rs t v hr w hs h
      · rw [if_neg (by simp [hidB]; omega)]
        exact Write_reg_seen fb rs t v i hi (by omega) hr w hs h
  | none =>
    dsimp only
    cases kb : barB t
    · rw [if_neg (by decide)]
      cases kd : dropsB t
      · rw [if_neg (by decide)]
        cases ka : asksB t
        · rw [if_neg (by decide)]
          cases priv
          · exact Write_none_false fb rs t v hr kd ka kb w hs h
          · exact Write_none_true fb rs t v hr kd ka kb w hs h
        · rw [if_pos rfl]
          cases priv
          · exact Write_ask_false fb rs t v hr ka w hs h
          · exact Write_ask_true fb rs t v h0 h1 hr ka w hs h
      · rw [if_pos rfl]
        cases priv
        · exact Write_drop_false fb rs t v hr kd w hs h
        · exact Write_drop_true fb rs t v h0 h1 hr kd w hs h
    · rw [if_pos rfl]
      cases priv
      · exact Write_bar_false fb rs t v hr kb w hs h
      · exact Write_bar_true fb rs t v hr kb w hs h
theorem refWrite_is (fb : Nat) (rs : List Int) (t : Tup) (priv : Bool) (v : Int) (h0 : 0 ≤ v) (h1 : v ≤ 4294967295) (w : World) (h : IsFile w 68 fb rs) :
    Calls Tryd.prog 25 #[.pointer (some ⟨fb, 0, none⟩), (.agg #[.int .i64 t.crn, .int .i64 t.op1, .int .i64 t.crm, .int .i64 t.op2]), .bool priv, .int .u32 v] w (WritePost 68 fb (writeR t priv v rs) w) := by
  unfold writeR
  cases hr : regOf t with
  | some i =>
    have hi := regOf_lt hr
    dsimp only
    cases priv
    · exact refWrite_reg_false fb rs t v i hr w h
    · rw [if_pos rfl]
      by_cases hh : 5 ≤ i ∧ i ≤ 9
      · rw [if_pos (by simp [hidB, hh])]
        exact refWrite_reg_mid fb rs t v i hi hh.1 hh.2 hr w h
      · rw [if_neg (by simp [hidB]; omega)]
        by_cases h4 : i ≤ 4
        · exact refWrite_reg_lo fb rs t v i hi h4 hr w h
        · exact refWrite_reg_hi fb rs t v i hi (by omega) hr w h
  | none =>
    dsimp only
    cases kb : barB t
    · rw [if_neg (by decide)]
      cases kd : dropsB t
      · rw [if_neg (by decide)]
        cases ka : asksB t
        · rw [if_neg (by decide)]
          cases priv
          · exact refWrite_none_false fb rs t v hr kd ka kb w h
          · exact refWrite_none_true fb rs t v hr kd ka kb w h
        · rw [if_pos rfl]
          cases priv
          · exact refWrite_op_false fb rs t v hr (by unfold opB; simp [ka]) kb w h
          · exact refWrite_ask fb rs t v h0 h1 hr ka w h
      · rw [if_pos rfl]
        cases priv
        · exact refWrite_op_false fb rs t v hr (by unfold opB; simp [kd]) kb w h
        · exact refWrite_drop fb rs t v h0 h1 hr kd w h
    · rw [if_pos rfl]
      cases priv
      · exact refWrite_bar_false fb rs t v h0 h1 hr kb w h
      · exact refWrite_bar_true fb rs t v h0 h1 hr kb w h
end Go.Proofs.YtakihcdolpocjaaDoor
