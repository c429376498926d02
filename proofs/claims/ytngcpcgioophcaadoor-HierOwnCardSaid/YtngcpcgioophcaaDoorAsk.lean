/- The laws of layer 10 against the document: sameSlots, and one call asked of both (asked). -/
import Derived.Test.YtngcpcgioophcaaDoorRefP
import Derived.Test.YtngcpcgioophcaaDoorScript
namespace Go.Proofs.YtngcpcgioophcaaDoor
open Go.RowKit

theorem eqB_self' (b : Blk) : b.eqB b = true := by simp [Blk.eqB]
theorem neq_self (b : Blk) (w : World) : (binOp .neq 29 (.agg #[.int .i64 b.asid, .int .i64 b.size, .int .u32 b.va, .int .u64 b.pa, .int .i64 b.dom, .int .i64 b.ap, .int .u32 b.bits, .bool b.ng, .bool b.xn]) (.agg #[.int .i64 b.asid, .int .i64 b.size, .int .u32 b.va, .int .u64 b.pa, .int .i64 b.dom, .int .i64 b.ap, .int .u32 b.bits, .bool b.ng, .bool b.xn])).run Tryd.prog w = .ok (.bool false) w := by rw [neq_blk, eqB_self']; rfl
theorem eql_self' (b : Blk) (w : World) : (binOp .eql 29 (.agg #[.int .i64 b.asid, .int .i64 b.size, .int .u32 b.va, .int .u64 b.pa, .int .i64 b.dom, .int .i64 b.ap, .int .u32 b.bits, .bool b.ng, .bool b.xn]) (.agg #[.int .i64 b.asid, .int .i64 b.size, .int .u32 b.va, .int .u64 b.pa, .int .i64 b.dom, .int .i64 b.ap, .int .u32 b.bits, .bool b.ng, .bool b.xn])).run Tryd.prog w = .ok (.bool true) w := by rw [eql_blk, eqB_self']
set_option maxHeartbeats 3200000 in
set_option maxRecDepth 100000 in
theorem sameSlots_is (ga gb ca cb : Nat) (xs : List Slot) (hl2 : xs.length ≤ 64) (w : World) (ha : Blok w ga 50 (rowCells xs)) (hb : Blok w gb 50 (rowCells xs)) :
    Calls Tryd.prog 29 #[.slice (some ⟨ga, 0, none⟩) xs.length ca, .slice (some ⟨gb, 0, none⟩) xs.length cb] w fun e w' => e = .returned (.bool true) ∧ Below w.heap.size w w' := by
  go_enter Tryd.func29, Tryd.ntmps29
  go_wp2
  go_loopw [5] (fun v5 wr => ∃ k : Nat, k ≤ xs.length ∧ v5 = .int .i64 k ∧ Below w.heap.size w wr) (fun v5 _ => xs.length - (intOf v5).toNat)
  case atStart => exact ⟨0, Nat.zero_le _, rfl, Below.refl _ _⟩
  case round =>
    obtain ⟨k, hk, rfl, hB⟩ := hrel
    have hra := ha.below hB ha.lt
    have hrb := hb.below hB hb.lt
    by_cases hlt : k < xs.length
    · obtain ⟨s, hsk⟩ : ∃ s, xs[k]? = some s := ⟨_, List.getElem?_eq_getElem hlt⟩
      obtain ⟨full, b⟩ := s
      have hca : ∀ j (_ : j < 10), wr.cell? ⟨ga, k * 10 + j, none⟩ = (slotCells ⟨full, b⟩)[j]? := fun j hj => by rw [hra.cell, rowCells_at xs k j _ hsk hj]
      have hcb : ∀ j (_ : j < 10), wr.cell? ⟨gb, k * 10 + j, none⟩ = (slotCells ⟨full, b⟩)[j]? := fun j hj => by rw [hrb.cell, rowCells_at xs k j _ hsk hj]
      have hne := neq_self b
      clear hsk
      cases full
      · (have d0 : (wr).cell? ⟨ga, k * 10, none⟩ = some (.bool false) := hca 0 (by omega); have d1 : (wr).cell? ⟨ga, k * 10 + 1, none⟩ = some (.int .i64 b.asid) := hca 1 (by omega); have d2 : (wr).cell? ⟨ga, k * 10 + 2, none⟩ = some (.int .i64 b.size) := hca 2 (by omega); have d3 : (wr).cell? ⟨ga, k * 10 + 3, none⟩ = some (.int .u32 b.va) := hca 3 (by omega); have d4 : (wr).cell? ⟨ga, k * 10 + 4, none⟩ = some (.int .u64 b.pa) := hca 4 (by omega); have d5 : (wr).cell? ⟨ga, k * 10 + 5, none⟩ = some (.int .i64 b.dom) := hca 5 (by omega); have d6 : (wr).cell? ⟨ga, k * 10 + 6, none⟩ = some (.int .i64 b.ap) := hca 6 (by omega); have d7 : (wr).cell? ⟨ga, k * 10 + 7, none⟩ = some (.int .u32 b.bits) := hca 7 (by omega); have d8 : (wr).cell? ⟨ga, k * 10 + 8, none⟩ = some (.bool b.ng) := hca 8 (by omega); have d9 : (wr).cell? ⟨ga, k * 10 + 9, none⟩ = some (.bool b.xn) := hca 9 (by omega))
        (have e0 : (wr).cell? ⟨gb, k * 10, none⟩ = some (.bool false) := hcb 0 (by omega); have e1 : (wr).cell? ⟨gb, k * 10 + 1, none⟩ = some (.int .i64 b.asid) := hcb 1 (by omega); have e2 : (wr).cell? ⟨gb, k * 10 + 2, none⟩ = some (.int .i64 b.size) := hcb 2 (by omega); have e3 : (wr).cell? ⟨gb, k * 10 + 3, none⟩ = some (.int .u32 b.va) := hcb 3 (by omega); have e4 : (wr).cell? ⟨gb, k * 10 + 4, none⟩ = some (.int .u64 b.pa) := hcb 4 (by omega); have e5 : (wr).cell? ⟨gb, k * 10 + 5, none⟩ = some (.int .i64 b.dom) := hcb 5 (by omega); have e6 : (wr).cell? ⟨gb, k * 10 + 6, none⟩ = some (.int .i64 b.ap) := hcb 6 (by omega); have e7 : (wr).cell? ⟨gb, k * 10 + 7, none⟩ = some (.int .u32 b.bits) := hcb 7 (by omega); have e8 : (wr).cell? ⟨gb, k * 10 + 8, none⟩ = some (.bool b.ng) := hcb 8 (by omega); have e9 : (wr).cell? ⟨gb, k * 10 + 9, none⟩ = some (.bool b.xn) := hcb 9 (by omega))
        clear hca hcb
        go_wp2_with fail
        go_quiet (fail)
        go_wp2
        go_roundw
        case rel => exact ⟨k + 1, by omega, by go_num, bdrewN hB _⟩
        case measure => simp [intOf]; omega
      · (have d0 : (wr).cell? ⟨ga, k * 10, none⟩ = some (.bool true) := hca 0 (by omega); have d1 : (wr).cell? ⟨ga, k * 10 + 1, none⟩ = some (.int .i64 b.asid) := hca 1 (by omega); have d2 : (wr).cell? ⟨ga, k * 10 + 2, none⟩ = some (.int .i64 b.size) := hca 2 (by omega); have d3 : (wr).cell? ⟨ga, k * 10 + 3, none⟩ = some (.int .u32 b.va) := hca 3 (by omega); have d4 : (wr).cell? ⟨ga, k * 10 + 4, none⟩ = some (.int .u64 b.pa) := hca 4 (by omega); have d5 : (wr).cell? ⟨ga, k * 10 + 5, none⟩ = some (.int .i64 b.dom) := hca 5 (by omega); have d6 : (wr).cell? ⟨ga, k * 10 + 6, none⟩ = some (.int .i64 b.ap) := hca 6 (by omega); have d7 : (wr).cell? ⟨ga, k * 10 + 7, none⟩ = some (.int .u32 b.bits) := hca 7 (by omega); have d8 : (wr).cell? ⟨ga, k * 10 + 8, none⟩ = some (.bool b.ng) := hca 8 (by omega); have d9 : (wr).cell? ⟨ga, k * 10 + 9, none⟩ = some (.bool b.xn) := hca 9 (by omega))
        (have e0 : (wr).cell? ⟨gb, k * 10, none⟩ = some (.bool true) := hcb 0 (by omega); have e1 : (wr).cell? ⟨gb, k * 10 + 1, none⟩ = some (.int .i64 b.asid) := hcb 1 (by omega); have e2 : (wr).cell? ⟨gb, k * 10 + 2, none⟩ = some (.int .i64 b.size) := hcb 2 (by omega); have e3 : (wr).cell? ⟨gb, k * 10 + 3, none⟩ = some (.int .u32 b.va) := hcb 3 (by omega); have e4 : (wr).cell? ⟨gb, k * 10 + 4, none⟩ = some (.int .u64 b.pa) := hcb 4 (by omega); have e5 : (wr).cell? ⟨gb, k * 10 + 5, none⟩ = some (.int .i64 b.dom) := hcb 5 (by omega); have e6 : (wr).cell? ⟨gb, k * 10 + 6, none⟩ = some (.int .i64 b.ap) := hcb 6 (by omega); have e7 : (wr).cell? ⟨gb, k * 10 + 7, none⟩ = some (.int .u32 b.bits) := hcb 7 (by omega); have e8 : (wr).cell? ⟨gb, k * 10 + 8, none⟩ = some (.bool b.ng) := hcb 8 (by omega); have e9 : (wr).cell? ⟨gb, k * 10 + 9, none⟩ = some (.bool b.xn) := hcb 9 (by omega))
        clear hca hcb
        go_wp2_with fail
        go_quiet (fail)
        go_wp2
        go_roundw
        case rel => exact ⟨k + 1, by omega, by go_num, bdrewN hB _⟩
        case measure => simp [intOf]; omega
    · go_wp2
      go_ret
      exact ⟨rfl, hB⟩
/-- grown, and two of the old blocks written -/
structure Grown2 (w w' : World) (g r : Nat) : Prop where
  os : w'.os = w.os
  tape : w'.tape = w.tape
  output : w'.output = w.output
  size : w.heap.size ≤ w'.heap.size
  block : ∀ i, i < w.heap.size → i ≠ g → i ≠ r → w'.heap[i]? = w.heap[i]?
section
variable {w w' w1 : World} {g r : Nat}
theorem Grown2.refl (w : World) (g r : Nat) : Grown2 w w g r := ⟨rfl, rfl, rfl, Nat.le_refl _, fun _ _ _ _ => rfl⟩
theorem Grown2.below (h : Grown2 w w' g r) (k : Below w'.heap.size w' w1) : Grown2 w w1 g r :=
  ⟨k.os.trans h.os, k.tape.trans h.tape, k.output.trans h.output, Nat.le_trans h.size k.size, fun i hi h1 h2 => (k.block i (Nat.lt_of_lt_of_le hi h.size)).trans (h.block i hi h1 h2)⟩
theorem Grown2.left (h : Grown2 w w' g r) (k : w'.grownBy w1 (some g)) : Grown2 w w1 g r :=
  ⟨k.os.trans h.os, k.tape.trans h.tape, k.output.trans h.output, Nat.le_trans h.size k.size, fun i hi h1 h2 => (k.block i (Nat.lt_of_lt_of_le hi h.size) (fun e => h1 (Option.some.inj e))).trans (h.block i hi h1 h2)⟩
theorem Grown2.right (h : Grown2 w w' g r) (k : w'.grownBy w1 (some r)) : Grown2 w w1 g r :=
  ⟨k.os.trans h.os, k.tape.trans h.tape, k.output.trans h.output, Nat.le_trans h.size k.size, fun i hi h1 h2 => (k.block i (Nat.lt_of_lt_of_le hi h.size) (fun e => h2 (Option.some.inj e))).trans (h.block i hi h1 h2)⟩
theorem Grown2.drew (w : World) (g r : Nat) : Grown2 w w.drew g r := ⟨rfl, rfl, rfl, Nat.le_refl _, fun _ _ _ _ => rfl⟩
theorem Grown2.bel {B : Nat} (h : Grown2 w w' g r) (hB : B ≤ w.heap.size) (hg : B ≤ g) (hr : B ≤ r) : Below B w w' :=
  ⟨h.os, h.tape, h.output, h.size, fun i hi => h.block i (Nat.lt_of_lt_of_le hi hB) (by omega) (by omega)⟩
theorem Grown2.cell (h : Grown2 w w' g r) {b o : Nat} (hb : b < w.heap.size) (h1 : b ≠ g) (h2 : b ≠ r) : w'.cell? ⟨b, o, none⟩ = w.cell? ⟨b, o, none⟩ := World.cell?_of_block (h.block b hb h1 h2)
theorem Grown2.unbox {o : Obj} (k : Grown2 (w.alloc o) w1 g r) : Grown2 w w1 g r :=
  ⟨k.os, k.tape, k.output, Nat.le_trans (by simp) k.size, fun i hi h1 h2 => (k.block i (by simp; omega) h1 h2).trans (Below.heap_alloc w o i hi)⟩
end
theorem IsTlb.far' {w w' : World} {tt st : TypeId} {tb g r : Nat} {xs : List Slot} (h : IsTlb w tt st tb g xs) (hg : w.grownBy w' (some r)) (h1 : tb ≠ r) (h2 : g ≠ r) : IsTlb w' tt st tb g xs :=
  ⟨h.hd.grown hg (by intro e; exact h1 (Option.some.inj e)), h.sl.grown hg (by intro e; exact h2 (Option.some.inj e)), h.ne, h.pos, h.le⟩
/-- the places behind a call that is asked of both -/
def askRow (o : Op10) (xs : List Slot) : List Slot :=
  if o.kind = 1 then xs else if o.kind = 2 then (if rightB o.blk = true then putRow o.blk xs o.n else xs)
  else if o.kind = 3 then (if 0 ≤ o.n ∧ o.n < xs.length then xs.set o.n.toNat zslot else xs) else dropRow o.drop xs
theorem askRow_len (o : Op10) (xs : List Slot) : (askRow o xs).length = xs.length := by
  unfold askRow
  split; · rfl
  split
  · split; · exact putRow_len _ _ _
    · rfl
  split
  · split; · simp
    · rfl
  · simp [dropRow]
theorem askRow_ok (o : Op10) (ho : o.Ok) (xs : List Slot) (h : RowOk xs) : RowOk (askRow o xs) := by
  unfold askRow
  split; · exact h
  split
  · split; · exact putRow_ok _ _ _ h ho.b
    · exact h
  split
  · split; · exact set_ok _ _ _ h zslot_ok
    · exact h
  · exact dropRow_ok _ _ h
/-- both TLBs, apart from one another -/
structure Both (w : World) (tb g rb rg : Nat) (xs : List Slot) : Prop where
  t : IsTlb w 105 50 tb g xs
  r : IsTlb w 67 50 rb rg xs
  a : tb ≠ rg
  b : g ≠ rb
  c : g ≠ rg
theorem Both.below {w w' : World} {tb g rb rg : Nat} {xs : List Slot} (h : Both w tb g rb rg xs) (hb : Below w.heap.size w w') : Both w' tb g rb rg xs :=
  ⟨h.t.below hb, h.r.below hb, h.a, h.b, h.c⟩
section
variable (o : Op10) (ho : o.Ok) (tb g rb rg : Nat) (xs : List Slot) (hok : RowOk xs) (hg0 : g ≠ 0) (w : World) (hs : Shf w) (h : Both w tb g rb rg xs)
include h
set_option maxHeartbeats 6400000 in
include hok hs in
theorem asked_1 (hk : o.kind = 1) :
    Calls Tryd.prog 34 #[.pointer (some ⟨tb, 0, none⟩), .pointer (some ⟨rb, 0, none⟩), (.agg #[.int .i64 o.kind, .int .u32 o.va, .int .i64 o.n, .int .i64 o.blk.asid, .int .i64 o.blk.size, .int .u32 o.blk.va, .int .u64 o.blk.pa, .int .i64 o.blk.dom, .int .i64 o.blk.ap, .int .u32 o.blk.bits, .bool o.blk.ng, .bool o.blk.xn, .int .i64 o.drop.kind, .int .u32 o.drop.va, .int .i64 o.drop.asid])] w fun e w' => e = .returned (.bool true) ∧ Both w' tb g rb rg xs ∧ Grown2 w w' g rg := by
  obtain ⟨kind, va, n, blk, drop⟩ := o
  simp only at hk
  subst hk
  have h1 := h.below ((Below.refl _ _).alloc (Nat.le_refl _) (.cells #[.int .i64 (Op10.mk 1 va n blk drop).kind, .int .u32 (Op10.mk 1 va n blk drop).va, .int .i64 (Op10.mk 1 va n blk drop).n, .int .i64 (Op10.mk 1 va n blk drop).blk.asid, .int .i64 (Op10.mk 1 va n blk drop).blk.size, .int .u32 (Op10.mk 1 va n blk drop).blk.va, .int .u64 (Op10.mk 1 va n blk drop).blk.pa, .int .i64 (Op10.mk 1 va n blk drop).blk.dom, .int .i64 (Op10.mk 1 va n blk drop).blk.ap, .int .u32 (Op10.mk 1 va n blk drop).blk.bits, .bool (Op10.mk 1 va n blk drop).blk.ng, .bool (Op10.mk 1 va n blk drop).blk.xn, .int .i64 (Op10.mk 1 va n blk drop).drop.kind, .int .u32 (Op10.mk 1 va n blk drop).drop.va, .int .i64 (Op10.mk 1 va n blk drop).drop.asid] 44))
  have hlb : ∃ fb : Blk, lookB va n xs = fb := ⟨_, rfl⟩
  obtain ⟨fb, hfb⟩ := hlb
  obtain ⟨m, hm⟩ : ∃ m, lookN va n xs = m := ⟨_, rfl⟩
  have LT := fun W h1 h2 => tlb_Look_is tb g xs hok va n W h1 h2
  have LR := fun W h1 => ref_Look_is rb rg xs hok va n W h1
  rw [hfb, hm] at LT LR
  have LT' : Hid (∀ W, Shf W → IsTlb W 105 50 tb g xs → Calls Tryd.prog 28 #[.pointer (some ⟨tb, 0, none⟩), .int .u32 va, .int .i64 n] W fun e w' => e = .returned (.tuple #[(.agg #[.int .i64 fb.asid, .int .i64 fb.size, .int .u32 fb.va, .int .u64 fb.pa, .int .i64 fb.dom, .int .i64 fb.ap, .int .u32 fb.bits, .bool fb.ng, .bool fb.xn]), .int .i64 m]) ∧ Below W.heap.size W w') := Lib.hid LT
  have LR' : Hid (∀ W, IsTlb W 67 50 rb rg xs → Calls Tryd.prog 62 #[.pointer (some ⟨rb, 0, none⟩), .int .u32 va, .int .i64 n] W fun e w' => e = .returned (.tuple #[(.agg #[.int .i64 fb.asid, .int .i64 fb.size, .int .u32 fb.va, .int .u64 fb.pa, .int .i64 fb.dom, .int .i64 fb.ap, .int .u32 fb.bits, .bool fb.ng, .bool fb.xn]), .int .i64 m]) ∧ Below W.heap.size W w') := Lib.hid LR
  have heq := eql_self' fb
  clear LT LR hfb hm
  have hop : Blok (w.alloc (.cells #[.int .i64 (Op10.mk 1 va n blk drop).kind, .int .u32 (Op10.mk 1 va n blk drop).va, .int .i64 (Op10.mk 1 va n blk drop).n, .int .i64 (Op10.mk 1 va n blk drop).blk.asid, .int .i64 (Op10.mk 1 va n blk drop).blk.size, .int .u32 (Op10.mk 1 va n blk drop).blk.va, .int .u64 (Op10.mk 1 va n blk drop).blk.pa, .int .i64 (Op10.mk 1 va n blk drop).blk.dom, .int .i64 (Op10.mk 1 va n blk drop).blk.ap, .int .u32 (Op10.mk 1 va n blk drop).blk.bits, .bool (Op10.mk 1 va n blk drop).blk.ng, .bool (Op10.mk 1 va n blk drop).blk.xn, .int .i64 (Op10.mk 1 va n blk drop).drop.kind, .int .u32 (Op10.mk 1 va n blk drop).drop.va, .int .i64 (Op10.mk 1 va n blk drop).drop.asid] 44)) w.heap.size 44 (opCells (Op10.mk 1 va n blk drop)) := Blok.new w _ _
  have hB0 : Below w.heap.size w (w.alloc (.cells #[.int .i64 (Op10.mk 1 va n blk drop).kind, .int .u32 (Op10.mk 1 va n blk drop).va, .int .i64 (Op10.mk 1 va n blk drop).n, .int .i64 (Op10.mk 1 va n blk drop).blk.asid, .int .i64 (Op10.mk 1 va n blk drop).blk.size, .int .u32 (Op10.mk 1 va n blk drop).blk.va, .int .u64 (Op10.mk 1 va n blk drop).blk.pa, .int .i64 (Op10.mk 1 va n blk drop).blk.dom, .int .i64 (Op10.mk 1 va n blk drop).blk.ap, .int .u32 (Op10.mk 1 va n blk drop).blk.bits, .bool (Op10.mk 1 va n blk drop).blk.ng, .bool (Op10.mk 1 va n blk drop).blk.xn, .int .i64 (Op10.mk 1 va n blk drop).drop.kind, .int .u32 (Op10.mk 1 va n blk drop).drop.va, .int .i64 (Op10.mk 1 va n blk drop).drop.asid] 44)) := (Below.refl _ _).alloc (Nat.le_refl _) _
  go_enter Tryd.func34, Tryd.ntmps34
  go_wp2_with (first
    | (go_at_call 28; refine (LT'.out _ (hs.alloc _) h1.t).mono ?_; rintro e w1 ⟨rfl, hb1⟩; have hop1 := hop.below hb1 hop.lt; have c1 : w1.cell? ⟨w.heap.size, 1, none⟩ = some (.int .u32 va) := hop1.cell 1; have c2 : w1.cell? ⟨w.heap.size, 2, none⟩ = some (.int .i64 n) := hop1.cell 2; have hl1 := hop1.lt; have h2 := (h1.below hb1).below ((Below.refl _ _).alloc (Nat.le_refl _) (.cells #[.int .i64 fb.asid, .int .i64 fb.size, .int .u32 fb.va, .int .u64 fb.pa, .int .i64 fb.dom, .int .i64 fb.ap, .int .u32 fb.bits, .bool fb.ng, .bool fb.xn] 29)))
    | (go_at_call 62; refine (LR'.out _ h2.r).mono ?_; rintro e w2 ⟨rfl, hb2⟩; have hbk := (Blok.new w1 29 (blkCells fb)).below hb2 (by simp); have hbl := hbk.lt; (have k0 : (w2).cell? ⟨w1.heap.size, 0, none⟩ = some (.int .i64 fb.asid) := (hbk).cell 0; have k1 : (w2).cell? ⟨w1.heap.size, 1, none⟩ = some (.int .i64 fb.size) := (hbk).cell 1; have k2 : (w2).cell? ⟨w1.heap.size, 2, none⟩ = some (.int .u32 fb.va) := (hbk).cell 2; have k3 : (w2).cell? ⟨w1.heap.size, 3, none⟩ = some (.int .u64 fb.pa) := (hbk).cell 3; have k4 : (w2).cell? ⟨w1.heap.size, 4, none⟩ = some (.int .i64 fb.dom) := (hbk).cell 4; have k5 : (w2).cell? ⟨w1.heap.size, 5, none⟩ = some (.int .i64 fb.ap) := (hbk).cell 5; have k6 : (w2).cell? ⟨w1.heap.size, 6, none⟩ = some (.int .u32 fb.bits) := (hbk).cell 6; have k7 : (w2).cell? ⟨w1.heap.size, 7, none⟩ = some (.bool fb.ng) := (hbk).cell 7; have k8 : (w2).cell? ⟨w1.heap.size, 8, none⟩ = some (.bool fb.xn) := (hbk).cell 8)))
  go_ret
  exact ⟨rfl, (h2.below hb2).below ((Below.refl _ _).alloc (Nat.le_refl _) _), ((((Grown2.refl w g rg).below hB0).below hb1).below ((Below.refl _ _).alloc (Nat.le_refl _) _)).below (hb2.alloc hb2.size _)⟩
set_option maxHeartbeats 6400000 in
include ho hs in
theorem asked_2n (hk : o.kind = 2) (hr : rightB o.blk = false) :
    Calls Tryd.prog 34 #[.pointer (some ⟨tb, 0, none⟩), .pointer (some ⟨rb, 0, none⟩), (.agg #[.int .i64 o.kind, .int .u32 o.va, .int .i64 o.n, .int .i64 o.blk.asid, .int .i64 o.blk.size, .int .u32 o.blk.va, .int .u64 o.blk.pa, .int .i64 o.blk.dom, .int .i64 o.blk.ap, .int .u32 o.blk.bits, .bool o.blk.ng, .bool o.blk.xn, .int .i64 o.drop.kind, .int .u32 o.drop.va, .int .i64 o.drop.asid])] w fun e w' => e = .returned (.bool true) ∧ Both w' tb g rb rg xs ∧ Grown2 w w' g rg := by
  have hbo := ho.b
  obtain ⟨kind, va, n, blk, drop⟩ := o
  simp only at hk hr hbo
  subst hk
  have h1 := h.below ((Below.refl _ _).alloc (Nat.le_refl _) (.cells #[.int .i64 (Op10.mk 2 va n blk drop).kind, .int .u32 (Op10.mk 2 va n blk drop).va, .int .i64 (Op10.mk 2 va n blk drop).n, .int .i64 (Op10.mk 2 va n blk drop).blk.asid, .int .i64 (Op10.mk 2 va n blk drop).blk.size, .int .u32 (Op10.mk 2 va n blk drop).blk.va, .int .u64 (Op10.mk 2 va n blk drop).blk.pa, .int .i64 (Op10.mk 2 va n blk drop).blk.dom, .int .i64 (Op10.mk 2 va n blk drop).blk.ap, .int .u32 (Op10.mk 2 va n blk drop).blk.bits, .bool (Op10.mk 2 va n blk drop).blk.ng, .bool (Op10.mk 2 va n blk drop).blk.xn, .int .i64 (Op10.mk 2 va n blk drop).drop.kind, .int .u32 (Op10.mk 2 va n blk drop).drop.va, .int .i64 (Op10.mk 2 va n blk drop).drop.asid] 44))
  have hop : Blok (w.alloc (.cells #[.int .i64 (Op10.mk 2 va n blk drop).kind, .int .u32 (Op10.mk 2 va n blk drop).va, .int .i64 (Op10.mk 2 va n blk drop).n, .int .i64 (Op10.mk 2 va n blk drop).blk.asid, .int .i64 (Op10.mk 2 va n blk drop).blk.size, .int .u32 (Op10.mk 2 va n blk drop).blk.va, .int .u64 (Op10.mk 2 va n blk drop).blk.pa, .int .i64 (Op10.mk 2 va n blk drop).blk.dom, .int .i64 (Op10.mk 2 va n blk drop).blk.ap, .int .u32 (Op10.mk 2 va n blk drop).blk.bits, .bool (Op10.mk 2 va n blk drop).blk.ng, .bool (Op10.mk 2 va n blk drop).blk.xn, .int .i64 (Op10.mk 2 va n blk drop).drop.kind, .int .u32 (Op10.mk 2 va n blk drop).drop.va, .int .i64 (Op10.mk 2 va n blk drop).drop.asid] 44)) w.heap.size 44 (opCells (Op10.mk 2 va n blk drop)) := Blok.new w _ _
  have hG0 : Grown2 (w.alloc (.cells #[.int .i64 (Op10.mk 2 va n blk drop).kind, .int .u32 (Op10.mk 2 va n blk drop).va, .int .i64 (Op10.mk 2 va n blk drop).n, .int .i64 (Op10.mk 2 va n blk drop).blk.asid, .int .i64 (Op10.mk 2 va n blk drop).blk.size, .int .u32 (Op10.mk 2 va n blk drop).blk.va, .int .u64 (Op10.mk 2 va n blk drop).blk.pa, .int .i64 (Op10.mk 2 va n blk drop).blk.dom, .int .i64 (Op10.mk 2 va n blk drop).blk.ap, .int .u32 (Op10.mk 2 va n blk drop).blk.bits, .bool (Op10.mk 2 va n blk drop).blk.ng, .bool (Op10.mk 2 va n blk drop).blk.xn, .int .i64 (Op10.mk 2 va n blk drop).drop.kind, .int .u32 (Op10.mk 2 va n blk drop).drop.va, .int .i64 (Op10.mk 2 va n blk drop).drop.asid] 44)) (w.alloc (.cells #[.int .i64 (Op10.mk 2 va n blk drop).kind, .int .u32 (Op10.mk 2 va n blk drop).va, .int .i64 (Op10.mk 2 va n blk drop).n, .int .i64 (Op10.mk 2 va n blk drop).blk.asid, .int .i64 (Op10.mk 2 va n blk drop).blk.size, .int .u32 (Op10.mk 2 va n blk drop).blk.va, .int .u64 (Op10.mk 2 va n blk drop).blk.pa, .int .i64 (Op10.mk 2 va n blk drop).blk.dom, .int .i64 (Op10.mk 2 va n blk drop).blk.ap, .int .u32 (Op10.mk 2 va n blk drop).blk.bits, .bool (Op10.mk 2 va n blk drop).blk.ng, .bool (Op10.mk 2 va n blk drop).blk.xn, .int .i64 (Op10.mk 2 va n blk drop).drop.kind, .int .u32 (Op10.mk 2 va n blk drop).drop.va, .int .i64 (Op10.mk 2 va n blk drop).drop.asid] 44)) g rg := Grown2.refl _ _ _
  go_enter Tryd.func34, Tryd.ntmps34
  go_wp2_with (first
    | (go_at_call 53; refine (tlb_Put_no blk hbo hr ⟨tb, 0, none⟩ n _ (hs.alloc _)).mono ?_; rintro e w1 ⟨rfl, hb1⟩; have hop1 := hop.below hb1 hop.lt; have hl1 := hop1.lt; have c2 : w1.cell? ⟨w.heap.size, 2, none⟩ = some (.int .i64 n) := hop1.cell 2; have c3 : w1.cell? ⟨w.heap.size, 3, none⟩ = some (.int .i64 blk.asid) := hop1.cell 3; have c4 : w1.cell? ⟨w.heap.size, 4, none⟩ = some (.int .i64 blk.size) := hop1.cell 4; have c5 : w1.cell? ⟨w.heap.size, 5, none⟩ = some (.int .u32 blk.va) := hop1.cell 5; have c6 : w1.cell? ⟨w.heap.size, 6, none⟩ = some (.int .u64 blk.pa) := hop1.cell 6; have c7 : w1.cell? ⟨w.heap.size, 7, none⟩ = some (.int .i64 blk.dom) := hop1.cell 7; have c8 : w1.cell? ⟨w.heap.size, 8, none⟩ = some (.int .i64 blk.ap) := hop1.cell 8; have c9 : w1.cell? ⟨w.heap.size, 9, none⟩ = some (.int .u32 blk.bits) := hop1.cell 9; have c10 : w1.cell? ⟨w.heap.size, 10, none⟩ = some (.bool blk.ng) := hop1.cell 10; have c11 : w1.cell? ⟨w.heap.size, 11, none⟩ = some (.bool blk.xn) := hop1.cell 11)
    | (go_at_call 63; refine (ref_Put_no blk hbo hr ⟨rb, 0, none⟩ n _).mono ?_; rintro e w2 ⟨rfl, hb2⟩)
    | (go_at_call 33; refine (no_is _ _).mono ?_; rintro e w3 ⟨rfl, rfl⟩))
  go_ret
  exact ⟨rfl, (h1.below hb1).below hb2, ((hG0.below hb1).below hb2).unbox⟩
set_option maxHeartbeats 6400000 in
include ho hs in
theorem asked_2y (hk : o.kind = 2) (hr : rightB o.blk = true) :
    Calls Tryd.prog 34 #[.pointer (some ⟨tb, 0, none⟩), .pointer (some ⟨rb, 0, none⟩), (.agg #[.int .i64 o.kind, .int .u32 o.va, .int .i64 o.n, .int .i64 o.blk.asid, .int .i64 o.blk.size, .int .u32 o.blk.va, .int .u64 o.blk.pa, .int .i64 o.blk.dom, .int .i64 o.blk.ap, .int .u32 o.blk.bits, .bool o.blk.ng, .bool o.blk.xn, .int .i64 o.drop.kind, .int .u32 o.drop.va, .int .i64 o.drop.asid])] w fun e w' => e = .returned (.bool true) ∧ Both w' tb g rb rg (putRow o.blk xs o.n) ∧ Grown2 w w' g rg := by
  have hbo := ho.b
  have hn0 := ho.n0
  have hn1 := ho.n1
  obtain ⟨kind, va, n, blk, drop⟩ := o
  simp only at hk hr hbo hn0 hn1
  subst hk
  have h1 := h.below ((Below.refl _ _).alloc (Nat.le_refl _) (.cells #[.int .i64 (Op10.mk 2 va n blk drop).kind, .int .u32 (Op10.mk 2 va n blk drop).va, .int .i64 (Op10.mk 2 va n blk drop).n, .int .i64 (Op10.mk 2 va n blk drop).blk.asid, .int .i64 (Op10.mk 2 va n blk drop).blk.size, .int .u32 (Op10.mk 2 va n blk drop).blk.va, .int .u64 (Op10.mk 2 va n blk drop).blk.pa, .int .i64 (Op10.mk 2 va n blk drop).blk.dom, .int .i64 (Op10.mk 2 va n blk drop).blk.ap, .int .u32 (Op10.mk 2 va n blk drop).blk.bits, .bool (Op10.mk 2 va n blk drop).blk.ng, .bool (Op10.mk 2 va n blk drop).blk.xn, .int .i64 (Op10.mk 2 va n blk drop).drop.kind, .int .u32 (Op10.mk 2 va n blk drop).drop.va, .int .i64 (Op10.mk 2 va n blk drop).drop.asid] 44))
  have hop : Blok (w.alloc (.cells #[.int .i64 (Op10.mk 2 va n blk drop).kind, .int .u32 (Op10.mk 2 va n blk drop).va, .int .i64 (Op10.mk 2 va n blk drop).n, .int .i64 (Op10.mk 2 va n blk drop).blk.asid, .int .i64 (Op10.mk 2 va n blk drop).blk.size, .int .u32 (Op10.mk 2 va n blk drop).blk.va, .int .u64 (Op10.mk 2 va n blk drop).blk.pa, .int .i64 (Op10.mk 2 va n blk drop).blk.dom, .int .i64 (Op10.mk 2 va n blk drop).blk.ap, .int .u32 (Op10.mk 2 va n blk drop).blk.bits, .bool (Op10.mk 2 va n blk drop).blk.ng, .bool (Op10.mk 2 va n blk drop).blk.xn, .int .i64 (Op10.mk 2 va n blk drop).drop.kind, .int .u32 (Op10.mk 2 va n blk drop).drop.va, .int .i64 (Op10.mk 2 va n blk drop).drop.asid] 44)) w.heap.size 44 (opCells (Op10.mk 2 va n blk drop)) := Blok.new w _ _
  have hG0 : Grown2 (w.alloc (.cells #[.int .i64 (Op10.mk 2 va n blk drop).kind, .int .u32 (Op10.mk 2 va n blk drop).va, .int .i64 (Op10.mk 2 va n blk drop).n, .int .i64 (Op10.mk 2 va n blk drop).blk.asid, .int .i64 (Op10.mk 2 va n blk drop).blk.size, .int .u32 (Op10.mk 2 va n blk drop).blk.va, .int .u64 (Op10.mk 2 va n blk drop).blk.pa, .int .i64 (Op10.mk 2 va n blk drop).blk.dom, .int .i64 (Op10.mk 2 va n blk drop).blk.ap, .int .u32 (Op10.mk 2 va n blk drop).blk.bits, .bool (Op10.mk 2 va n blk drop).blk.ng, .bool (Op10.mk 2 va n blk drop).blk.xn, .int .i64 (Op10.mk 2 va n blk drop).drop.kind, .int .u32 (Op10.mk 2 va n blk drop).drop.va, .int .i64 (Op10.mk 2 va n blk drop).drop.asid] 44)) (w.alloc (.cells #[.int .i64 (Op10.mk 2 va n blk drop).kind, .int .u32 (Op10.mk 2 va n blk drop).va, .int .i64 (Op10.mk 2 va n blk drop).n, .int .i64 (Op10.mk 2 va n blk drop).blk.asid, .int .i64 (Op10.mk 2 va n blk drop).blk.size, .int .u32 (Op10.mk 2 va n blk drop).blk.va, .int .u64 (Op10.mk 2 va n blk drop).blk.pa, .int .i64 (Op10.mk 2 va n blk drop).blk.dom, .int .i64 (Op10.mk 2 va n blk drop).blk.ap, .int .u32 (Op10.mk 2 va n blk drop).blk.bits, .bool (Op10.mk 2 va n blk drop).blk.ng, .bool (Op10.mk 2 va n blk drop).blk.xn, .int .i64 (Op10.mk 2 va n blk drop).drop.kind, .int .u32 (Op10.mk 2 va n blk drop).drop.va, .int .i64 (Op10.mk 2 va n blk drop).drop.asid] 44)) g rg := Grown2.refl _ _ _
  have hgw : g < w.heap.size := h.t.sl.lt
  go_enter Tryd.func34, Tryd.ntmps34
  go_wp2_with (first
    | (go_at_call 53; refine (tlb_Put_yes blk hbo hr tb g xs n hn0 hn1 _ (hs.alloc _) h1.t).mono ?_; rintro e w1 ⟨rfl, hb1, hg1⟩; have hop1 := hop.grown hg1 (by intro e; have := Option.some.inj e; omega); have hl1 := hop1.lt; have hR1 := h1.r.far' hg1 (Ne.symm h.b) (Ne.symm h.c); have c2 : w1.cell? ⟨w.heap.size, 2, none⟩ = some (.int .i64 n) := hop1.cell 2; have c3 : w1.cell? ⟨w.heap.size, 3, none⟩ = some (.int .i64 blk.asid) := hop1.cell 3; have c4 : w1.cell? ⟨w.heap.size, 4, none⟩ = some (.int .i64 blk.size) := hop1.cell 4; have c5 : w1.cell? ⟨w.heap.size, 5, none⟩ = some (.int .u32 blk.va) := hop1.cell 5; have c6 : w1.cell? ⟨w.heap.size, 6, none⟩ = some (.int .u64 blk.pa) := hop1.cell 6; have c7 : w1.cell? ⟨w.heap.size, 7, none⟩ = some (.int .i64 blk.dom) := hop1.cell 7; have c8 : w1.cell? ⟨w.heap.size, 8, none⟩ = some (.int .i64 blk.ap) := hop1.cell 8; have c9 : w1.cell? ⟨w.heap.size, 9, none⟩ = some (.int .u32 blk.bits) := hop1.cell 9; have c10 : w1.cell? ⟨w.heap.size, 10, none⟩ = some (.bool blk.ng) := hop1.cell 10; have c11 : w1.cell? ⟨w.heap.size, 11, none⟩ = some (.bool blk.xn) := hop1.cell 11)
    | (go_at_call 63; refine (ref_Put_yes blk hbo hr rb rg xs n hn0 hn1 _ hR1).mono ?_; rintro e w2 ⟨rfl, hb2, hg2⟩)
    | (go_at_call 33; refine (no_is _ _).mono ?_; rintro e w3 ⟨rfl, rfl⟩))
  go_ret
  exact ⟨rfl, ⟨(h1.t.to hb1 hg1 (putRow_len _ _ _)).far' hg2 h.a h.c, hR1.to hb2 hg2 (putRow_len _ _ _), h.a, h.b, h.c⟩, ((hG0.left hg1).right hg2).unbox⟩
set_option maxHeartbeats 6400000 in
theorem asked_3y (hk : o.kind = 3) (hn : 0 ≤ o.n ∧ o.n < xs.length) :
    Calls Tryd.prog 34 #[.pointer (some ⟨tb, 0, none⟩), .pointer (some ⟨rb, 0, none⟩), (.agg #[.int .i64 o.kind, .int .u32 o.va, .int .i64 o.n, .int .i64 o.blk.asid, .int .i64 o.blk.size, .int .u32 o.blk.va, .int .u64 o.blk.pa, .int .i64 o.blk.dom, .int .i64 o.blk.ap, .int .u32 o.blk.bits, .bool o.blk.ng, .bool o.blk.xn, .int .i64 o.drop.kind, .int .u32 o.drop.va, .int .i64 o.drop.asid])] w fun e w' => e = .returned (.bool true) ∧ Both w' tb g rb rg (xs.set o.n.toNat zslot) ∧ Grown2 w w' g rg := by
  obtain ⟨kind, va, n, blk, drop⟩ := o
  simp only at hk hn
  subst hk
  obtain ⟨i, rfl⟩ := Int.eq_ofNat_of_zero_le hn.1
  have hlt : i < xs.length := by omega
  obtain ⟨s, hsi⟩ : ∃ s, xs[i]? = some s := ⟨_, List.getElem?_eq_getElem hlt⟩
  obtain ⟨full, sb⟩ := s
  have h1 := h.below ((Below.refl _ _).alloc (Nat.le_refl _) (.cells #[.int .i64 (Op10.mk 3 va i blk drop).kind, .int .u32 (Op10.mk 3 va i blk drop).va, .int .i64 (Op10.mk 3 va i blk drop).n, .int .i64 (Op10.mk 3 va i blk drop).blk.asid, .int .i64 (Op10.mk 3 va i blk drop).blk.size, .int .u32 (Op10.mk 3 va i blk drop).blk.va, .int .u64 (Op10.mk 3 va i blk drop).blk.pa, .int .i64 (Op10.mk 3 va i blk drop).blk.dom, .int .i64 (Op10.mk 3 va i blk drop).blk.ap, .int .u32 (Op10.mk 3 va i blk drop).blk.bits, .bool (Op10.mk 3 va i blk drop).blk.ng, .bool (Op10.mk 3 va i blk drop).blk.xn, .int .i64 (Op10.mk 3 va i blk drop).drop.kind, .int .u32 (Op10.mk 3 va i blk drop).drop.va, .int .i64 (Op10.mk 3 va i blk drop).drop.asid] 44))
  have hop : Blok (w.alloc (.cells #[.int .i64 (Op10.mk 3 va i blk drop).kind, .int .u32 (Op10.mk 3 va i blk drop).va, .int .i64 (Op10.mk 3 va i blk drop).n, .int .i64 (Op10.mk 3 va i blk drop).blk.asid, .int .i64 (Op10.mk 3 va i blk drop).blk.size, .int .u32 (Op10.mk 3 va i blk drop).blk.va, .int .u64 (Op10.mk 3 va i blk drop).blk.pa, .int .i64 (Op10.mk 3 va i blk drop).blk.dom, .int .i64 (Op10.mk 3 va i blk drop).blk.ap, .int .u32 (Op10.mk 3 va i blk drop).blk.bits, .bool (Op10.mk 3 va i blk drop).blk.ng, .bool (Op10.mk 3 va i blk drop).blk.xn, .int .i64 (Op10.mk 3 va i blk drop).drop.kind, .int .u32 (Op10.mk 3 va i blk drop).drop.va, .int .i64 (Op10.mk 3 va i blk drop).drop.asid] 44)) w.heap.size 44 (opCells (Op10.mk 3 va i blk drop)) := Blok.new w _ _
  have hG0 : Grown2 (w.alloc (.cells #[.int .i64 (Op10.mk 3 va i blk drop).kind, .int .u32 (Op10.mk 3 va i blk drop).va, .int .i64 (Op10.mk 3 va i blk drop).n, .int .i64 (Op10.mk 3 va i blk drop).blk.asid, .int .i64 (Op10.mk 3 va i blk drop).blk.size, .int .u32 (Op10.mk 3 va i blk drop).blk.va, .int .u64 (Op10.mk 3 va i blk drop).blk.pa, .int .i64 (Op10.mk 3 va i blk drop).blk.dom, .int .i64 (Op10.mk 3 va i blk drop).blk.ap, .int .u32 (Op10.mk 3 va i blk drop).blk.bits, .bool (Op10.mk 3 va i blk drop).blk.ng, .bool (Op10.mk 3 va i blk drop).blk.xn, .int .i64 (Op10.mk 3 va i blk drop).drop.kind, .int .u32 (Op10.mk 3 va i blk drop).drop.va, .int .i64 (Op10.mk 3 va i blk drop).drop.asid] 44)) (w.alloc (.cells #[.int .i64 (Op10.mk 3 va i blk drop).kind, .int .u32 (Op10.mk 3 va i blk drop).va, .int .i64 (Op10.mk 3 va i blk drop).n, .int .i64 (Op10.mk 3 va i blk drop).blk.asid, .int .i64 (Op10.mk 3 va i blk drop).blk.size, .int .u32 (Op10.mk 3 va i blk drop).blk.va, .int .u64 (Op10.mk 3 va i blk drop).blk.pa, .int .i64 (Op10.mk 3 va i blk drop).blk.dom, .int .i64 (Op10.mk 3 va i blk drop).blk.ap, .int .u32 (Op10.mk 3 va i blk drop).blk.bits, .bool (Op10.mk 3 va i blk drop).blk.ng, .bool (Op10.mk 3 va i blk drop).blk.xn, .int .i64 (Op10.mk 3 va i blk drop).drop.kind, .int .u32 (Op10.mk 3 va i blk drop).drop.va, .int .i64 (Op10.mk 3 va i blk drop).drop.asid] 44)) g rg := Grown2.refl _ _ _
  have hbd : Both ((w.alloc (.cells #[.int .i64 (Op10.mk 3 va i blk drop).kind, .int .u32 (Op10.mk 3 va i blk drop).va, .int .i64 (Op10.mk 3 va i blk drop).n, .int .i64 (Op10.mk 3 va i blk drop).blk.asid, .int .i64 (Op10.mk 3 va i blk drop).blk.size, .int .u32 (Op10.mk 3 va i blk drop).blk.va, .int .u64 (Op10.mk 3 va i blk drop).blk.pa, .int .i64 (Op10.mk 3 va i blk drop).blk.dom, .int .i64 (Op10.mk 3 va i blk drop).blk.ap, .int .u32 (Op10.mk 3 va i blk drop).blk.bits, .bool (Op10.mk 3 va i blk drop).blk.ng, .bool (Op10.mk 3 va i blk drop).blk.xn, .int .i64 (Op10.mk 3 va i blk drop).drop.kind, .int .u32 (Op10.mk 3 va i blk drop).drop.va, .int .i64 (Op10.mk 3 va i blk drop).drop.asid] 44))).drew tb g rb rg xs := h1.below (bdrew (Below.refl _ _))
  have hgw : g < w.heap.size := h.t.sl.lt
  have hrw : rg < w.heap.size := h.r.sl.lt
  have c2 : ∀ w', Grown2 (w.alloc (.cells #[.int .i64 (Op10.mk 3 va i blk drop).kind, .int .u32 (Op10.mk 3 va i blk drop).va, .int .i64 (Op10.mk 3 va i blk drop).n, .int .i64 (Op10.mk 3 va i blk drop).blk.asid, .int .i64 (Op10.mk 3 va i blk drop).blk.size, .int .u32 (Op10.mk 3 va i blk drop).blk.va, .int .u64 (Op10.mk 3 va i blk drop).blk.pa, .int .i64 (Op10.mk 3 va i blk drop).blk.dom, .int .i64 (Op10.mk 3 va i blk drop).blk.ap, .int .u32 (Op10.mk 3 va i blk drop).blk.bits, .bool (Op10.mk 3 va i blk drop).blk.ng, .bool (Op10.mk 3 va i blk drop).blk.xn, .int .i64 (Op10.mk 3 va i blk drop).drop.kind, .int .u32 (Op10.mk 3 va i blk drop).drop.va, .int .i64 (Op10.mk 3 va i blk drop).drop.asid] 44)) w' g rg → w'.cell? ⟨w.heap.size, 2, none⟩ = some (.int .i64 i) := fun w' h => (h.cell (by simp) (by omega) (by omega)).trans (hop.cell 2)
  have ET := Lib.hid (fun W hW => tlb_Evict_yes tb g xs i _ hsi W hW)
  have ER := Lib.hid (fun W hW => ref_Evict_yes rb rg xs i _ hsi W hW)
  have HBD := Lib.hid hbd
  clear hsi hn
  go_enter Tryd.func34, Tryd.ntmps34
  go_wp2_with fail
  go_region_held3 (fun w' => Grown2 (w.alloc (.cells #[.int .i64 (Op10.mk 3 va i blk drop).kind, .int .u32 (Op10.mk 3 va i blk drop).va, .int .i64 (Op10.mk 3 va i blk drop).n, .int .i64 (Op10.mk 3 va i blk drop).blk.asid, .int .i64 (Op10.mk 3 va i blk drop).blk.size, .int .u32 (Op10.mk 3 va i blk drop).blk.va, .int .u64 (Op10.mk 3 va i blk drop).blk.pa, .int .i64 (Op10.mk 3 va i blk drop).blk.dom, .int .i64 (Op10.mk 3 va i blk drop).blk.ap, .int .u32 (Op10.mk 3 va i blk drop).blk.bits, .bool (Op10.mk 3 va i blk drop).blk.ng, .bool (Op10.mk 3 va i blk drop).blk.xn, .int .i64 (Op10.mk 3 va i blk drop).drop.kind, .int .u32 (Op10.mk 3 va i blk drop).drop.va, .int .i64 (Op10.mk 3 va i blk drop).drop.asid] 44)) w' g rg)
    (first | assumption | exact Grown2.drew _ _ _ | (refine Grown2.left ?_ hg1 <;> first | assumption | exact Grown2.drew _ _ _) | (refine Grown2.right ?_ hg2 <;> assumption))
    (first | (go_at_call 61; refine (ET.out _ HBD.out.t).mono ?_; rintro e w1 ⟨rfl, hg1, hb1⟩; have hR1 := HBD.out.r.far' hg1 (Ne.symm h.b) (Ne.symm h.c))
           | (go_at_call 64; refine (ER.out _ hR1).mono ?_; rintro e w2 ⟨rfl, hg2, hb2⟩))
  all_goals
    have hGl : Grown2 (w.alloc (.cells #[.int .i64 (Op10.mk 3 va i blk drop).kind, .int .u32 (Op10.mk 3 va i blk drop).va, .int .i64 (Op10.mk 3 va i blk drop).n, .int .i64 (Op10.mk 3 va i blk drop).blk.asid, .int .i64 (Op10.mk 3 va i blk drop).blk.size, .int .u32 (Op10.mk 3 va i blk drop).blk.va, .int .u64 (Op10.mk 3 va i blk drop).blk.pa, .int .i64 (Op10.mk 3 va i blk drop).blk.dom, .int .i64 (Op10.mk 3 va i blk drop).blk.ap, .int .u32 (Op10.mk 3 va i blk drop).blk.bits, .bool (Op10.mk 3 va i blk drop).blk.ng, .bool (Op10.mk 3 va i blk drop).blk.xn, .int .i64 (Op10.mk 3 va i blk drop).drop.kind, .int .u32 (Op10.mk 3 va i blk drop).drop.va, .int .i64 (Op10.mk 3 va i blk drop).drop.asid] 44)) w2 g rg := by assumption
    go_wp2
    go_ret
    exact ⟨by simp, ⟨(HBD.out.t.to hb1 hg1 (by simp)).far' hg2 h.a h.c, hR1.to hb2 hg2 (by simp), h.a, h.b, h.c⟩, hGl.unbox⟩
set_option maxHeartbeats 6400000 in
theorem asked_3n (hk : o.kind = 3) (hn : o.n < 0 ∨ (xs.length : Int) ≤ o.n) :
    Calls Tryd.prog 34 #[.pointer (some ⟨tb, 0, none⟩), .pointer (some ⟨rb, 0, none⟩), (.agg #[.int .i64 o.kind, .int .u32 o.va, .int .i64 o.n, .int .i64 o.blk.asid, .int .i64 o.blk.size, .int .u32 o.blk.va, .int .u64 o.blk.pa, .int .i64 o.blk.dom, .int .i64 o.blk.ap, .int .u32 o.blk.bits, .bool o.blk.ng, .bool o.blk.xn, .int .i64 o.drop.kind, .int .u32 o.drop.va, .int .i64 o.drop.asid])] w fun e w' => e = .returned (.bool true) ∧ Both w' tb g rb rg xs ∧ Grown2 w w' g rg := by
  obtain ⟨kind, va, n, blk, drop⟩ := o
  simp only at hk hn
  subst hk
  have h1 := h.below ((Below.refl _ _).alloc (Nat.le_refl _) (.cells #[.int .i64 (Op10.mk 3 va n blk drop).kind, .int .u32 (Op10.mk 3 va n blk drop).va, .int .i64 (Op10.mk 3 va n blk drop).n, .int .i64 (Op10.mk 3 va n blk drop).blk.asid, .int .i64 (Op10.mk 3 va n blk drop).blk.size, .int .u32 (Op10.mk 3 va n blk drop).blk.va, .int .u64 (Op10.mk 3 va n blk drop).blk.pa, .int .i64 (Op10.mk 3 va n blk drop).blk.dom, .int .i64 (Op10.mk 3 va n blk drop).blk.ap, .int .u32 (Op10.mk 3 va n blk drop).blk.bits, .bool (Op10.mk 3 va n blk drop).blk.ng, .bool (Op10.mk 3 va n blk drop).blk.xn, .int .i64 (Op10.mk 3 va n blk drop).drop.kind, .int .u32 (Op10.mk 3 va n blk drop).drop.va, .int .i64 (Op10.mk 3 va n blk drop).drop.asid] 44))
  have hop : Blok (w.alloc (.cells #[.int .i64 (Op10.mk 3 va n blk drop).kind, .int .u32 (Op10.mk 3 va n blk drop).va, .int .i64 (Op10.mk 3 va n blk drop).n, .int .i64 (Op10.mk 3 va n blk drop).blk.asid, .int .i64 (Op10.mk 3 va n blk drop).blk.size, .int .u32 (Op10.mk 3 va n blk drop).blk.va, .int .u64 (Op10.mk 3 va n blk drop).blk.pa, .int .i64 (Op10.mk 3 va n blk drop).blk.dom, .int .i64 (Op10.mk 3 va n blk drop).blk.ap, .int .u32 (Op10.mk 3 va n blk drop).blk.bits, .bool (Op10.mk 3 va n blk drop).blk.ng, .bool (Op10.mk 3 va n blk drop).blk.xn, .int .i64 (Op10.mk 3 va n blk drop).drop.kind, .int .u32 (Op10.mk 3 va n blk drop).drop.va, .int .i64 (Op10.mk 3 va n blk drop).drop.asid] 44)) w.heap.size 44 (opCells (Op10.mk 3 va n blk drop)) := Blok.new w _ _
  have hG0 : Grown2 (w.alloc (.cells #[.int .i64 (Op10.mk 3 va n blk drop).kind, .int .u32 (Op10.mk 3 va n blk drop).va, .int .i64 (Op10.mk 3 va n blk drop).n, .int .i64 (Op10.mk 3 va n blk drop).blk.asid, .int .i64 (Op10.mk 3 va n blk drop).blk.size, .int .u32 (Op10.mk 3 va n blk drop).blk.va, .int .u64 (Op10.mk 3 va n blk drop).blk.pa, .int .i64 (Op10.mk 3 va n blk drop).blk.dom, .int .i64 (Op10.mk 3 va n blk drop).blk.ap, .int .u32 (Op10.mk 3 va n blk drop).blk.bits, .bool (Op10.mk 3 va n blk drop).blk.ng, .bool (Op10.mk 3 va n blk drop).blk.xn, .int .i64 (Op10.mk 3 va n blk drop).drop.kind, .int .u32 (Op10.mk 3 va n blk drop).drop.va, .int .i64 (Op10.mk 3 va n blk drop).drop.asid] 44)) (w.alloc (.cells #[.int .i64 (Op10.mk 3 va n blk drop).kind, .int .u32 (Op10.mk 3 va n blk drop).va, .int .i64 (Op10.mk 3 va n blk drop).n, .int .i64 (Op10.mk 3 va n blk drop).blk.asid, .int .i64 (Op10.mk 3 va n blk drop).blk.size, .int .u32 (Op10.mk 3 va n blk drop).blk.va, .int .u64 (Op10.mk 3 va n blk drop).blk.pa, .int .i64 (Op10.mk 3 va n blk drop).blk.dom, .int .i64 (Op10.mk 3 va n blk drop).blk.ap, .int .u32 (Op10.mk 3 va n blk drop).blk.bits, .bool (Op10.mk 3 va n blk drop).blk.ng, .bool (Op10.mk 3 va n blk drop).blk.xn, .int .i64 (Op10.mk 3 va n blk drop).drop.kind, .int .u32 (Op10.mk 3 va n blk drop).drop.va, .int .i64 (Op10.mk 3 va n blk drop).drop.asid] 44)) g rg := Grown2.refl _ _ _
  have hbd : Both ((w.alloc (.cells #[.int .i64 (Op10.mk 3 va n blk drop).kind, .int .u32 (Op10.mk 3 va n blk drop).va, .int .i64 (Op10.mk 3 va n blk drop).n, .int .i64 (Op10.mk 3 va n blk drop).blk.asid, .int .i64 (Op10.mk 3 va n blk drop).blk.size, .int .u32 (Op10.mk 3 va n blk drop).blk.va, .int .u64 (Op10.mk 3 va n blk drop).blk.pa, .int .i64 (Op10.mk 3 va n blk drop).blk.dom, .int .i64 (Op10.mk 3 va n blk drop).blk.ap, .int .u32 (Op10.mk 3 va n blk drop).blk.bits, .bool (Op10.mk 3 va n blk drop).blk.ng, .bool (Op10.mk 3 va n blk drop).blk.xn, .int .i64 (Op10.mk 3 va n blk drop).drop.kind, .int .u32 (Op10.mk 3 va n blk drop).drop.va, .int .i64 (Op10.mk 3 va n blk drop).drop.asid] 44))).drew tb g rb rg xs := h1.below (bdrew (Below.refl _ _))
  have hgw : g < w.heap.size := h.t.sl.lt
  have hrw : rg < w.heap.size := h.r.sl.lt
  have c2 : ∀ w', Grown2 (w.alloc (.cells #[.int .i64 (Op10.mk 3 va n blk drop).kind, .int .u32 (Op10.mk 3 va n blk drop).va, .int .i64 (Op10.mk 3 va n blk drop).n, .int .i64 (Op10.mk 3 va n blk drop).blk.asid, .int .i64 (Op10.mk 3 va n blk drop).blk.size, .int .u32 (Op10.mk 3 va n blk drop).blk.va, .int .u64 (Op10.mk 3 va n blk drop).blk.pa, .int .i64 (Op10.mk 3 va n blk drop).blk.dom, .int .i64 (Op10.mk 3 va n blk drop).blk.ap, .int .u32 (Op10.mk 3 va n blk drop).blk.bits, .bool (Op10.mk 3 va n blk drop).blk.ng, .bool (Op10.mk 3 va n blk drop).blk.xn, .int .i64 (Op10.mk 3 va n blk drop).drop.kind, .int .u32 (Op10.mk 3 va n blk drop).drop.va, .int .i64 (Op10.mk 3 va n blk drop).drop.asid] 44)) w' g rg → w'.cell? ⟨w.heap.size, 2, none⟩ = some (.int .i64 n) := fun w' h => (h.cell (by simp) (by omega) (by omega)).trans (hop.cell 2)
  have ET := Lib.hid (fun W hW => tlb_Evict_no tb g xs n hn W hW)
  have ER := Lib.hid (fun W hW => ref_Evict_no rb rg xs n hn W hW)
  have HBD := Lib.hid hbd
  clear hn
  go_enter Tryd.func34, Tryd.ntmps34
  go_wp2_with fail
  go_region_held3 (fun w' => Grown2 (w.alloc (.cells #[.int .i64 (Op10.mk 3 va n blk drop).kind, .int .u32 (Op10.mk 3 va n blk drop).va, .int .i64 (Op10.mk 3 va n blk drop).n, .int .i64 (Op10.mk 3 va n blk drop).blk.asid, .int .i64 (Op10.mk 3 va n blk drop).blk.size, .int .u32 (Op10.mk 3 va n blk drop).blk.va, .int .u64 (Op10.mk 3 va n blk drop).blk.pa, .int .i64 (Op10.mk 3 va n blk drop).blk.dom, .int .i64 (Op10.mk 3 va n blk drop).blk.ap, .int .u32 (Op10.mk 3 va n blk drop).blk.bits, .bool (Op10.mk 3 va n blk drop).blk.ng, .bool (Op10.mk 3 va n blk drop).blk.xn, .int .i64 (Op10.mk 3 va n blk drop).drop.kind, .int .u32 (Op10.mk 3 va n blk drop).drop.va, .int .i64 (Op10.mk 3 va n blk drop).drop.asid] 44)) w' g rg)
    (first | assumption | exact Grown2.drew _ _ _ | (refine Grown2.left ?_ hg1 <;> first | assumption | exact Grown2.drew _ _ _) | (refine Grown2.right ?_ hg2 <;> assumption))
    (first | (go_at_call 61; refine (ET.out _ HBD.out.t).mono ?_; rintro e w1 ⟨rfl, rfl⟩)
           | (go_at_call 64; refine (ER.out _ HBD.out.r).mono ?_; rintro e w2 ⟨rfl, rfl⟩))
  all_goals
    go_wp2
    go_ret
    exact ⟨by simp, HBD.out, Grown2.unbox (Grown2.drew _ _ _)⟩
set_option maxHeartbeats 6400000 in
include hok hg0 hs in
theorem asked_4 (hk1 : (o.kind == 1) = false) (hk2 : (o.kind == 2) = false) (hk3 : (o.kind == 3) = false) :
    Calls Tryd.prog 34 #[.pointer (some ⟨tb, 0, none⟩), .pointer (some ⟨rb, 0, none⟩), (.agg #[.int .i64 o.kind, .int .u32 o.va, .int .i64 o.n, .int .i64 o.blk.asid, .int .i64 o.blk.size, .int .u32 o.blk.va, .int .u64 o.blk.pa, .int .i64 o.blk.dom, .int .i64 o.blk.ap, .int .u32 o.blk.bits, .bool o.blk.ng, .bool o.blk.xn, .int .i64 o.drop.kind, .int .u32 o.drop.va, .int .i64 o.drop.asid])] w fun e w' => e = .returned (.bool true) ∧ Both w' tb g rb rg (dropRow o.drop xs) ∧ Grown2 w w' g rg := by
  obtain ⟨kind, va, n, blk, drop⟩ := o
  simp only at hk1 hk2 hk3
  have h1 := h.below ((Below.refl _ _).alloc (Nat.le_refl _) (.cells #[.int .i64 (Op10.mk kind va n blk drop).kind, .int .u32 (Op10.mk kind va n blk drop).va, .int .i64 (Op10.mk kind va n blk drop).n, .int .i64 (Op10.mk kind va n blk drop).blk.asid, .int .i64 (Op10.mk kind va n blk drop).blk.size, .int .u32 (Op10.mk kind va n blk drop).blk.va, .int .u64 (Op10.mk kind va n blk drop).blk.pa, .int .i64 (Op10.mk kind va n blk drop).blk.dom, .int .i64 (Op10.mk kind va n blk drop).blk.ap, .int .u32 (Op10.mk kind va n blk drop).blk.bits, .bool (Op10.mk kind va n blk drop).blk.ng, .bool (Op10.mk kind va n blk drop).blk.xn, .int .i64 (Op10.mk kind va n blk drop).drop.kind, .int .u32 (Op10.mk kind va n blk drop).drop.va, .int .i64 (Op10.mk kind va n blk drop).drop.asid] 44))
  have hop : Blok (w.alloc (.cells #[.int .i64 (Op10.mk kind va n blk drop).kind, .int .u32 (Op10.mk kind va n blk drop).va, .int .i64 (Op10.mk kind va n blk drop).n, .int .i64 (Op10.mk kind va n blk drop).blk.asid, .int .i64 (Op10.mk kind va n blk drop).blk.size, .int .u32 (Op10.mk kind va n blk drop).blk.va, .int .u64 (Op10.mk kind va n blk drop).blk.pa, .int .i64 (Op10.mk kind va n blk drop).blk.dom, .int .i64 (Op10.mk kind va n blk drop).blk.ap, .int .u32 (Op10.mk kind va n blk drop).blk.bits, .bool (Op10.mk kind va n blk drop).blk.ng, .bool (Op10.mk kind va n blk drop).blk.xn, .int .i64 (Op10.mk kind va n blk drop).drop.kind, .int .u32 (Op10.mk kind va n blk drop).drop.va, .int .i64 (Op10.mk kind va n blk drop).drop.asid] 44)) w.heap.size 44 (opCells (Op10.mk kind va n blk drop)) := Blok.new w _ _
  have hG0 : Grown2 (w.alloc (.cells #[.int .i64 (Op10.mk kind va n blk drop).kind, .int .u32 (Op10.mk kind va n blk drop).va, .int .i64 (Op10.mk kind va n blk drop).n, .int .i64 (Op10.mk kind va n blk drop).blk.asid, .int .i64 (Op10.mk kind va n blk drop).blk.size, .int .u32 (Op10.mk kind va n blk drop).blk.va, .int .u64 (Op10.mk kind va n blk drop).blk.pa, .int .i64 (Op10.mk kind va n blk drop).blk.dom, .int .i64 (Op10.mk kind va n blk drop).blk.ap, .int .u32 (Op10.mk kind va n blk drop).blk.bits, .bool (Op10.mk kind va n blk drop).blk.ng, .bool (Op10.mk kind va n blk drop).blk.xn, .int .i64 (Op10.mk kind va n blk drop).drop.kind, .int .u32 (Op10.mk kind va n blk drop).drop.va, .int .i64 (Op10.mk kind va n blk drop).drop.asid] 44)) (w.alloc (.cells #[.int .i64 (Op10.mk kind va n blk drop).kind, .int .u32 (Op10.mk kind va n blk drop).va, .int .i64 (Op10.mk kind va n blk drop).n, .int .i64 (Op10.mk kind va n blk drop).blk.asid, .int .i64 (Op10.mk kind va n blk drop).blk.size, .int .u32 (Op10.mk kind va n blk drop).blk.va, .int .u64 (Op10.mk kind va n blk drop).blk.pa, .int .i64 (Op10.mk kind va n blk drop).blk.dom, .int .i64 (Op10.mk kind va n blk drop).blk.ap, .int .u32 (Op10.mk kind va n blk drop).blk.bits, .bool (Op10.mk kind va n blk drop).blk.ng, .bool (Op10.mk kind va n blk drop).blk.xn, .int .i64 (Op10.mk kind va n blk drop).drop.kind, .int .u32 (Op10.mk kind va n blk drop).drop.va, .int .i64 (Op10.mk kind va n blk drop).drop.asid] 44)) g rg := Grown2.refl _ _ _
  have hbd : Both ((w.alloc (.cells #[.int .i64 (Op10.mk kind va n blk drop).kind, .int .u32 (Op10.mk kind va n blk drop).va, .int .i64 (Op10.mk kind va n blk drop).n, .int .i64 (Op10.mk kind va n blk drop).blk.asid, .int .i64 (Op10.mk kind va n blk drop).blk.size, .int .u32 (Op10.mk kind va n blk drop).blk.va, .int .u64 (Op10.mk kind va n blk drop).blk.pa, .int .i64 (Op10.mk kind va n blk drop).blk.dom, .int .i64 (Op10.mk kind va n blk drop).blk.ap, .int .u32 (Op10.mk kind va n blk drop).blk.bits, .bool (Op10.mk kind va n blk drop).blk.ng, .bool (Op10.mk kind va n blk drop).blk.xn, .int .i64 (Op10.mk kind va n blk drop).drop.kind, .int .u32 (Op10.mk kind va n blk drop).drop.va, .int .i64 (Op10.mk kind va n blk drop).drop.asid] 44))).drew tb g rb rg xs := h1.below (bdrew (Below.refl _ _))
  have hgw : g < w.heap.size := h.t.sl.lt
  have hrw : rg < w.heap.size := h.r.sl.lt
  have c12 : ∀ w', Grown2 (w.alloc (.cells #[.int .i64 (Op10.mk kind va n blk drop).kind, .int .u32 (Op10.mk kind va n blk drop).va, .int .i64 (Op10.mk kind va n blk drop).n, .int .i64 (Op10.mk kind va n blk drop).blk.asid, .int .i64 (Op10.mk kind va n blk drop).blk.size, .int .u32 (Op10.mk kind va n blk drop).blk.va, .int .u64 (Op10.mk kind va n blk drop).blk.pa, .int .i64 (Op10.mk kind va n blk drop).blk.dom, .int .i64 (Op10.mk kind va n blk drop).blk.ap, .int .u32 (Op10.mk kind va n blk drop).blk.bits, .bool (Op10.mk kind va n blk drop).blk.ng, .bool (Op10.mk kind va n blk drop).blk.xn, .int .i64 (Op10.mk kind va n blk drop).drop.kind, .int .u32 (Op10.mk kind va n blk drop).drop.va, .int .i64 (Op10.mk kind va n blk drop).drop.asid] 44)) w' g rg → w'.cell? ⟨w.heap.size, 12, none⟩ = some (.int .i64 drop.kind) := fun w' h => (h.cell (by simp) (by omega) (by omega)).trans (hop.cell 12)
  have c13 : ∀ w', Grown2 (w.alloc (.cells #[.int .i64 (Op10.mk kind va n blk drop).kind, .int .u32 (Op10.mk kind va n blk drop).va, .int .i64 (Op10.mk kind va n blk drop).n, .int .i64 (Op10.mk kind va n blk drop).blk.asid, .int .i64 (Op10.mk kind va n blk drop).blk.size, .int .u32 (Op10.mk kind va n blk drop).blk.va, .int .u64 (Op10.mk kind va n blk drop).blk.pa, .int .i64 (Op10.mk kind va n blk drop).blk.dom, .int .i64 (Op10.mk kind va n blk drop).blk.ap, .int .u32 (Op10.mk kind va n blk drop).blk.bits, .bool (Op10.mk kind va n blk drop).blk.ng, .bool (Op10.mk kind va n blk drop).blk.xn, .int .i64 (Op10.mk kind va n blk drop).drop.kind, .int .u32 (Op10.mk kind va n blk drop).drop.va, .int .i64 (Op10.mk kind va n blk drop).drop.asid] 44)) w' g rg → w'.cell? ⟨w.heap.size, 13, none⟩ = some (.int .u32 drop.va) := fun w' h => (h.cell (by simp) (by omega) (by omega)).trans (hop.cell 13)
  have c14 : ∀ w', Grown2 (w.alloc (.cells #[.int .i64 (Op10.mk kind va n blk drop).kind, .int .u32 (Op10.mk kind va n blk drop).va, .int .i64 (Op10.mk kind va n blk drop).n, .int .i64 (Op10.mk kind va n blk drop).blk.asid, .int .i64 (Op10.mk kind va n blk drop).blk.size, .int .u32 (Op10.mk kind va n blk drop).blk.va, .int .u64 (Op10.mk kind va n blk drop).blk.pa, .int .i64 (Op10.mk kind va n blk drop).blk.dom, .int .i64 (Op10.mk kind va n blk drop).blk.ap, .int .u32 (Op10.mk kind va n blk drop).blk.bits, .bool (Op10.mk kind va n blk drop).blk.ng, .bool (Op10.mk kind va n blk drop).blk.xn, .int .i64 (Op10.mk kind va n blk drop).drop.kind, .int .u32 (Op10.mk kind va n blk drop).drop.va, .int .i64 (Op10.mk kind va n blk drop).drop.asid] 44)) w' g rg → w'.cell? ⟨w.heap.size, 14, none⟩ = some (.int .i64 drop.asid) := fun w' h => (h.cell (by simp) (by omega) (by omega)).trans (hop.cell 14)
  have hsd : Shf ((w.alloc (.cells #[.int .i64 (Op10.mk kind va n blk drop).kind, .int .u32 (Op10.mk kind va n blk drop).va, .int .i64 (Op10.mk kind va n blk drop).n, .int .i64 (Op10.mk kind va n blk drop).blk.asid, .int .i64 (Op10.mk kind va n blk drop).blk.size, .int .u32 (Op10.mk kind va n blk drop).blk.va, .int .u64 (Op10.mk kind va n blk drop).blk.pa, .int .i64 (Op10.mk kind va n blk drop).blk.dom, .int .i64 (Op10.mk kind va n blk drop).blk.ap, .int .u32 (Op10.mk kind va n blk drop).blk.bits, .bool (Op10.mk kind va n blk drop).blk.ng, .bool (Op10.mk kind va n blk drop).blk.xn, .int .i64 (Op10.mk kind va n blk drop).drop.kind, .int .u32 (Op10.mk kind va n blk drop).drop.va, .int .i64 (Op10.mk kind va n blk drop).drop.asid] 44))).drew := (hs.alloc _).drewN 1
  have ET := Lib.hid (fun W h1 h2 => tlb_Flush_is drop tb g xs hok hg0 W h1 h2)
  have ER := Lib.hid (fun W hW => ref_Flush_is drop rb rg xs hok W hW)
  have HBD := Lib.hid hbd
  go_enter Tryd.func34, Tryd.ntmps34
  go_wp2_with fail
  go_region_held3 (fun w' => Grown2 (w.alloc (.cells #[.int .i64 (Op10.mk kind va n blk drop).kind, .int .u32 (Op10.mk kind va n blk drop).va, .int .i64 (Op10.mk kind va n blk drop).n, .int .i64 (Op10.mk kind va n blk drop).blk.asid, .int .i64 (Op10.mk kind va n blk drop).blk.size, .int .u32 (Op10.mk kind va n blk drop).blk.va, .int .u64 (Op10.mk kind va n blk drop).blk.pa, .int .i64 (Op10.mk kind va n blk drop).blk.dom, .int .i64 (Op10.mk kind va n blk drop).blk.ap, .int .u32 (Op10.mk kind va n blk drop).blk.bits, .bool (Op10.mk kind va n blk drop).blk.ng, .bool (Op10.mk kind va n blk drop).blk.xn, .int .i64 (Op10.mk kind va n blk drop).drop.kind, .int .u32 (Op10.mk kind va n blk drop).drop.va, .int .i64 (Op10.mk kind va n blk drop).drop.asid] 44)) w' g rg)
    (first | assumption | exact Grown2.drew _ _ _ | (refine Grown2.left ?_ hg1 <;> first | assumption | exact Grown2.drew _ _ _) | (refine Grown2.right ?_ hg2 <;> assumption))
    (first | (go_at_call 55; refine (ET.out _ hsd HBD.out.t).mono ?_; rintro e w1 ⟨rfl, hb1, hg1⟩; have hR1 := HBD.out.r.far' hg1 (Ne.symm h.b) (Ne.symm h.c))
           | (go_at_call 65; refine (ER.out _ hR1).mono ?_; rintro e w2 ⟨rfl, hb2, hg2⟩))
  all_goals
    have hGl : Grown2 (w.alloc (.cells #[.int .i64 (Op10.mk kind va n blk drop).kind, .int .u32 (Op10.mk kind va n blk drop).va, .int .i64 (Op10.mk kind va n blk drop).n, .int .i64 (Op10.mk kind va n blk drop).blk.asid, .int .i64 (Op10.mk kind va n blk drop).blk.size, .int .u32 (Op10.mk kind va n blk drop).blk.va, .int .u64 (Op10.mk kind va n blk drop).blk.pa, .int .i64 (Op10.mk kind va n blk drop).blk.dom, .int .i64 (Op10.mk kind va n blk drop).blk.ap, .int .u32 (Op10.mk kind va n blk drop).blk.bits, .bool (Op10.mk kind va n blk drop).blk.ng, .bool (Op10.mk kind va n blk drop).blk.xn, .int .i64 (Op10.mk kind va n blk drop).drop.kind, .int .u32 (Op10.mk kind va n blk drop).drop.va, .int .i64 (Op10.mk kind va n blk drop).drop.asid] 44)) w2 g rg := by assumption
    go_wp2
    go_ret
    exact ⟨by simp, ⟨(HBD.out.t.to hb1 hg1 (by simp [dropRow])).far' hg2 h.a h.c, hR1.to hb2 hg2 (by simp [dropRow]), h.a, h.b, h.c⟩, hGl.unbox⟩
include ho hok hg0 hs in
theorem asked_is :
    Calls Tryd.prog 34 #[.pointer (some ⟨tb, 0, none⟩), .pointer (some ⟨rb, 0, none⟩), (.agg #[.int .i64 o.kind, .int .u32 o.va, .int .i64 o.n, .int .i64 o.blk.asid, .int .i64 o.blk.size, .int .u32 o.blk.va, .int .u64 o.blk.pa, .int .i64 o.blk.dom, .int .i64 o.blk.ap, .int .u32 o.blk.bits, .bool o.blk.ng, .bool o.blk.xn, .int .i64 o.drop.kind, .int .u32 o.drop.va, .int .i64 o.drop.asid])] w fun e w' => e = .returned (.bool true) ∧ Both w' tb g rb rg (askRow o xs) ∧ Grown2 w w' g rg := by
  by_cases h1 : o.kind = 1
  · have e3 : askRow o xs = xs := by unfold askRow; simp [h1]
    rw [e3]
    exact asked_1 o tb g rb rg xs hok w hs h h1
  by_cases h2 : o.kind = 2
  · cases hr : rightB o.blk
    · have e3 : askRow o xs = xs := by unfold askRow; simp [h2, hr]
      rw [e3]
      exact asked_2n o ho tb g rb rg xs w hs h h2 hr
    · have e3 : askRow o xs = putRow o.blk xs o.n := by unfold askRow; simp [h2, hr]
      rw [e3]
      exact asked_2y o ho tb g rb rg xs w hs h h2 hr
  by_cases h3 : o.kind = 3
  · by_cases hn : 0 ≤ o.n ∧ o.n < xs.length
    · have e3 : askRow o xs = xs.set o.n.toNat zslot := by unfold askRow; simp [h3, hn]
      rw [e3]
      exact asked_3y o tb g rb rg xs w h h3 hn
    · have e3 : askRow o xs = xs := by unfold askRow; simp [h3, hn]
      rw [e3]
      exact asked_3n o tb g rb rg xs w h h3 (by omega)
  have e3 : askRow o xs = dropRow o.drop xs := by unfold askRow; simp [h1, h2, h3]
  rw [e3]
  exact asked_4 o tb g rb rg xs hok hg0 w hs h (beq_eq_false_iff_ne.2 h1) (beq_eq_false_iff_ne.2 h2) (beq_eq_false_iff_ne.2 h3)
end
end Go.Proofs.YtngcpcgioophcaaDoor
