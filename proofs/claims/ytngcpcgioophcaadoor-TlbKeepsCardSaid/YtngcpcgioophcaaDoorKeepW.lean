/- The walk of within of layer 10: in how many places a block is. -/
import Derived.Test.YtngcpcgioophcaaDoorKeepP
namespace Go.Proofs.YtngcpcgioophcaaDoor
open Go.RowKit

set_option maxHeartbeats 3200000 in
set_option maxRecDepth 100000 in
theorem within_is (g n : Nat) (xs : List Slot) (hn : xs.length = n) (hl2 : n ≤ 64) (b : Blk) (cap : Nat) (w : World) (h : Blok w g 50 (rowCells xs)) :
    Calls Tryd.prog 27 #[.slice (some ⟨g, 0, none⟩) n cap, (.agg #[.int .i64 b.asid, .int .i64 b.size, .int .u32 b.va, .int .u64 b.pa, .int .i64 b.dom, .int .i64 b.ap, .int .u32 b.bits, .bool b.ng, .bool b.xn])] w fun e w' => e = .returned (.int .i64 (inN b xs)) ∧ Below w.heap.size w w' := by
  have hX : Blok (w.alloc (.cells #[.int .i64 b.asid, .int .i64 b.size, .int .u32 b.va, .int .u64 b.pa, .int .i64 b.dom, .int .i64 b.ap, .int .u32 b.bits, .bool b.ng, .bool b.xn] 29)) w.heap.size 29 (blkCells b) := Blok.new w _ _
  have hB0 : Below w.heap.size w (w.alloc (.cells #[.int .i64 b.asid, .int .i64 b.size, .int .u32 b.va, .int .u64 b.pa, .int .i64 b.dom, .int .i64 b.ap, .int .u32 b.bits, .bool b.ng, .bool b.xn] 29)) := (Below.refl _ _).alloc (Nat.le_refl _) _
  have h0 := h.below hB0 h.lt
  have HN := Lib.hid hn
  have HZ := Lib.hid (show inN b (xs.take 0) = 0 from rfl)
  clear hn
  go_enter Tryd.func27, Tryd.ntmps27
  go_wp2_with fail
  go_loopw [5, 6] (fun v5 v6 wr => ∃ k : Nat, k ≤ n ∧ v6 = .int .i64 k ∧ v5 = .int .i64 (inN b (xs.take k)) ∧ Blok wr g 50 (rowCells xs) ∧ Blok wr w.heap.size 29 (blkCells b) ∧ Below w.heap.size w wr) (fun _ v6 _ => n - (intOf v6).toNat)
  case atStart => exact ⟨0, Nat.zero_le _, rfl, by rw [HZ.out]; rfl, h0, hX, hB0⟩
  case round =>
    obtain ⟨k, hk, rfl, rfl, hL, hXr, hB⟩ := hrel
    clear h0 hX hB0
    have hle := inN_le b (xs.take k)
    have hle2 := List.length_take_le k xs
    by_cases hlt : k < n
    · obtain ⟨s, hsk⟩ : ∃ s, xs[k]? = some s := ⟨_, List.getElem?_eq_getElem (by rw [HN.out]; exact hlt)⟩
      obtain ⟨full, bb⟩ := s
      have hcs : ∀ q (_ : q < 10), wr.cell? ⟨g, k * 10 + q, none⟩ = (slotCells ⟨full, bb⟩)[q]? := fun q hq => by rw [hL.cell, rowCells_at xs k q _ hsk hq]
      have hstep := inN_snoc b (xs.take k) ⟨full, bb⟩
      rw [← take_snoc xs k _ hsk] at hstep
      have i0 : (0 : Int) ≤ ↑k := by omega
      have i1 : (↑k : Int) < ↑n := by omega
      clear hsk
      cases full
      · (have d0 : (wr).cell? ⟨g, k * 10, none⟩ = some (.bool false) := hcs 0 (by omega); have d1 : (wr).cell? ⟨g, k * 10 + 1, none⟩ = some (.int .i64 bb.asid) := hcs 1 (by omega); have d2 : (wr).cell? ⟨g, k * 10 + 2, none⟩ = some (.int .i64 bb.size) := hcs 2 (by omega); have d3 : (wr).cell? ⟨g, k * 10 + 3, none⟩ = some (.int .u32 bb.va) := hcs 3 (by omega); have d4 : (wr).cell? ⟨g, k * 10 + 4, none⟩ = some (.int .u64 bb.pa) := hcs 4 (by omega); have d5 : (wr).cell? ⟨g, k * 10 + 5, none⟩ = some (.int .i64 bb.dom) := hcs 5 (by omega); have d6 : (wr).cell? ⟨g, k * 10 + 6, none⟩ = some (.int .i64 bb.ap) := hcs 6 (by omega); have d7 : (wr).cell? ⟨g, k * 10 + 7, none⟩ = some (.int .u32 bb.bits) := hcs 7 (by omega); have d8 : (wr).cell? ⟨g, k * 10 + 8, none⟩ = some (.bool bb.ng) := hcs 8 (by omega); have d9 : (wr).cell? ⟨g, k * 10 + 9, none⟩ = some (.bool bb.xn) := hcs 9 (by omega))
        have HS := Lib.hid (show inN b (xs.take (k + 1)) = inN b (xs.take k) by rw [hstep]; simp [same])
        clear hcs hstep
        (have c0 : (wr).cell? ⟨w.heap.size, 0, none⟩ = some (.int .i64 b.asid) := (hXr).cell 0; have c1 : (wr).cell? ⟨w.heap.size, 1, none⟩ = some (.int .i64 b.size) := (hXr).cell 1; have c2 : (wr).cell? ⟨w.heap.size, 2, none⟩ = some (.int .u32 b.va) := (hXr).cell 2; have c3 : (wr).cell? ⟨w.heap.size, 3, none⟩ = some (.int .u64 b.pa) := (hXr).cell 3; have c4 : (wr).cell? ⟨w.heap.size, 4, none⟩ = some (.int .i64 b.dom) := (hXr).cell 4; have c5 : (wr).cell? ⟨w.heap.size, 5, none⟩ = some (.int .i64 b.ap) := (hXr).cell 5; have c6 : (wr).cell? ⟨w.heap.size, 6, none⟩ = some (.int .u32 b.bits) := (hXr).cell 6; have c7 : (wr).cell? ⟨w.heap.size, 7, none⟩ = some (.bool b.ng) := (hXr).cell 7; have c8 : (wr).cell? ⟨w.heap.size, 8, none⟩ = some (.bool b.xn) := (hXr).cell 8)
        go_wp2_with fail
        go_quiet (fail)
        go_wp2
        go_roundw
        case rel => exact ⟨k + 1, by omega, by go_num, by rw [HS.out], hL.drewN _, hXr.drewN _, bdrewN hB _⟩
        case measure => simp [intOf]; omega
      · (have d0 : (wr).cell? ⟨g, k * 10, none⟩ = some (.bool true) := hcs 0 (by omega); have d1 : (wr).cell? ⟨g, k * 10 + 1, none⟩ = some (.int .i64 bb.asid) := hcs 1 (by omega); have d2 : (wr).cell? ⟨g, k * 10 + 2, none⟩ = some (.int .i64 bb.size) := hcs 2 (by omega); have d3 : (wr).cell? ⟨g, k * 10 + 3, none⟩ = some (.int .u32 bb.va) := hcs 3 (by omega); have d4 : (wr).cell? ⟨g, k * 10 + 4, none⟩ = some (.int .u64 bb.pa) := hcs 4 (by omega); have d5 : (wr).cell? ⟨g, k * 10 + 5, none⟩ = some (.int .i64 bb.dom) := hcs 5 (by omega); have d6 : (wr).cell? ⟨g, k * 10 + 6, none⟩ = some (.int .i64 bb.ap) := hcs 6 (by omega); have d7 : (wr).cell? ⟨g, k * 10 + 7, none⟩ = some (.int .u32 bb.bits) := hcs 7 (by omega); have d8 : (wr).cell? ⟨g, k * 10 + 8, none⟩ = some (.bool bb.ng) := hcs 8 (by omega); have d9 : (wr).cell? ⟨g, k * 10 + 9, none⟩ = some (.bool bb.xn) := hcs 9 (by omega))
        (have c0 : (wr).cell? ⟨w.heap.size, 0, none⟩ = some (.int .i64 b.asid) := (hXr).cell 0; have c1 : (wr).cell? ⟨w.heap.size, 1, none⟩ = some (.int .i64 b.size) := (hXr).cell 1; have c2 : (wr).cell? ⟨w.heap.size, 2, none⟩ = some (.int .u32 b.va) := (hXr).cell 2; have c3 : (wr).cell? ⟨w.heap.size, 3, none⟩ = some (.int .u64 b.pa) := (hXr).cell 3; have c4 : (wr).cell? ⟨w.heap.size, 4, none⟩ = some (.int .i64 b.dom) := (hXr).cell 4; have c5 : (wr).cell? ⟨w.heap.size, 5, none⟩ = some (.int .i64 b.ap) := (hXr).cell 5; have c6 : (wr).cell? ⟨w.heap.size, 6, none⟩ = some (.int .u32 b.bits) := (hXr).cell 6; have c7 : (wr).cell? ⟨w.heap.size, 7, none⟩ = some (.bool b.ng) := (hXr).cell 7; have c8 : (wr).cell? ⟨w.heap.size, 8, none⟩ = some (.bool b.xn) := (hXr).cell 8)
        have heq0 := fun W => eql_blk bb b W
        cases hxb : bb.eqB b
        · have HS := Lib.hid (show inN b (xs.take (k + 1)) = inN b (xs.take k) by rw [hstep]; simp [same, hxb])
          rw [hxb] at heq0
          clear hcs hstep hxb
          go_wp2_with fail
          go_quiet (fail)
          go_wp2
          go_roundw
          case rel => exact ⟨k + 1, by omega, by go_num, by rw [HS.out], hL.drewN _, hXr.drewN _, bdrewN hB _⟩
          case measure => simp [intOf]; omega
        · have HS := Lib.hid (show inN b (xs.take (k + 1)) = inN b (xs.take k) + 1 by rw [hstep]; simp [same, hxb])
          rw [hxb] at heq0
          clear hcs hstep hxb
          go_wp2_with fail
          go_quiet (fail)
          go_wp2
          go_roundw
          case rel => exact ⟨k + 1, by omega, by go_num, by rw [HS.out]; go_num, hL.drewN _, hXr.drewN _, bdrewN hB _⟩
          case measure => simp [intOf]; omega
    · have htk : xs.take k = xs := List.take_of_length_le (by rw [HN.out]; omega)
      rw [htk]
      clear htk
      go_wp2
      go_ret
      exact ⟨rfl, hB⟩
end Go.Proofs.YtngcpcgioophcaaDoor
