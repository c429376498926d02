/- The program's New, Len, Cap, Places and Evict of layer 10 (tlb). -/
import Derived.Test.YtngcpcgioophcaaDoorLook
import Derived.Test.YtngcpcgioophcaaDoorPlain2
import Derived.Laws.CopyOwn
namespace Go.Proofs.YtngcpcgioophcaaDoor
open Go.RowKit

theorem made_zero (n : Nat) : madeCells #[.bool false, .int .i64 0, .int .i64 0, .int .u32 0, .int .u64 0, .int .i64 0, .int .i64 0, .int .u32 0, .bool false, .bool false] (n * 10) = (rowCells (newRow n)).toArray := by
  apply Array.ext_getElem?
  intro i
  have hl : (rowCells (newRow n)).length = n * 10 := by rw [rowCells_len]; simp [newRow]
  by_cases h : i < n * 10
  · have h1 : (rowCells (newRow n)).toArray[i]? = (rowCells (newRow n))[i / 10 * 10 + i % 10]? := by
      have e : i / 10 * 10 + i % 10 = i := by omega
      rw [e]; simp
    have h2 : (newRow n)[i / 10]? = some zslot := by unfold newRow; rw [List.getElem?_replicate]; rw [if_pos (by omega)]
    rw [h1, rowCells_at _ _ _ _ h2 (by omega)]
    simp only [madeCells, Array.getElem?_map, Array.getElem?_range, h, if_true, Option.map_some]
    have h3 : i % 10 < 10 := by omega
    have h4 : i % (#[.bool false, .int .i64 0, .int .i64 0, .int .u32 0, .int .u64 0, .int .i64 0, .int .i64 0, .int .u32 0, .bool false, .bool false] : Array Value).size = i % 10 := rfl
    rw [h4]
    generalize i % 10 = j at h3
    match j, h3 with
    | 0, _ => rfl
    | 1, _ => rfl
    | 2, _ => rfl
    | 3, _ => rfl
    | 4, _ => rfl
    | 5, _ => rfl
    | 6, _ => rfl
    | 7, _ => rfl
    | 8, _ => rfl
    | 9, _ => rfl
  · rw [Array.getElem?_eq_none (by simp [size_madeCells]; omega), Array.getElem?_eq_none (by simp [hl]; omega)]
theorem slot_info : (Tryd.prog.info? 50).map (fun i => (i.zero, i.size, i.bytes)) = some (some (.agg #[.bool false, .int .i64 0, .int .i64 0, .int .u32 0, .int .u64 0, .int .i64 0, .int .i64 0, .int .u32 0, .bool false, .bool false]), 10, 64) := by kernel_rfl
theorem make_slots (n : Nat) (hn : n ≤ 64) (W : World) : (Instr.makeSlice 45 (.int .i64 n) (.int .i64 n)).run Tryd.prog W = .ok (.slice (some ⟨W.heap.size, 0, none⟩) n n) (W.alloc (.cells (rowCells (newRow n)).toArray 50)) := by
  obtain ⟨i0, hi, hz0, hz1, hz2⟩ := info_parts slot_info
  have h := run_make (P := Tryd.prog) (w := W) 45 50 i0 _ Tryd.underlying45 hi hz0 .i64 .i64 n n (by omega) (by omega) (by rw [hz2]; omega) (by omega)
  simp only [Int.toNat_natCast, hz1, Value.cells] at h
  rw [made_zero] at h
  exact h
set_option maxHeartbeats 800000 in
theorem tlb_New_yes (n : Nat) (h1 : 1 ≤ n) (h2 : n ≤ 64) (w : World) :
    Calls Tryd.prog 31 #[.int .i64 n] w fun e w' => e = .returned (.tuple #[.pointer (some ⟨w.heap.size + 1, 0, none⟩), .int .i64 0]) ∧ IsTlb w' 105 50 (w.heap.size + 1) w.heap.size (newRow n) ∧ Below w.heap.size w w' := by
  have hmk := make_slots n h2
  go_enter Tryd.func31, Tryd.ntmps31
  go_wp2
  go_ret2
  have hlen : (newRow n).length = n := by simp [newRow]
  refine ⟨rfl, ⟨?_, ?_, by omega, by omega, by omega⟩, ((Below.refl _ _).alloc (Nat.le_refl _) _).alloc (by simp) _⟩
  · have := Blok.new (w.alloc (.cells (rowCells (newRow n)).toArray 50)) 105 [.slice (some ⟨w.heap.size, 0, none⟩) n n]
    rw [hlen]
    have e : (w.alloc (.cells (rowCells (newRow n)).toArray 50)).heap.size = w.heap.size + 1 := by simp
    rw [e] at this
    exact this
  · exact (Blok.new w _ _).alloc _
theorem tlb_New_no (n : Int) (h : n < 1 ∨ 64 < n) (w : World) :
    Calls Tryd.prog 31 #[.int .i64 n] w fun e w' => e = .returned (.tuple #[.pointer none, .int .i64 100]) ∧ w = w' := by
  rcases h with h | h
  all_goals
    go_enter Tryd.func31, Tryd.ntmps31
    go_wp2
  all_goals
    go_ret2
    exact ⟨rfl, rfl⟩
theorem tlb_Cap_is (tb g : Nat) (xs : List Slot) (w : World) (h : IsTlb w 105 50 tb g xs) :
    Calls Tryd.prog 37 #[.pointer (some ⟨tb, 0, none⟩)] w fun e w' => e = .returned (.int .i64 xs.length) ∧ w = w' := by
  have c0 : w.cell? ⟨tb, 0, none⟩ = some (.slice (some ⟨g, 0, none⟩) xs.length xs.length) := h.hd.cell 0
  go_enter Tryd.func37, Tryd.ntmps37
  go_wp2
  go_ret
  exact ⟨rfl, rfl⟩
theorem tlb_Evict_no (tb g : Nat) (xs : List Slot) (i : Int) (hi : i < 0 ∨ xs.length ≤ i) (w : World) (h : IsTlb w 105 50 tb g xs) :
    Calls Tryd.prog 61 #[.pointer (some ⟨tb, 0, none⟩), .int .i64 i] w fun e w' => e = .returned (.bool false) ∧ w = w' := by
  have c0 : w.cell? ⟨tb, 0, none⟩ = some (.slice (some ⟨g, 0, none⟩) xs.length xs.length) := h.hd.cell 0
  rcases hi with hi | hi
  all_goals
    go_enter Tryd.func61, Tryd.ntmps61
    go_wp2
  all_goals
    go_ret
    exact ⟨rfl, rfl⟩
set_option maxHeartbeats 1600000 in
theorem tlb_Len_is (tb g : Nat) (xs : List Slot) (w : World) (h : IsTlb w 105 50 tb g xs) :
    Calls Tryd.prog 35 #[.pointer (some ⟨tb, 0, none⟩)] w fun e w' => e = .returned (.int .i64 (lenL xs)) ∧ Below w.heap.size w w' := by
  have hl2 := h.le
  have c0 : w.cell? ⟨tb, 0, none⟩ = some (.slice (some ⟨g, 0, none⟩) xs.length xs.length) := h.hd.cell 0
  go_enter Tryd.func35, Tryd.ntmps35
  go_wp2
  go_loopw [3, 11] (fun v3 v11 wr => ∃ k : Nat, k ≤ xs.length ∧ v11 = .int .i64 k ∧ v3 = .int .i64 (lenL (xs.take k)) ∧ Below w.heap.size w wr) (fun _ v11 _ => xs.length - (intOf v11).toNat)
  case atStart => exact ⟨0, Nat.zero_le _, rfl, rfl, Below.refl _ _⟩
  case round =>
    obtain ⟨k, hk, rfl, rfl, hB⟩ := hrel
    have hwz := hB.size
    by_cases hlt : k < xs.length
    · obtain ⟨s, hsk⟩ : ∃ s, xs[k]? = some s := ⟨_, List.getElem?_eq_getElem hlt⟩
      obtain ⟨full, b⟩ := s
      have hcs := (h.below hB).cells k _ hsk
      (have d0 : (wr).cell? ⟨g, k * 10, none⟩ = some (.bool full) := hcs 0 (by omega); have d1 : (wr).cell? ⟨g, k * 10 + 1, none⟩ = some (.int .i64 b.asid) := hcs 1 (by omega); have d2 : (wr).cell? ⟨g, k * 10 + 2, none⟩ = some (.int .i64 b.size) := hcs 2 (by omega); have d3 : (wr).cell? ⟨g, k * 10 + 3, none⟩ = some (.int .u32 b.va) := hcs 3 (by omega); have d4 : (wr).cell? ⟨g, k * 10 + 4, none⟩ = some (.int .u64 b.pa) := hcs 4 (by omega); have d5 : (wr).cell? ⟨g, k * 10 + 5, none⟩ = some (.int .i64 b.dom) := hcs 5 (by omega); have d6 : (wr).cell? ⟨g, k * 10 + 6, none⟩ = some (.int .i64 b.ap) := hcs 6 (by omega); have d7 : (wr).cell? ⟨g, k * 10 + 7, none⟩ = some (.int .u32 b.bits) := hcs 7 (by omega); have d8 : (wr).cell? ⟨g, k * 10 + 8, none⟩ = some (.bool b.ng) := hcs 8 (by omega); have d9 : (wr).cell? ⟨g, k * 10 + 9, none⟩ = some (.bool b.xn) := hcs 9 (by omega))
      have hst := lenL_snoc (xs.take k) ⟨full, b⟩
      rw [← take_snoc xs k _ hsk] at hst
      have hle := lenL_le (xs.take k)
      have hle2 : lenL (xs.take k) ≤ 64 := by have := List.length_take_le k xs; omega
      have HS := Lib.hid hst
      clear hcs hst hle
      cases full
      all_goals
        go_wp2
        go_roundw
        case rel => exact ⟨k + 1, by omega, by go_num, by rw [HS.out]; first | rfl | go_num, hB.alloc (by omega) _⟩
        case measure => simp [intOf]; omega
    · have hke : k = xs.length := by omega
      have htk : xs.take k = xs := by rw [hke]; exact List.take_length
      rw [htk]
      clear htk hke
      go_wp2
      go_ret
      exact ⟨rfl, hB⟩
/-- copy of a row of places -/
theorem run_copy_rowN {P : Program} (w : World) (dT sT ty elem : TypeId) (sz g dLen dCap : Nat) (a : Addr) (sLen sCap : Nat) (cur : Array Value) (t : TypeId) (cs : List Value)
    (hu : P.underlying dT = some (.slice elem)) (hs : (P.info? elem).map (·.size) = some sz)
    (hg : w.heap[g]? = some (.cells cur t (0, 0))) (hn : cs.length = Nat.min sLen dLen * sz)
    (hsrc : ∀ j v, cs[j]? = some v → w.cell? (a.add j) = some v) (hfit : cs.length ≤ cur.size) (h1 : ∀ v ∈ cs, v.oneCell' = true) :
    (Builtin.copy_ #[dT, sT] ty #[.slice (some ⟨g, 0, none⟩) dLen dCap, .slice (some a) sLen sCap]).run P w =
      .ok (goInt (Nat.min sLen dLen)) (w.setRow g (cs ++ cur.toList.drop cs.length).toArray) := by
  have hl := run_loadCells_list (P := P) w a cs hsrc
  have hst := run_storeCells_at P g 0 t cs 0 cur w hg (by simpa using hfit) h1
  cases hq : P.info? elem with
  | none => simp [hq] at hs
  | some i =>
    have hi : i.size = sz := by simpa [hq] using hs
    simp only [Nat.zero_add, List.take_zero, List.nil_append, Nat.add_zero] at hst
    simp [Builtin.copy_, run_underlying hu, Builtin.lenOf, Builtin.firstCells, sizeOf, typeInfo, hq, hi, ← hn, hl, hst]
end Go.Proofs.YtngcpcgioophcaaDoor
