/- The document's TLB of layer 10 (atlasref10): New, Look, Evict, Flush, Len: the same rows of places as the program's. -/
import Derived.Test.YtngcpcgioophcaaDoorLive
import Derived.Test.YtngcpcgioophcaaDoorRefT
namespace Go.Proofs.YtngcpcgioophcaaDoor
open Go.RowKit

set_option maxHeartbeats 800000 in
theorem ref_New_yes (n : Nat) (h1 : 1 ≤ n) (h2 : n ≤ 64) (w : World) :
    Calls Tryd.prog 32 #[.int .i64 n] w fun e w' => e = .returned (.tuple #[.pointer (some ⟨w.heap.size + 1, 0, none⟩), .int .i64 0]) ∧ IsTlb w' 67 50 (w.heap.size + 1) w.heap.size (newRow n) ∧ Below w.heap.size w w' := by
  have hmk := make_slots n h2
  go_enter Tryd.func32, Tryd.ntmps32
  go_wp2
  go_ret2
  have hlen : (newRow n).length = n := by simp [newRow]
  refine ⟨rfl, ⟨?_, ?_, by omega, by omega, by omega⟩, ((Below.refl _ _).alloc (Nat.le_refl _) _).alloc (by simp) _⟩
  · have := Blok.new (w.alloc (.cells (rowCells (newRow n)).toArray 50)) 67 [.slice (some ⟨w.heap.size, 0, none⟩) n n]
    rw [hlen]
    have e : (w.alloc (.cells (rowCells (newRow n)).toArray 50)).heap.size = w.heap.size + 1 := by simp
    rw [e] at this
    exact this
  · exact (Blok.new w _ _).alloc _
theorem ref_New_no (n : Int) (h : n < 1 ∨ 64 < n) (w : World) :
    Calls Tryd.prog 32 #[.int .i64 n] w fun e w' => e = .returned (.tuple #[.pointer none, .int .i64 100]) ∧ w = w' := by
  rcases h with h | h
  all_goals
    go_enter Tryd.func32, Tryd.ntmps32
    go_wp2
  all_goals
    go_ret2
    exact ⟨rfl, rfl⟩
theorem ref_Evict_no (tb g : Nat) (xs : List Slot) (i : Int) (hi : i < 0 ∨ xs.length ≤ i) (w : World) (h : IsTlb w 67 50 tb g xs) :
    Calls Tryd.prog 64 #[.pointer (some ⟨tb, 0, none⟩), .int .i64 i] w fun e w' => e = .returned (.bool false) ∧ w = w' := by
  have c0 : w.cell? ⟨tb, 0, none⟩ = some (.slice (some ⟨g, 0, none⟩) xs.length xs.length) := h.hd.cell 0
  rcases hi with hi | hi
  all_goals
    go_enter Tryd.func64, Tryd.ntmps64
    go_wp2
  all_goals
    go_ret
    exact ⟨rfl, rfl⟩
set_option maxHeartbeats 1600000 in
theorem ref_Evict_yes (tb g : Nat) (xs : List Slot) (i : Nat) (s : Slot) (hi : xs[i]? = some s) (w : World) (h : IsTlb w 67 50 tb g xs) :
    Calls Tryd.prog 64 #[.pointer (some ⟨tb, 0, none⟩), .int .i64 i] w fun e w' => e = .returned (.bool s.full) ∧ w.grownBy w' (some g) ∧ Blok w' g 50 (rowCells (xs.set i zslot)) := by
  have hl : i < xs.length := (List.getElem?_eq_some_iff.1 hi).1
  have hl2 := h.le
  have c0 : w.cell? ⟨tb, 0, none⟩ = some (.slice (some ⟨g, 0, none⟩) xs.length xs.length) := h.hd.cell 0
  have d0 : w.cell? ⟨g, i * 10, none⟩ = some (.bool s.full) := h.cells i s hi 0 (by omega)
  have hne := h.ne
  have hsl := h.sl
  have hlen := rowCells_len xs
  go_enter Tryd.func64, Tryd.ntmps64
  go_wp2_with (refine wpList_store_blok rfl _ (.tmp 31) (.tmp 30) rfl g (i * 10) #[.bool false, .int .i64 0, .int .i64 0, .int .u32 0, .int .u64 0, .int .i64 0, .int .i64 0, .int .u32 0, .bool false, .bool false] rfl rfl hsl ?hl (by kernel_rfl) rfl ?_; (case hl => simp; omega); intro w1 hb1 hg1 hz1)
  go_ret
  refine ⟨rfl, hg1, ?_⟩
  have e := rowCells_set xs i zslot hl
  unfold Blok at hb1 ⊢
  rw [e]
  exact hb1
set_option maxHeartbeats 1600000 in
theorem ref_Len_is (tb g : Nat) (xs : List Slot) (w : World) (h : IsTlb w 67 50 tb g xs) :
    Calls Tryd.prog 36 #[.pointer (some ⟨tb, 0, none⟩)] w fun e w' => e = .returned (.int .i64 (lenL xs)) ∧ w = w' := by
  have hl2 := h.le
  have c0 : w.cell? ⟨tb, 0, none⟩ = some (.slice (some ⟨g, 0, none⟩) xs.length xs.length) := h.hd.cell 0
  go_enter Tryd.func36, Tryd.ntmps36
  go_wp2
  go_loopw [3, 4] (fun v3 v4 wr => ∃ k : Nat, k ≤ xs.length ∧ v4 = .int .i64 k ∧ v3 = .int .i64 (lenL (xs.take k)) ∧ wr = w) (fun _ v4 _ => xs.length - (intOf v4).toNat)
  case atStart => exact ⟨0, Nat.zero_le _, rfl, rfl, rfl⟩
  case round =>
    obtain ⟨k, hk, rfl, rfl, rfl⟩ := hrel
    by_cases hlt : k < xs.length
    · obtain ⟨s, hsk⟩ : ∃ s, xs[k]? = some s := ⟨_, List.getElem?_eq_getElem hlt⟩
      obtain ⟨full, b⟩ := s
      have d0 : wr.cell? ⟨g, k * 10, none⟩ = some (.bool full) := h.cells k _ hsk 0 (by omega)
      have hst := lenL_snoc (xs.take k) ⟨full, b⟩
      rw [← take_snoc xs k _ hsk] at hst
      have hle := lenL_le (xs.take k)
      have hle2 : lenL (xs.take k) ≤ 64 := by have := List.length_take_le k xs; omega
      have HS := Lib.hid hst
      clear hst hle hsk
      cases full
      all_goals
        go_wp2
        go_roundw
        case rel => exact ⟨k + 1, by omega, by go_num, by rw [HS.out]; first | rfl | go_num, by first | rfl | trivial⟩
        case measure => simp [intOf]; omega
    · have hke : k = xs.length := by omega
      have htk : xs.take k = xs := by rw [hke]; exact List.take_length
      rw [htk]
      clear htk hke
      go_wp2
      go_ret
      exact ⟨rfl, rfl⟩
set_option maxHeartbeats 6400000 in
set_option maxRecDepth 100000 in
theorem ref_Look_is (tb g : Nat) (xs : List Slot) (hok : RowOk xs) (va asid : Int) (w : World) (h : IsTlb w 67 50 tb g xs) :
    Calls Tryd.prog 62 #[.pointer (some ⟨tb, 0, none⟩), .int .u32 va, .int .i64 asid] w fun e w' => e = .returned (.tuple #[.agg (blkCells (lookB va asid xs)).toArray, .int .i64 (lookN va asid xs)]) ∧ Below w.heap.size w w' := by
  have hl2 := h.le
  have htb := h.hd.lt
  have hg := h.sl.lt
  have c0 : w.cell? ⟨tb, 0, none⟩ = some (.slice (some ⟨g, 0, none⟩) xs.length xs.length) := h.hd.cell 0
  go_enter Tryd.func62, Tryd.ntmps62
  go_wp2
  go_loopw [9, 10] (fun v9 v10 wr => ∃ k : Nat, k ≤ xs.length ∧ v10 = .int .i64 k ∧ v9 = .int .i64 (lookF va asid (xs.take k)).2 ∧ Blok wr w.heap.size 29 (blkCells zblk) ∧ Blok wr (w.heap.size + 1) 29 (blkCells (lookF va asid (xs.take k)).1) ∧ Below w.heap.size w wr)
    (fun _ v10 _ => xs.length - (intOf v10).toNat)
  case atStart =>
    refine ⟨0, Nat.zero_le _, rfl, rfl, ?_, ?_, ?_⟩
    · exact (Blok.new _ _ _).alloc _
    · have := Blok.new (w.alloc (.cells #[.int .i64 0, .int .i64 0, .int .u32 0, .int .u64 0, .int .i64 0, .int .i64 0, .int .u32 0, .bool false, .bool false] 29)) 29 (blkCells zblk)
      have e : (w.alloc (.cells #[.int .i64 0, .int .i64 0, .int .u32 0, .int .u64 0, .int .i64 0, .int .i64 0, .int .u32 0, .bool false, .bool false] 29)).heap.size = w.heap.size + 1 := by simp
      rw [e] at this
      exact this
    · exact ((Below.refl _ _).alloc (Nat.le_refl _) _).alloc (by simp) _
  case round =>
    obtain ⟨k, hk, rfl, rfl, hR, hF, hB⟩ := hrel
    have hT := h.below hB
    have hwr : g < wr.heap.size := hT.sl.lt
    have hwt : tb < wr.heap.size := hT.hd.lt
    have hRl := hR.lt
    have hFl := hF.lt
    have t0 : wr.cell? ⟨tb, 0, none⟩ = some (.slice (some ⟨g, 0, none⟩) xs.length xs.length) := hT.hd.cell 0
    have t1 : ∀ w', Below wr.heap.size wr w' → w'.cell? ⟨tb, 0, none⟩ = some (.slice (some ⟨g, 0, none⟩) xs.length xs.length) := fun w' h => (h.cell hwt).trans t0
    by_cases hlt : k < xs.length
    · obtain ⟨s, hsk⟩ : ∃ s, xs[k]? = some s := ⟨_, List.getElem?_eq_getElem hlt⟩
      obtain ⟨full, b⟩ := s
      have hbo : b.Ok := hok _ (List.mem_of_getElem? hsk)
      have hcs := hT.cells k _ hsk
      have hstep := lookF_snoc va asid (xs.take k) ⟨full, b⟩
      rw [← take_snoc xs k _ hsk] at hstep
      have hwz := hB.size
      cases full
      · (have d0 : (wr).cell? ⟨g, k * 10, none⟩ = some (.bool false) := hcs 0 (by omega); have d1 : (wr).cell? ⟨g, k * 10 + 1, none⟩ = some (.int .i64 b.asid) := hcs 1 (by omega); have d2 : (wr).cell? ⟨g, k * 10 + 2, none⟩ = some (.int .i64 b.size) := hcs 2 (by omega); have d3 : (wr).cell? ⟨g, k * 10 + 3, none⟩ = some (.int .u32 b.va) := hcs 3 (by omega); have d4 : (wr).cell? ⟨g, k * 10 + 4, none⟩ = some (.int .u64 b.pa) := hcs 4 (by omega); have d5 : (wr).cell? ⟨g, k * 10 + 5, none⟩ = some (.int .i64 b.dom) := hcs 5 (by omega); have d6 : (wr).cell? ⟨g, k * 10 + 6, none⟩ = some (.int .i64 b.ap) := hcs 6 (by omega); have d7 : (wr).cell? ⟨g, k * 10 + 7, none⟩ = some (.int .u32 b.bits) := hcs 7 (by omega); have d8 : (wr).cell? ⟨g, k * 10 + 8, none⟩ = some (.bool b.ng) := hcs 8 (by omega); have d9 : (wr).cell? ⟨g, k * 10 + 9, none⟩ = some (.bool b.xn) := hcs 9 (by omega))
        have HS := Lib.hid (show lookF va asid (xs.take (k + 1)) = lookF va asid (xs.take k) by rw [hstep]; simp [lookS])
        clear hcs hstep
        go_wp2
        go_roundw
        case rel => exact ⟨k + 1, by omega, by go_num, by rw [HS.out], hR, by rw [HS.out]; exact hF, hB⟩
        case measure => simp [intOf]; omega
      · (have d0 : (wr).cell? ⟨g, k * 10, none⟩ = some (.bool true) := hcs 0 (by omega); have d1 : (wr).cell? ⟨g, k * 10 + 1, none⟩ = some (.int .i64 b.asid) := hcs 1 (by omega); have d2 : (wr).cell? ⟨g, k * 10 + 2, none⟩ = some (.int .i64 b.size) := hcs 2 (by omega); have d3 : (wr).cell? ⟨g, k * 10 + 3, none⟩ = some (.int .u32 b.va) := hcs 3 (by omega); have d4 : (wr).cell? ⟨g, k * 10 + 4, none⟩ = some (.int .u64 b.pa) := hcs 4 (by omega); have d5 : (wr).cell? ⟨g, k * 10 + 5, none⟩ = some (.int .i64 b.dom) := hcs 5 (by omega); have d6 : (wr).cell? ⟨g, k * 10 + 6, none⟩ = some (.int .i64 b.ap) := hcs 6 (by omega); have d7 : (wr).cell? ⟨g, k * 10 + 7, none⟩ = some (.int .u32 b.bits) := hcs 7 (by omega); have d8 : (wr).cell? ⟨g, k * 10 + 8, none⟩ = some (.bool b.ng) := hcs 8 (by omega); have d9 : (wr).cell? ⟨g, k * 10 + 9, none⟩ = some (.bool b.xn) := hcs 9 (by omega))
        have ov := ref_Over_is b hbo va asid wr
        obtain ⟨o, ho⟩ : ∃ o, overB b va asid = o := ⟨_, rfl⟩
        rw [ho] at ov
        have OV := Lib.hid ov
        clear ov
        cases o
        · have HS := Lib.hid (show lookF va asid (xs.take (k + 1)) = lookF va asid (xs.take k) by rw [hstep]; simp [lookS, ho])
          clear hstep ho hcs
          go_wp2_with (go_at_call 21; refine OV.out.mono ?_; rintro e w2 ⟨rfl, hb2⟩)
          go_roundw
          case rel => exact ⟨k + 1, by omega, by go_num, by rw [HS.out], hR.below hb2 hRl, by rw [HS.out]; exact hF.below hb2 hFl, bnext hB hb2 (Nat.le_refl _)⟩
          case measure => simp [intOf]; omega
        · have HS := Lib.hid (show lookF va asid (xs.take (k + 1)) = (b, (lookF va asid (xs.take k)).2 + 1) by rw [hstep]; simp [lookS, ho])
          clear hstep ho
          have hle := lookF_le va asid (xs.take k)
          have hle2 : (lookF va asid (xs.take k)).2 ≤ 64 := by have := List.length_take_le k xs; omega
          (have c0 : ∀ w', Below (wr).heap.size (wr) w' → w'.cell? ⟨g, k * 10, none⟩ = some (.bool true) := fun w' h => (h.cell (by omega)).trans (hcs 0 (by omega)); have c1 : ∀ w', Below (wr).heap.size (wr) w' → w'.cell? ⟨g, k * 10 + 1, none⟩ = some (.int .i64 b.asid) := fun w' h => (h.cell (by omega)).trans (hcs 1 (by omega)); have c2 : ∀ w', Below (wr).heap.size (wr) w' → w'.cell? ⟨g, k * 10 + 2, none⟩ = some (.int .i64 b.size) := fun w' h => (h.cell (by omega)).trans (hcs 2 (by omega)); have c3 : ∀ w', Below (wr).heap.size (wr) w' → w'.cell? ⟨g, k * 10 + 3, none⟩ = some (.int .u32 b.va) := fun w' h => (h.cell (by omega)).trans (hcs 3 (by omega)); have c4 : ∀ w', Below (wr).heap.size (wr) w' → w'.cell? ⟨g, k * 10 + 4, none⟩ = some (.int .u64 b.pa) := fun w' h => (h.cell (by omega)).trans (hcs 4 (by omega)); have c5 : ∀ w', Below (wr).heap.size (wr) w' → w'.cell? ⟨g, k * 10 + 5, none⟩ = some (.int .i64 b.dom) := fun w' h => (h.cell (by omega)).trans (hcs 5 (by omega)); have c6 : ∀ w', Below (wr).heap.size (wr) w' → w'.cell? ⟨g, k * 10 + 6, none⟩ = some (.int .i64 b.ap) := fun w' h => (h.cell (by omega)).trans (hcs 6 (by omega)); have c7 : ∀ w', Below (wr).heap.size (wr) w' → w'.cell? ⟨g, k * 10 + 7, none⟩ = some (.int .u32 b.bits) := fun w' h => (h.cell (by omega)).trans (hcs 7 (by omega)); have c8 : ∀ w', Below (wr).heap.size (wr) w' → w'.cell? ⟨g, k * 10 + 8, none⟩ = some (.bool b.ng) := fun w' h => (h.cell (by omega)).trans (hcs 8 (by omega)); have c9 : ∀ w', Below (wr).heap.size (wr) w' → w'.cell? ⟨g, k * 10 + 9, none⟩ = some (.bool b.xn) := fun w' h => (h.cell (by omega)).trans (hcs 9 (by omega)))
          clear hle hcs
          go_wp2_with (first
            | (go_at_call 21; refine OV.out.mono ?_; rintro e w2 ⟨rfl, hb2⟩; have hF2 := hF.below hb2 hFl)
            | (refine wpList_store_blok rfl _ (.tmp 8) (.tmp 48) rfl (w.heap.size + 1) 0 #[.int .i64 b.asid, .int .i64 b.size, .int .u32 b.va, .int .u64 b.pa, .int .i64 b.dom, .int .i64 b.ap, .int .u32 b.bits, .bool b.ng, .bool b.xn] rfl rfl hF2 (by simp [blkCells]) (by kernel_rfl) rfl ?_; intro w3 hb3 hg3 hz3))
          go_roundw
          case rel =>
            refine ⟨k + 1, by omega, by go_num, by rw [HS.out]; go_num, ?_, ?_, ?_⟩
            · exact (hR.below hb2 hRl).grown hg3 (by simp)
            · rw [HS.out]; exact hb3
            · exact (bnext hB hb2 (Nat.le_refl _)).grown hg3 (by have := hb2.size; omega) (by simp)
          case measure => simp [intOf]; omega
    · have hke : k = xs.length := by omega
      have htk : xs.take k = xs := by rw [hke]; exact List.take_length
      rw [htk] at hF
      have HT := Lib.hid htk
      have HK := Lib.hid hke
      clear htk hke
      rw [HT.out]
      have hlq : lookN va asid xs = (lookF va asid xs).2 := rfl
      have HQ := Lib.hid hlq
      clear hlq
      have hle := lookF_le va asid xs
      obtain ⟨n, hn⟩ : ∃ n, (lookF va asid xs).2 = n := ⟨_, rfl⟩
      obtain ⟨fb, hfb⟩ : ∃ fb, (lookF va asid xs).1 = fb := ⟨_, rfl⟩
      rw [hn] at hle ⊢
      rw [hfb] at hF
      have HN := Lib.hid hn
      have HB := Lib.hid hfb
      clear hn hfb
      have hwz := hB.size
      by_cases c : n = 1
      · have hfin : lookB va asid xs = fb := by unfold lookB; rw [HN.out, if_pos c, HB.out]
        have HF := Lib.hid hfin
        clear hfin
        subst c
        (have f0 : (wr).cell? ⟨w.heap.size + 1, 0, none⟩ = some (.int .i64 fb.asid) := (hF).cell 0; have f1 : (wr).cell? ⟨w.heap.size + 1, 1, none⟩ = some (.int .i64 fb.size) := (hF).cell 1; have f2 : (wr).cell? ⟨w.heap.size + 1, 2, none⟩ = some (.int .u32 fb.va) := (hF).cell 2; have f3 : (wr).cell? ⟨w.heap.size + 1, 3, none⟩ = some (.int .u64 fb.pa) := (hF).cell 3; have f4 : (wr).cell? ⟨w.heap.size + 1, 4, none⟩ = some (.int .i64 fb.dom) := (hF).cell 4; have f5 : (wr).cell? ⟨w.heap.size + 1, 5, none⟩ = some (.int .i64 fb.ap) := (hF).cell 5; have f6 : (wr).cell? ⟨w.heap.size + 1, 6, none⟩ = some (.int .u32 fb.bits) := (hF).cell 6; have f7 : (wr).cell? ⟨w.heap.size + 1, 7, none⟩ = some (.bool fb.ng) := (hF).cell 7; have f8 : (wr).cell? ⟨w.heap.size + 1, 8, none⟩ = some (.bool fb.xn) := (hF).cell 8)
        go_wp2_with (refine wpList_store_blok rfl _ (.tmp 6) (.tmp 55) rfl w.heap.size 0 #[.int .i64 fb.asid, .int .i64 fb.size, .int .u32 fb.va, .int .u64 fb.pa, .int .i64 fb.dom, .int .i64 fb.ap, .int .u32 fb.bits, .bool fb.ng, .bool fb.xn] rfl rfl hR (by simp [blkCells]) (by kernel_rfl) rfl ?_; intro w3 hb3 hg3 hz3)
        (have r0 : (w3).cell? ⟨w.heap.size, 0, none⟩ = some (.int .i64 fb.asid) := (hb3).cell 0; have r1 : (w3).cell? ⟨w.heap.size, 1, none⟩ = some (.int .i64 fb.size) := (hb3).cell 1; have r2 : (w3).cell? ⟨w.heap.size, 2, none⟩ = some (.int .u32 fb.va) := (hb3).cell 2; have r3 : (w3).cell? ⟨w.heap.size, 3, none⟩ = some (.int .u64 fb.pa) := (hb3).cell 3; have r4 : (w3).cell? ⟨w.heap.size, 4, none⟩ = some (.int .i64 fb.dom) := (hb3).cell 4; have r5 : (w3).cell? ⟨w.heap.size, 5, none⟩ = some (.int .i64 fb.ap) := (hb3).cell 5; have r6 : (w3).cell? ⟨w.heap.size, 6, none⟩ = some (.int .u32 fb.bits) := (hb3).cell 6; have r7 : (w3).cell? ⟨w.heap.size, 7, none⟩ = some (.bool fb.ng) := (hb3).cell 7; have r8 : (w3).cell? ⟨w.heap.size, 8, none⟩ = some (.bool fb.xn) := (hb3).cell 8)
        refine bodyPost_ret (v := .tuple #[(.agg #[.int .i64 fb.asid, .int .i64 fb.size, .int .u32 fb.va, .int .u64 fb.pa, .int .i64 fb.dom, .int .i64 fb.ap, .int .u32 fb.bits, .bool fb.ng, .bool fb.xn]), .int .i64 1]) (by simp [results, Tryd.results62, go_sem, r0, r1, r2, r3, r4, r5, r6, r7, r8]) rfl ⟨?_, hB.grown hg3 (by omega) (by simp)⟩
        rw [HF.out, HQ.out, HN.out]
        rfl
      · have hfin : lookB va asid xs = zblk := by unfold lookB; rw [HN.out, if_neg c]
        have HF := Lib.hid hfin
        have c' : ((n : Int) != 1) = true := by rw [bne_iff_ne]; omega
        clear hfin c
        go_wp2_with (refine wpList_store_blok rfl _ (.tmp 6) (.tmp 53) rfl w.heap.size 0 #[.int .i64 0, .int .i64 0, .int .u32 0, .int .u64 0, .int .i64 0, .int .i64 0, .int .u32 0, .bool false, .bool false] rfl rfl hR (by simp [blkCells]) (by kernel_rfl) rfl ?_; intro w3 hb3 hg3 hz3)
        (have r0 : (w3).cell? ⟨w.heap.size, 0, none⟩ = some (.int .i64 0) := (hb3).cell 0; have r1 : (w3).cell? ⟨w.heap.size, 1, none⟩ = some (.int .i64 0) := (hb3).cell 1; have r2 : (w3).cell? ⟨w.heap.size, 2, none⟩ = some (.int .u32 0) := (hb3).cell 2; have r3 : (w3).cell? ⟨w.heap.size, 3, none⟩ = some (.int .u64 0) := (hb3).cell 3; have r4 : (w3).cell? ⟨w.heap.size, 4, none⟩ = some (.int .i64 0) := (hb3).cell 4; have r5 : (w3).cell? ⟨w.heap.size, 5, none⟩ = some (.int .i64 0) := (hb3).cell 5; have r6 : (w3).cell? ⟨w.heap.size, 6, none⟩ = some (.int .u32 0) := (hb3).cell 6; have r7 : (w3).cell? ⟨w.heap.size, 7, none⟩ = some (.bool false) := (hb3).cell 7; have r8 : (w3).cell? ⟨w.heap.size, 8, none⟩ = some (.bool false) := (hb3).cell 8)
        refine bodyPost_ret (v := .tuple #[.agg #[.int .i64 0, .int .i64 0, .int .u32 0, .int .u64 0, .int .i64 0, .int .i64 0, .int .u32 0, .bool false, .bool false], .int .i64 n]) (by simp [results, Tryd.results62, go_sem, r0, r1, r2, r3, r4, r5, r6, r7, r8]) rfl ⟨?_, hB.grown hg3 (by omega) (by simp)⟩
        rw [HF.out, HQ.out, HN.out]
        rfl
end Go.Proofs.YtngcpcgioophcaaDoor
