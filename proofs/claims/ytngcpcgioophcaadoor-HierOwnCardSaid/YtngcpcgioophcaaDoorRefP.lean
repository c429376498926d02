/- The document's TLB of layer 10 (atlasref10): Put and Flush: the same rows of places as the program's. -/
import Derived.Test.YtngcpcgioophcaaDoorRefS
namespace Go.Proofs.YtngcpcgioophcaaDoor
open Go.RowKit

theorem ref_Put_no (b : Blk) (hb : b.Ok) (hr : rightB b = false) (tb : Addr) (pick : Int) (w : World) :
    Calls Tryd.prog 63 #[.pointer (some tb), (.agg #[.int .i64 b.asid, .int .i64 b.size, .int .u32 b.va, .int .u64 b.pa, .int .i64 b.dom, .int .i64 b.ap, .int .u32 b.bits, .bool b.ng, .bool b.xn]), .int .i64 pick] w fun e w' => e = .returned (.tuple #[.int .i64 0, .int .i64 101]) ∧ Below w.heap.size w w' := by
  have dr := fun W => ref_Right_is b hb W
  rw [hr] at dr
  have DR := Lib.hid dr
  clear dr hr
  go_enter Tryd.func63, Tryd.ntmps63
  go_wp2_with (go_at_call 19; refine (DR.out _).mono ?_; rintro e w1 ⟨rfl, hb1⟩)
  go_ret2
  exact ⟨rfl, bbox (by simpa using hb1)⟩
/-- the place that is picked, when those behind k were looked at -/
def downI (xs : List Slot) (p : Int) (k : Nat) : Int := match emptyI (xs.drop k) with | some i => ((k + i : Nat) : Int) | none => p
theorem downI_all (xs : List Slot) (p : Int) : downI xs p xs.length = p := by simp [downI, emptyI]
theorem downI_zero (xs : List Slot) (pick : Int) (h : 0 < xs.length) : downI xs (pick % xs.length) 0 = (putI xs pick : Nat) := by
  unfold downI putI
  rw [List.drop_zero]
  cases emptyI xs with
  | some i => simp
  | none =>
    have := Int.emod_nonneg pick (show (xs.length : Int) ≠ 0 by omega)
    simp only []
    omega
theorem downI_full (xs : List Slot) (p : Int) (k : Nat) (b : Blk) (h : xs[k]? = some ⟨true, b⟩) : downI xs p k = downI xs p (k + 1) := by
  obtain ⟨hl, he⟩ := List.getElem?_eq_some_iff.1 h
  unfold downI emptyI
  rw [List.drop_eq_getElem_cons hl, he, List.findIdx?_cons]
  simp only [Bool.not_true, Bool.false_eq_true, if_false]
  cases (xs.drop (k + 1)).findIdx? (fun s => !s.full) with
  | none => rfl
  | some i => simp; omega
theorem downI_empty (xs : List Slot) (p : Int) (k : Nat) (b : Blk) (h : xs[k]? = some ⟨false, b⟩) : downI xs p k = k := by
  obtain ⟨hl, he⟩ := List.getElem?_eq_some_iff.1 h
  unfold downI emptyI
  rw [List.drop_eq_getElem_cons hl, he, List.findIdx?_cons]
  simp
set_option maxHeartbeats 6400000 in
set_option maxRecDepth 100000 in
theorem ref_Put_yes (b : Blk) (hb : b.Ok) (hr : rightB b = true) (tb g : Nat) (xs : List Slot) (pick : Int) (_hp0 : -9223372036854775808 ≤ pick) (_hp1 : pick ≤ 9223372036854775807) (w : World) (h : IsTlb w 67 50 tb g xs) :
    Calls Tryd.prog 63 #[.pointer (some ⟨tb, 0, none⟩), (.agg #[.int .i64 b.asid, .int .i64 b.size, .int .u32 b.va, .int .u64 b.pa, .int .i64 b.dom, .int .i64 b.ap, .int .u32 b.bits, .bool b.ng, .bool b.xn]), .int .i64 pick] w fun e w' => e = .returned (.tuple #[.int .i64 (putAt b xs pick : Nat), .int .i64 0]) ∧ Blok w' g 50 (rowCells (putRow b xs pick)) ∧ w.grownBy w' (some g) := by
  have hl2 := h.le
  have hpos := h.pos
  have htb := h.hd.lt
  have hg := h.sl.lt
  have t0 : w.cell? ⟨tb, 0, none⟩ = some (.slice (some ⟨g, 0, none⟩) xs.length xs.length) := h.hd.cell 0
  have dr := fun W => ref_Right_is b hb W
  rw [hr] at dr
  have DR := Lib.hid dr
  clear dr hr
  (have c0 : ∀ w', Below (w.heap.size + 1) (w.alloc (.cells #[.int .i64 b.asid, .int .i64 b.size, .int .u32 b.va, .int .u64 b.pa, .int .i64 b.dom, .int .i64 b.ap, .int .u32 b.bits, .bool b.ng, .bool b.xn] 29)) w' → w'.cell? ⟨w.heap.size, 0, none⟩ = some (.int .i64 b.asid) := fun w' h => (h.cell (by simp)).trans (by simp); have c1 : ∀ w', Below (w.heap.size + 1) (w.alloc (.cells #[.int .i64 b.asid, .int .i64 b.size, .int .u32 b.va, .int .u64 b.pa, .int .i64 b.dom, .int .i64 b.ap, .int .u32 b.bits, .bool b.ng, .bool b.xn] 29)) w' → w'.cell? ⟨w.heap.size, 1, none⟩ = some (.int .i64 b.size) := fun w' h => (h.cell (by simp)).trans (by simp); have c2 : ∀ w', Below (w.heap.size + 1) (w.alloc (.cells #[.int .i64 b.asid, .int .i64 b.size, .int .u32 b.va, .int .u64 b.pa, .int .i64 b.dom, .int .i64 b.ap, .int .u32 b.bits, .bool b.ng, .bool b.xn] 29)) w' → w'.cell? ⟨w.heap.size, 2, none⟩ = some (.int .u32 b.va) := fun w' h => (h.cell (by simp)).trans (by simp); have c3 : ∀ w', Below (w.heap.size + 1) (w.alloc (.cells #[.int .i64 b.asid, .int .i64 b.size, .int .u32 b.va, .int .u64 b.pa, .int .i64 b.dom, .int .i64 b.ap, .int .u32 b.bits, .bool b.ng, .bool b.xn] 29)) w' → w'.cell? ⟨w.heap.size, 3, none⟩ = some (.int .u64 b.pa) := fun w' h => (h.cell (by simp)).trans (by simp); have c4 : ∀ w', Below (w.heap.size + 1) (w.alloc (.cells #[.int .i64 b.asid, .int .i64 b.size, .int .u32 b.va, .int .u64 b.pa, .int .i64 b.dom, .int .i64 b.ap, .int .u32 b.bits, .bool b.ng, .bool b.xn] 29)) w' → w'.cell? ⟨w.heap.size, 4, none⟩ = some (.int .i64 b.dom) := fun w' h => (h.cell (by simp)).trans (by simp); have c5 : ∀ w', Below (w.heap.size + 1) (w.alloc (.cells #[.int .i64 b.asid, .int .i64 b.size, .int .u32 b.va, .int .u64 b.pa, .int .i64 b.dom, .int .i64 b.ap, .int .u32 b.bits, .bool b.ng, .bool b.xn] 29)) w' → w'.cell? ⟨w.heap.size, 5, none⟩ = some (.int .i64 b.ap) := fun w' h => (h.cell (by simp)).trans (by simp); have c6 : ∀ w', Below (w.heap.size + 1) (w.alloc (.cells #[.int .i64 b.asid, .int .i64 b.size, .int .u32 b.va, .int .u64 b.pa, .int .i64 b.dom, .int .i64 b.ap, .int .u32 b.bits, .bool b.ng, .bool b.xn] 29)) w' → w'.cell? ⟨w.heap.size, 6, none⟩ = some (.int .u32 b.bits) := fun w' h => (h.cell (by simp)).trans (by simp); have c7 : ∀ w', Below (w.heap.size + 1) (w.alloc (.cells #[.int .i64 b.asid, .int .i64 b.size, .int .u32 b.va, .int .u64 b.pa, .int .i64 b.dom, .int .i64 b.ap, .int .u32 b.bits, .bool b.ng, .bool b.xn] 29)) w' → w'.cell? ⟨w.heap.size, 7, none⟩ = some (.bool b.ng) := fun w' h => (h.cell (by simp)).trans (by simp); have c8 : ∀ w', Below (w.heap.size + 1) (w.alloc (.cells #[.int .i64 b.asid, .int .i64 b.size, .int .u32 b.va, .int .u64 b.pa, .int .i64 b.dom, .int .i64 b.ap, .int .u32 b.bits, .bool b.ng, .bool b.xn] 29)) w' → w'.cell? ⟨w.heap.size, 8, none⟩ = some (.bool b.xn) := fun w' h => (h.cell (by simp)).trans (by simp))
  go_enter Tryd.func63, Tryd.ntmps63
  go_wp2_with (go_at_call 19; refine (DR.out _).mono ?_; rintro e w1 ⟨rfl, hb1⟩; have hB1 := bnext (Below.refl (w.heap.size + 1) (w.alloc (.cells #[.int .i64 b.asid, .int .i64 b.size, .int .u32 b.va, .int .u64 b.pa, .int .i64 b.dom, .int .i64 b.ap, .int .u32 b.bits, .bool b.ng, .bool b.xn] 29))) hb1 (by simp); have hc1 : w1.cell? ⟨tb, 0, none⟩ = some (.slice (some ⟨g, 0, none⟩) xs.length xs.length) := ((bbox hB1).cell htb).trans t0)
  go_loopw [8] (fun v8 wr => ∃ k : Nat, k ≤ xs.length ∧ v8 = .int .i64 k ∧ findB b (xs.take k) = none ∧ Below (w.heap.size + 1) (w.alloc (.cells #[.int .i64 b.asid, .int .i64 b.size, .int .u32 b.va, .int .u64 b.pa, .int .i64 b.dom, .int .i64 b.ap, .int .u32 b.bits, .bool b.ng, .bool b.xn] 29)) wr) (fun v8 _ => xs.length - (intOf v8).toNat)
  case atStart => exact ⟨0, Nat.zero_le _, rfl, rfl, hB1⟩
  case round =>
    obtain ⟨k, hk, rfl, hfn, hB⟩ := hrel
    have FN := Lib.hid hfn
    clear hfn hB1 hb1 hc1
    have hwz := hB.size
    simp at hwz
    have hBw := bbox hB
    have hT := h.below hBw
    have hTl := hT.hd.lt
    have tr : wr.cell? ⟨tb, 0, none⟩ = some (.slice (some ⟨g, 0, none⟩) xs.length xs.length) := hT.hd.cell 0
    by_cases hlt : k < xs.length
    · obtain ⟨s, hsk⟩ : ∃ s, xs[k]? = some s := ⟨_, List.getElem?_eq_getElem hlt⟩
      obtain ⟨full, sb⟩ := s
      have hcs := hT.cells k _ hsk
      have HK := Lib.hid hsk
      clear hsk
      cases full
      · (have d0 : (wr).cell? ⟨g, k * 10, none⟩ = some (.bool false) := hcs 0 (by omega); have d1 : (wr).cell? ⟨g, k * 10 + 1, none⟩ = some (.int .i64 sb.asid) := hcs 1 (by omega); have d2 : (wr).cell? ⟨g, k * 10 + 2, none⟩ = some (.int .i64 sb.size) := hcs 2 (by omega); have d3 : (wr).cell? ⟨g, k * 10 + 3, none⟩ = some (.int .u32 sb.va) := hcs 3 (by omega); have d4 : (wr).cell? ⟨g, k * 10 + 4, none⟩ = some (.int .u64 sb.pa) := hcs 4 (by omega); have d5 : (wr).cell? ⟨g, k * 10 + 5, none⟩ = some (.int .i64 sb.dom) := hcs 5 (by omega); have d6 : (wr).cell? ⟨g, k * 10 + 6, none⟩ = some (.int .i64 sb.ap) := hcs 6 (by omega); have d7 : (wr).cell? ⟨g, k * 10 + 7, none⟩ = some (.int .u32 sb.bits) := hcs 7 (by omega); have d8 : (wr).cell? ⟨g, k * 10 + 8, none⟩ = some (.bool sb.ng) := hcs 8 (by omega); have d9 : (wr).cell? ⟨g, k * 10 + 9, none⟩ = some (.bool sb.xn) := hcs 9 (by omega))
        have HF := Lib.hid (findB_next b xs k _ FN.out HK.out (by rfl))
        clear hcs
        go_wp2_with fail
        go_quiet (fail)
        go_wp2
        go_roundw
        case rel => exact ⟨k + 1, by omega, by go_num, HF.out, bdrewN hB _⟩
        case measure => simp [intOf]; omega
      · (have d0 : (wr).cell? ⟨g, k * 10, none⟩ = some (.bool true) := hcs 0 (by omega); have d1 : (wr).cell? ⟨g, k * 10 + 1, none⟩ = some (.int .i64 sb.asid) := hcs 1 (by omega); have d2 : (wr).cell? ⟨g, k * 10 + 2, none⟩ = some (.int .i64 sb.size) := hcs 2 (by omega); have d3 : (wr).cell? ⟨g, k * 10 + 3, none⟩ = some (.int .u32 sb.va) := hcs 3 (by omega); have d4 : (wr).cell? ⟨g, k * 10 + 4, none⟩ = some (.int .u64 sb.pa) := hcs 4 (by omega); have d5 : (wr).cell? ⟨g, k * 10 + 5, none⟩ = some (.int .i64 sb.dom) := hcs 5 (by omega); have d6 : (wr).cell? ⟨g, k * 10 + 6, none⟩ = some (.int .i64 sb.ap) := hcs 6 (by omega); have d7 : (wr).cell? ⟨g, k * 10 + 7, none⟩ = some (.int .u32 sb.bits) := hcs 7 (by omega); have d8 : (wr).cell? ⟨g, k * 10 + 8, none⟩ = some (.bool sb.ng) := hcs 8 (by omega); have d9 : (wr).cell? ⟨g, k * 10 + 9, none⟩ = some (.bool sb.xn) := hcs 9 (by omega))
        obtain ⟨q, hq⟩ : ∃ q, sb.eqB b = q := ⟨_, rfl⟩
        have HQ := Lib.hid hq
        have heq' := fun W => eql_blk sb b W
        rw [hq] at heq'
        clear hcs hq
        cases q
        · have HF := Lib.hid (findB_next b xs k _ FN.out HK.out (by simp [same, HQ.out]))
          go_wp2_with fail
          go_quiet (fail)
          go_wp2
          go_roundw
          case rel => exact ⟨k + 1, by omega, by go_num, HF.out, bdrewN hB _⟩
          case measure => simp [intOf]; omega
        · have HF := Lib.hid (findB_at b xs k _ FN.out HK.out (by simp [same, HQ.out]))
          go_wp2_with fail
          go_quiet (fail)
          go_wp2
          go_ret2
          refine ⟨by unfold putAt; rw [HF.out]; rfl, ?_, grown_of (bbox (bdrewN hB _)) _⟩
          unfold putRow
          rw [HF.out]
          exact (h.sl.below (bbox (bdrewN hB _)) hg)
    · have hke : k = xs.length := by omega
      have htk : xs.take k = xs := by rw [hke]; exact List.take_length
      have FN2 : Hid (findB b xs = none) := Lib.hid (by rw [← htk]; exact FN.out)
      clear htk hke FN
      go_upto_if 52 with (fail)
      go_cut [9] (fun v9 wc => v9 = .int .i64 (pick % xs.length) ∧ wc = wr)
      case first =>
        obtain ⟨m1, m2, m3, m4⟩ := tmod_pick pick xs.length (by omega)
        have HM1 := Lib.hid m1
        have HM2 := Lib.hid m2
        clear m1 m2
        by_cases hm : pick.tmod xs.length < 0
        · go_wp2
          go_meet
          case rel => exact ⟨by rw [← HM1.out hm], rfl⟩
        · go_wp2
          go_meet
          case rel => exact ⟨by rw [← HM2.out (by omega)], rfl⟩
      case rest =>
        obtain ⟨rfl, rfl⟩ := hcut
        have DA := Lib.hid (downI_all xs (pick % xs.length))
        have DZ := Lib.hid (downI_zero xs pick hpos)
        obtain ⟨pm, hpm⟩ : ∃ pm, pick % (xs.length : Int) = pm := ⟨_, rfl⟩
        rw [hpm] at DA DZ ⊢
        clear hpm hlt hk
        go_wp2_with fail
        go_loopw [9, 10] (fun v9 v10 wq => ∃ j : Nat, j ≤ xs.length ∧ v10 = .int .i64 ((j : Int) - 1) ∧ v9 = .int .i64 (downI xs pm j) ∧ wq = wc) (fun _ v10 _ => (intOf v10 + 1).toNat)
        case atStart => exact ⟨xs.length, Nat.le_refl _, by go_num, by rw [DA.out], rfl⟩
        case round =>
          obtain ⟨j, hj, rfl, rfl, rfl⟩ := hrel
          by_cases hj0 : 0 < j
          · obtain ⟨s, hsk⟩ : ∃ s, xs[j - 1]? = some s := ⟨_, List.getElem?_eq_getElem (by omega)⟩
            obtain ⟨full, sb⟩ := s
            obtain ⟨i, rfl⟩ : ∃ i, j = i + 1 := ⟨j - 1, by omega⟩
            have e1 : ((i + 1 : Nat) : Int) - 1 = i := by omega
            have e2 : i + 1 - 1 = i := by omega
            rw [e2] at hsk
            rw [e1]
            have d0 : wr.cell? ⟨g, i * 10, none⟩ = some (.bool full) := hT.cells i _ hsk 0 (by omega)
            cases full
            · have HD := Lib.hid (downI_empty xs pm i _ hsk)
              clear hsk
              go_wp2
              go_roundw
              case rel => exact ⟨i, by omega, by go_num, by rw [HD.out], by first | rfl | trivial⟩
              case measure => simp [intOf]
            · have HD := Lib.hid (downI_full xs pm i _ hsk)
              clear hsk
              go_wp2
              go_roundw
              case rel => exact ⟨i, by omega, by go_num, by rw [HD.out], by first | rfl | trivial⟩
              case measure => simp [intOf]
          · obtain rfl : j = 0 := by omega
            rw [DZ.out]
            have hpl := putI_lt xs pick hpos
            obtain ⟨pi, hpi⟩ : ∃ pi, putI xs pick = pi := ⟨_, rfl⟩
            rw [hpi] at hpl ⊢
            have HPI := Lib.hid hpi
            have hsl := hT.sl
            have hlen := rowCells_len xs
            clear hpi
            go_wp2_with fail
            go_still_tail 8, (by kernel_rfl)
            go_wp2_with (refine wpList_store_blok rfl _ (.tmp 87) (.tmp 86) rfl g (pi * 10) #[.bool true, .int .i64 b.asid, .int .i64 b.size, .int .u32 b.va, .int .u64 b.pa, .int .i64 b.dom, .int .i64 b.ap, .int .u32 b.bits, .bool b.ng, .bool b.xn] rfl rfl (hsl.drewN 1) ?hl (by kernel_rfl) rfl ?_; (case hl => simp; omega); intro w3 hb3 hg3 hz3)
            go_ret2
            refine ⟨by unfold putAt; rw [FN2.out, HPI.out]; rfl, ?_, grown_then hBw (World.grownBy.mk hg3.os hg3.tape hg3.output hg3.size hg3.block)⟩
            unfold putRow
            rw [FN2.out, HPI.out]
            unfold Blok at hb3 ⊢
            rw [rowCells_set xs pi ⟨true, b⟩ hpl]
            exact hb3
set_option maxHeartbeats 6400000 in
set_option maxRecDepth 100000 in
theorem ref_Flush_is (d : Tlbi) (tb g : Nat) (xs : List Slot) (hok : RowOk xs) (w : World) (h : IsTlb w 67 50 tb g xs) :
    Calls Tryd.prog 65 #[.pointer (some ⟨tb, 0, none⟩), (.agg #[.int .i64 d.kind, .int .u32 d.va, .int .i64 d.asid])] w fun e w' => e = .returned (.int .i64 (dropN d xs : Nat)) ∧ Blok w' g 50 (rowCells (dropRow d xs)) ∧ w.grownBy w' (some g) := by
  have hl2 := h.le
  have htb := h.hd.lt
  have hg := h.sl.lt
  have hne := h.ne
  have t0 : w.cell? ⟨tb, 0, none⟩ = some (.slice (some ⟨g, 0, none⟩) xs.length xs.length) := h.hd.cell 0
  have b0 : ∀ w', (w.alloc (.cells #[.int .i64 d.kind, .int .u32 d.va, .int .i64 d.asid] 31)).grownBy w' (some g) → w'.cell? ⟨w.heap.size, 0, none⟩ = some (.int .i64 d.kind) := fun w' h => (gcell h (by simp) (by simp; omega)).trans (by simp)
  have b1 : ∀ w', (w.alloc (.cells #[.int .i64 d.kind, .int .u32 d.va, .int .i64 d.asid] 31)).grownBy w' (some g) → w'.cell? ⟨w.heap.size, 1, none⟩ = some (.int .u32 d.va) := fun w' h => (gcell h (by simp) (by simp; omega)).trans (by simp)
  have b2 : ∀ w', (w.alloc (.cells #[.int .i64 d.kind, .int .u32 d.va, .int .i64 d.asid] 31)).grownBy w' (some g) → w'.cell? ⟨w.heap.size, 2, none⟩ = some (.int .i64 d.asid) := fun w' h => (gcell h (by simp) (by simp; omega)).trans (by simp)
  have tc : ∀ w', (w.alloc (.cells #[.int .i64 d.kind, .int .u32 d.va, .int .i64 d.asid] 31)).grownBy w' (some g) → w'.cell? ⟨tb, 0, none⟩ = some (.slice (some ⟨g, 0, none⟩) xs.length xs.length) := fun w' h => (gcell h (by simp; omega) (by simp; omega)).trans ((World.cell?_alloc_lt w _ ⟨tb, 0, none⟩ htb).trans t0)
  go_enter Tryd.func65, Tryd.ntmps65
  go_wp2
  go_loopw [5, 6] (fun v5 v6 wr => ∃ k : Nat, k ≤ xs.length ∧ v6 = .int .i64 k ∧ v5 = .int .i64 (dropN d (xs.take k) : Nat) ∧ IsTlb wr 67 50 tb g (dropTo d k xs) ∧ (w.alloc (.cells #[.int .i64 d.kind, .int .u32 d.va, .int .i64 d.asid] 31)).grownBy wr (some g)) (fun _ v6 _ => xs.length - (intOf v6).toNat)
  case atStart => exact ⟨0, Nat.zero_le _, rfl, rfl, by rw [dropTo_zero]; exact h.below ((Below.refl _ _).alloc (Nat.le_refl _) _), World.grownBy.refl _ _⟩
  case round =>
    obtain ⟨k, hk, rfl, rfl, hT, hG⟩ := hrel
    have hwz : w.heap.size + 1 ≤ wr.heap.size := by have := hG.size; simpa using this
    have hlt0 := dropTo_len d k xs hk
    have LT := Lib.hid hlt0
    clear hlt0
    have r0 := b0 _ hG
    have r1 := b1 _ hG
    have r2 := b2 _ hG
    have rt := tc _ hG
    by_cases hlt : k < xs.length
    · obtain ⟨s, hsk⟩ : ∃ s, xs[k]? = some s := ⟨_, List.getElem?_eq_getElem hlt⟩
      obtain ⟨full, b⟩ := s
      have hbo : b.Ok := hok _ (List.mem_of_getElem? hsk)
      have hda := dropTo_at d k xs hlt
      rw [hsk] at hda
      have hcs := hT.cells k _ hda
      have hst := dropN_snoc d (xs.take k) ⟨full, b⟩
      rw [← take_snoc xs k _ hsk] at hst
      have hle := dropN_le d (xs.take k)
      have hle2 : dropN d (xs.take k) ≤ 64 := by have := List.length_take_le k xs; omega
      have HS := Lib.hid hst
      have HK := Lib.hid hsk
      have htl := hT.hd.lt
      have hgl := hT.sl.lt
      clear hst hle hda hsk
      cases full
      · (have d0 : (wr).cell? ⟨g, k * 10, none⟩ = some (.bool false) := hcs 0 (by omega); have d1 : (wr).cell? ⟨g, k * 10 + 1, none⟩ = some (.int .i64 b.asid) := hcs 1 (by omega); have d2 : (wr).cell? ⟨g, k * 10 + 2, none⟩ = some (.int .i64 b.size) := hcs 2 (by omega); have d3 : (wr).cell? ⟨g, k * 10 + 3, none⟩ = some (.int .u32 b.va) := hcs 3 (by omega); have d4 : (wr).cell? ⟨g, k * 10 + 4, none⟩ = some (.int .u64 b.pa) := hcs 4 (by omega); have d5 : (wr).cell? ⟨g, k * 10 + 5, none⟩ = some (.int .i64 b.dom) := hcs 5 (by omega); have d6 : (wr).cell? ⟨g, k * 10 + 6, none⟩ = some (.int .i64 b.ap) := hcs 6 (by omega); have d7 : (wr).cell? ⟨g, k * 10 + 7, none⟩ = some (.int .u32 b.bits) := hcs 7 (by omega); have d8 : (wr).cell? ⟨g, k * 10 + 8, none⟩ = some (.bool b.ng) := hcs 8 (by omega); have d9 : (wr).cell? ⟨g, k * 10 + 9, none⟩ = some (.bool b.xn) := hcs 9 (by omega))
        have HD := Lib.hid (dropTo_same d k xs _ HK.out rfl)
        clear hcs b0 b1 b2 tc
        go_wp2_with fail
        go_quiet (fail)
        go_wp2
        go_roundw
        case rel => exact ⟨k + 1, by omega, by go_num, by rw [HS.out]; rfl, by rw [HD.out]; exact hT.below (bdrewN (Below.refl _ _) _), gnext hG (bdrewN (Below.refl _ _) _)⟩
        case measure => simp [intOf]; omega
      · (have d0 : ∀ w', Below (wr).heap.size (wr) w' → w'.cell? ⟨g, k * 10, none⟩ = some (.bool true) := fun w' h => (h.cell (by omega)).trans (hcs 0 (by omega)); have d1 : ∀ w', Below (wr).heap.size (wr) w' → w'.cell? ⟨g, k * 10 + 1, none⟩ = some (.int .i64 b.asid) := fun w' h => (h.cell (by omega)).trans (hcs 1 (by omega)); have d2 : ∀ w', Below (wr).heap.size (wr) w' → w'.cell? ⟨g, k * 10 + 2, none⟩ = some (.int .i64 b.size) := fun w' h => (h.cell (by omega)).trans (hcs 2 (by omega)); have d3 : ∀ w', Below (wr).heap.size (wr) w' → w'.cell? ⟨g, k * 10 + 3, none⟩ = some (.int .u32 b.va) := fun w' h => (h.cell (by omega)).trans (hcs 3 (by omega)); have d4 : ∀ w', Below (wr).heap.size (wr) w' → w'.cell? ⟨g, k * 10 + 4, none⟩ = some (.int .u64 b.pa) := fun w' h => (h.cell (by omega)).trans (hcs 4 (by omega)); have d5 : ∀ w', Below (wr).heap.size (wr) w' → w'.cell? ⟨g, k * 10 + 5, none⟩ = some (.int .i64 b.dom) := fun w' h => (h.cell (by omega)).trans (hcs 5 (by omega)); have d6 : ∀ w', Below (wr).heap.size (wr) w' → w'.cell? ⟨g, k * 10 + 6, none⟩ = some (.int .i64 b.ap) := fun w' h => (h.cell (by omega)).trans (hcs 6 (by omega)); have d7 : ∀ w', Below (wr).heap.size (wr) w' → w'.cell? ⟨g, k * 10 + 7, none⟩ = some (.int .u32 b.bits) := fun w' h => (h.cell (by omega)).trans (hcs 7 (by omega)); have d8 : ∀ w', Below (wr).heap.size (wr) w' → w'.cell? ⟨g, k * 10 + 8, none⟩ = some (.bool b.ng) := fun w' h => (h.cell (by omega)).trans (hcs 8 (by omega)); have d9 : ∀ w', Below (wr).heap.size (wr) w' → w'.cell? ⟨g, k * 10 + 9, none⟩ = some (.bool b.xn) := fun w' h => (h.cell (by omega)).trans (hcs 9 (by omega)))
        have s0 : ∀ w', Below wr.heap.size wr w' → w'.cell? ⟨w.heap.size, 0, none⟩ = some (.int .i64 d.kind) := fun w' h => (h.cell (by show w.heap.size < wr.heap.size; omega)).trans r0
        have s1 : ∀ w', Below wr.heap.size wr w' → w'.cell? ⟨w.heap.size, 1, none⟩ = some (.int .u32 d.va) := fun w' h => (h.cell (by show w.heap.size < wr.heap.size; omega)).trans r1
        have s2 : ∀ w', Below wr.heap.size wr w' → w'.cell? ⟨w.heap.size, 2, none⟩ = some (.int .i64 d.asid) := fun w' h => (h.cell (by show w.heap.size < wr.heap.size; omega)).trans r2
        have st : ∀ w', Below wr.heap.size wr w' → w'.cell? ⟨tb, 0, none⟩ = some (.slice (some ⟨g, 0, none⟩) xs.length xs.length) := fun w' h => (h.cell htl).trans rt
        obtain ⟨o, ho⟩ : ∃ o, takesB d b = o := ⟨_, rfl⟩
        have ov := fun W => ref_Takes_is d b hbo W
        rw [ho] at ov
        have OV := Lib.hid ov
        have HO := Lib.hid ho
        have hB0 : Below wr.heap.size wr wr := Below.refl _ _
        (have e0 : (wr).cell? ⟨g, k * 10, none⟩ = some (.bool true) := hcs 0 (by omega); have e1 : (wr).cell? ⟨g, k * 10 + 1, none⟩ = some (.int .i64 b.asid) := hcs 1 (by omega); have e2 : (wr).cell? ⟨g, k * 10 + 2, none⟩ = some (.int .i64 b.size) := hcs 2 (by omega); have e3 : (wr).cell? ⟨g, k * 10 + 3, none⟩ = some (.int .u32 b.va) := hcs 3 (by omega); have e4 : (wr).cell? ⟨g, k * 10 + 4, none⟩ = some (.int .u64 b.pa) := hcs 4 (by omega); have e5 : (wr).cell? ⟨g, k * 10 + 5, none⟩ = some (.int .i64 b.dom) := hcs 5 (by omega); have e6 : (wr).cell? ⟨g, k * 10 + 6, none⟩ = some (.int .i64 b.ap) := hcs 6 (by omega); have e7 : (wr).cell? ⟨g, k * 10 + 7, none⟩ = some (.int .u32 b.bits) := hcs 7 (by omega); have e8 : (wr).cell? ⟨g, k * 10 + 8, none⟩ = some (.bool b.ng) := hcs 8 (by omega); have e9 : (wr).cell? ⟨g, k * 10 + 9, none⟩ = some (.bool b.xn) := hcs 9 (by omega))
        clear hcs ov ho b0 b1 b2 tc
        cases o
        · have HD := Lib.hid (dropTo_same d k xs _ HK.out (by simp [hit, HO.out]))
          have HS2 := Lib.hid (show dropN d (xs.take (k + 1)) = dropN d (xs.take k) by rw [HS.out]; simp [hit, HO.out])
          go_wp2_with fail
          go_region_held3 (fun w' => Below wr.heap.size wr w')
            (first | assumption | exact bdrew (Below.refl _ _) | (refine bnext ?_ hbn ?_ <;> first | assumption | exact bdrew (Below.refl _ _) | exact Nat.le_refl _))
            (first | (go_at_call 23; refine (OV.out _).mono ?_; rintro e wn ⟨rfl, hbn⟩))
          all_goals
            have hBz : Below wr.heap.size wr wn := by assumption
            go_wp2
            go_roundw
            case rel => exact ⟨k + 1, by omega, by go_num, by rw [HS2.out], by rw [HD.out]; exact hT.below hBz, gnext hG hBz⟩
            case measure => simp [intOf]; omega
        · have HD := Lib.hid (dropTo_succ d k xs _ HK.out)
          have HS2 := Lib.hid (show dropN d (xs.take (k + 1)) = dropN d (xs.take k) + 1 by rw [HS.out]; simp [hit, HO.out])
          have hdl := rowCells_len (dropTo d k xs)
          go_wp2_with fail
          go_region_held3 (fun w' => Below wr.heap.size wr w')
            (first | assumption | exact bdrew (Below.refl _ _) | (refine bnext ?_ hbn ?_ <;> first | assumption | exact bdrew (Below.refl _ _) | exact Nat.le_refl _))
            (first | (go_at_call 23; refine (OV.out _).mono ?_; rintro e wn ⟨rfl, hbn⟩))
          all_goals
            have hBz : Below wr.heap.size wr wn := by assumption
            have hTz := hT.below hBz
            go_wp2_with (refine wpList_store_blok rfl _ (.tmp 42) (.tmp 41) rfl g (k * 10) #[.bool false, .int .i64 0, .int .i64 0, .int .u32 0, .int .u64 0, .int .i64 0, .int .i64 0, .int .u32 0, .bool false, .bool false] rfl rfl hTz.sl ?hl (by kernel_rfl) rfl ?_; (case hl => have := LT.out; simp; omega); intro w3 hb3 hg3 hz3)
            go_roundw
            case rel =>
              refine ⟨k + 1, by omega, by go_num, by rw [HS2.out]; go_num, ?_, gtrans (gnext hG hBz) hg3⟩
              have e1 : drop1 d ⟨true, b⟩ = zslot := by simp [drop1, hit, HO.out]
              rw [HD.out, e1]
              exact hTz.set_ hb3 hg3 (by rw [LT.out]; exact hlt)
            case measure => simp [intOf]; omega
    · have hke : k = xs.length := by omega
      have htk : xs.take k = xs := by rw [hke]; exact List.take_length
      have hda : dropTo d k xs = dropRow d xs := by rw [hke]; exact dropTo_all d xs
      rw [htk]
      rw [hda] at hT
      clear htk hke hda LT
      go_wp2
      go_ret
      exact ⟨rfl, hT.sl, gbox hG⟩
end Go.Proofs.YtngcpcgioophcaaDoor
