/- The program's Put of layer 10 (tlb). -/
import Derived.Test.YtngcpcgioophcaaDoorTlbS
import Derived.Test.YtngcpcgioophcaaDoorEq
import Derived.StillTailTactics
import Derived.Deep.DeepCutAuto
namespace Go.Proofs.YtngcpcgioophcaaDoor
open Go.RowKit

theorem findB_at (b : Blk) (xs : List Slot) (k : Nat) (s : Slot) (hn : findB b (xs.take k) = none) (h : xs[k]? = some s) (hs : same b s = true) : findB b xs = some k := by
  obtain ⟨hl, he⟩ := List.getElem?_eq_some_iff.1 h
  have e : xs = xs.take k ++ s :: xs.drop (k + 1) := by rw [← he, ← List.drop_eq_getElem_cons hl, List.take_append_drop]
  unfold findB at hn ⊢
  rw [e, List.findIdx?_append, hn, List.findIdx?_cons, if_pos hs]
  simp; omega
theorem findB_next (b : Blk) (xs : List Slot) (k : Nat) (s : Slot) (hn : findB b (xs.take k) = none) (h : xs[k]? = some s) (hs : same b s = false) : findB b (xs.take (k + 1)) = none := by
  rw [take_snoc xs k s h]
  unfold findB at hn ⊢
  rw [find_snoc, hn, hs]; rfl
def eI (l : List Slot) : Int := match emptyI l with | some i => (i : Int) | none => -1
theorem eI_full (xs : List Slot) (k : Nat) (c : Blk) (h : xs[k]? = some ⟨true, c⟩) : eI (xs.take (k + 1)) = eI (xs.take k) := by
  rw [take_snoc xs k _ h]
  unfold eI emptyI
  rw [find_snoc]; simp
theorem eI_empty (xs : List Slot) (k : Nat) (c : Blk) (h : xs[k]? = some ⟨false, c⟩) : eI (xs.take (k + 1)) = if eI (xs.take k) < 0 then (k : Int) else eI (xs.take k) := by
  have hl := (List.getElem?_eq_some_iff.1 h).1
  rw [take_snoc xs k _ h]
  unfold eI emptyI
  rw [find_snoc]
  cases hf : (xs.take k).findIdx? (fun s => !s.full) with
  | none => simp; omega
  | some i => simp; omega
theorem eI_some (xs : List Slot) (pick : Int) (h : ¬ eI xs < 0) : eI xs = (putI xs pick : Nat) := by
  unfold eI putI at *
  split at h <;> rename_i hh
  · rw [hh]
  · omega
theorem eI_none (xs : List Slot) (pick : Int) (h : eI xs < 0) (hp : 0 < xs.length) : ((putI xs pick : Nat) : Int) = pick % xs.length := by
  unfold eI putI at *
  split at h <;> rename_i hh
  · omega
  · rw [hh]
    have := Int.emod_nonneg pick (show (xs.length : Int) ≠ 0 by omega)
    simp only []
    omega
theorem tmod_pick (p n : Int) (hn : 0 < n) : (p.tmod n < 0 → p.tmod n + n = p % n) ∧ (¬ p.tmod n < 0 → p.tmod n = p % n) ∧ -n < p.tmod n ∧ p.tmod n < n := by
  rw [Int.tmod_eq_emod]
  have h1 := Int.emod_nonneg p (show n ≠ 0 by omega)
  have h2 := Int.emod_lt_of_pos p hn
  have h3 : ((n.natAbs : Nat) : Int) = n := by omega
  split
  · omega
  · rename_i hh
    have : p % n ≠ 0 := fun e => hh (.inr (Int.dvd_of_emod_eq_zero e))
    omega
theorem grown_then {w wr w1 : World} {row : Option Nat} (h : Below w.heap.size w wr) (k : wr.grownBy w1 row) : w.grownBy w1 row :=
  ⟨k.os.trans h.os, k.tape.trans h.tape, k.output.trans h.output, Nat.le_trans h.size k.size, fun i hi hne => (k.block i (Nat.lt_of_lt_of_le hi h.size) hne).trans (h.block i hi)⟩
theorem grown_of {w wr : World} (h : Below w.heap.size w wr) (row : Option Nat) : w.grownBy wr row := grown_then h (World.grownBy.refl _ _)
theorem tlb_Put_no (b : Blk) (hb : b.Ok) (hr : rightB b = false) (tb : Addr) (pick : Int) (w : World) (hs : Shf w) :
    Calls Tryd.prog 53 #[.pointer (some tb), (.agg #[.int .i64 b.asid, .int .i64 b.size, .int .u32 b.va, .int .u64 b.pa, .int .i64 b.dom, .int .i64 b.ap, .int .u32 b.bits, .bool b.ng, .bool b.xn]), .int .i64 pick] w fun e w' => e = .returned (.tuple #[.int .i64 0, .int .i64 101]) ∧ Below w.heap.size w w' := by
  have dr := fun W (hW : Shf W) => tlb_Right_is b hb W hW
  rw [hr] at dr
  have DR := Lib.hid dr
  clear dr hr
  go_enter Tryd.func53, Tryd.ntmps53
  go_wp2_with (go_at_call 18; refine (DR.out _ (hs.alloc _)).mono ?_; rintro e w1 ⟨rfl, hb1⟩)
  go_ret2
  exact ⟨rfl, bbox (by simpa using hb1)⟩
set_option maxHeartbeats 6400000 in
set_option maxRecDepth 100000 in
theorem tlb_Put_yes (b : Blk) (hb : b.Ok) (hr : rightB b = true) (tb g : Nat) (xs : List Slot) (pick : Int) (_hp0 : -9223372036854775808 ≤ pick) (_hp1 : pick ≤ 9223372036854775807) (w : World) (hs : Shf w) (h : IsTlb w 105 50 tb g xs) :
    Calls Tryd.prog 53 #[.pointer (some ⟨tb, 0, none⟩), (.agg #[.int .i64 b.asid, .int .i64 b.size, .int .u32 b.va, .int .u64 b.pa, .int .i64 b.dom, .int .i64 b.ap, .int .u32 b.bits, .bool b.ng, .bool b.xn]), .int .i64 pick] w fun e w' => e = .returned (.tuple #[.int .i64 (putAt b xs pick : Nat), .int .i64 0]) ∧ Blok w' g 50 (rowCells (putRow b xs pick)) ∧ w.grownBy w' (some g) := by
  have hl2 := h.le
  have hpos := h.pos
  have htb := h.hd.lt
  have hg := h.sl.lt
  have t0 : w.cell? ⟨tb, 0, none⟩ = some (.slice (some ⟨g, 0, none⟩) xs.length xs.length) := h.hd.cell 0
  have dr := fun W (hW : Shf W) => tlb_Right_is b hb W hW
  rw [hr] at dr
  have DR := Lib.hid dr
  clear dr hr
  (have c0 : ∀ w', Below (w.heap.size + 1) (w.alloc (.cells #[.int .i64 b.asid, .int .i64 b.size, .int .u32 b.va, .int .u64 b.pa, .int .i64 b.dom, .int .i64 b.ap, .int .u32 b.bits, .bool b.ng, .bool b.xn] 29)) w' → w'.cell? ⟨w.heap.size, 0, none⟩ = some (.int .i64 b.asid) := fun w' h => (h.cell (by simp)).trans (by simp); have c1 : ∀ w', Below (w.heap.size + 1) (w.alloc (.cells #[.int .i64 b.asid, .int .i64 b.size, .int .u32 b.va, .int .u64 b.pa, .int .i64 b.dom, .int .i64 b.ap, .int .u32 b.bits, .bool b.ng, .bool b.xn] 29)) w' → w'.cell? ⟨w.heap.size, 1, none⟩ = some (.int .i64 b.size) := fun w' h => (h.cell (by simp)).trans (by simp); have c2 : ∀ w', Below (w.heap.size + 1) (w.alloc (.cells #[.int .i64 b.asid, .int .i64 b.size, .int .u32 b.va, .int .u64 b.pa, .int .i64 b.dom, .int .i64 b.ap, .int .u32 b.bits, .bool b.ng, .bool b.xn] 29)) w' → w'.cell? ⟨w.heap.size, 2, none⟩ = some (.int .u32 b.va) := fun w' h => (h.cell (by simp)).trans (by simp); have c3 : ∀ w', Below (w.heap.size + 1) (w.alloc (.cells #[.int .i64 b.asid, .int .i64 b.size, .int .u32 b.va, .int .u64 b.pa, .int .i64 b.dom, .int .i64 b.ap, .int .u32 b.bits, .bool b.ng, .bool b.xn] 29)) w' → w'.cell? ⟨w.heap.size, 3, none⟩ = some (.int .u64 b.pa) := fun w' h => (h.cell (by simp)).trans (by simp); have c4 : ∀ w', Below (w.heap.size + 1) (w.alloc (.cells #[.int .i64 b.asid, .int .i64 b.size, .int .u32 b.va, .int .u64 b.pa, .int .i64 b.dom, .int .i64 b.ap, .int .u32 b.bits, .bool b.ng, .bool b.xn] 29)) w' → w'.cell? ⟨w.heap.size, 4, none⟩ = some (.int .i64 b.dom) := fun w' h => (h.cell (by simp)).trans (by simp); have c5 : ∀ w', Below (w.heap.size + 1) (w.alloc (.cells #[.int .i64 b.asid, .int .i64 b.size, .int .u32 b.va, .int .u64 b.pa, .int .i64 b.dom, .int .i64 b.ap, .int .u32 b.bits, .bool b.ng, .bool b.xn] 29)) w' → w'.cell? ⟨w.heap.size, 5, none⟩ = some (.int .i64 b.ap) := fun w' h => (h.cell (by simp)).trans (by simp); have c6 : ∀ w', Below (w.heap.size + 1) (w.alloc (.cells #[.int .i64 b.asid, .int .i64 b.size, .int .u32 b.va, .int .u64 b.pa, .int .i64 b.dom, .int .i64 b.ap, .int .u32 b.bits, .bool b.ng, .bool b.xn] 29)) w' → w'.cell? ⟨w.heap.size, 6, none⟩ = some (.int .u32 b.bits) := fun w' h => (h.cell (by simp)).trans (by simp); have c7 : ∀ w', Below (w.heap.size + 1) (w.alloc (.cells #[.int .i64 b.asid, .int .i64 b.size, .int .u32 b.va, .int .u64 b.pa, .int .i64 b.dom, .int .i64 b.ap, .int .u32 b.bits, .bool b.ng, .bool b.xn] 29)) w' → w'.cell? ⟨w.heap.size, 7, none⟩ = some (.bool b.ng) := fun w' h => (h.cell (by simp)).trans (by simp); have c8 : ∀ w', Below (w.heap.size + 1) (w.alloc (.cells #[.int .i64 b.asid, .int .i64 b.size, .int .u32 b.va, .int .u64 b.pa, .int .i64 b.dom, .int .i64 b.ap, .int .u32 b.bits, .bool b.ng, .bool b.xn] 29)) w' → w'.cell? ⟨w.heap.size, 8, none⟩ = some (.bool b.xn) := fun w' h => (h.cell (by simp)).trans (by simp))
  have heq := eql_blk
  go_enter Tryd.func53, Tryd.ntmps53
  go_wp2_with (go_at_call 18; refine (DR.out _ (hs.alloc _)).mono ?_; rintro e w1 ⟨rfl, hb1⟩; have hB1 := bnext (Below.refl (w.heap.size + 1) (w.alloc (.cells #[.int .i64 b.asid, .int .i64 b.size, .int .u32 b.va, .int .u64 b.pa, .int .i64 b.dom, .int .i64 b.ap, .int .u32 b.bits, .bool b.ng, .bool b.xn] 29))) hb1 (by simp); have hc1 : w1.cell? ⟨tb, 0, none⟩ = some (.slice (some ⟨g, 0, none⟩) xs.length xs.length) := ((bbox hB1).cell htb).trans t0)
  go_loopw [8, 19] (fun v8 v19 wr => ∃ k : Nat, k ≤ xs.length ∧ v19 = .int .i64 k ∧ v8 = .int .i64 (eI (xs.take k)) ∧ findB b (xs.take k) = none ∧ Below (w.heap.size + 1) (w.alloc (.cells #[.int .i64 b.asid, .int .i64 b.size, .int .u32 b.va, .int .u64 b.pa, .int .i64 b.dom, .int .i64 b.ap, .int .u32 b.bits, .bool b.ng, .bool b.xn] 29)) wr) (fun _ v19 _ => xs.length - (intOf v19).toNat)
  case atStart => exact ⟨0, Nat.zero_le _, rfl, rfl, rfl, hB1⟩
  case round =>
    obtain ⟨k, hk, rfl, rfl, hfn, hB⟩ := hrel
    have FN := Lib.hid hfn
    clear hfn hB1 hb1 hc1
    have hwz := hB.size
    simp at hwz
    have hBw := bbox hB
    have hT := h.below hBw
    have tr : wr.cell? ⟨tb, 0, none⟩ = some (.slice (some ⟨g, 0, none⟩) xs.length xs.length) := hT.hd.cell 0
    by_cases hlt : k < xs.length
    · obtain ⟨s, hsk⟩ : ∃ s, xs[k]? = some s := ⟨_, List.getElem?_eq_getElem hlt⟩
      obtain ⟨full, sb⟩ := s
      have hcs := hT.cells k _ hsk
      have HK := Lib.hid hsk
      clear hsk
      cases full
      · (have d0 : (wr).cell? ⟨g, k * 10, none⟩ = some (.bool false) := hcs 0 (by omega); have d1 : (wr).cell? ⟨g, k * 10 + 1, none⟩ = some (.int .i64 sb.asid) := hcs 1 (by omega); have d2 : (wr).cell? ⟨g, k * 10 + 2, none⟩ = some (.int .i64 sb.size) := hcs 2 (by omega); have d3 : (wr).cell? ⟨g, k * 10 + 3, none⟩ = some (.int .u32 sb.va) := hcs 3 (by omega); have d4 : (wr).cell? ⟨g, k * 10 + 4, none⟩ = some (.int .u64 sb.pa) := hcs 4 (by omega); have d5 : (wr).cell? ⟨g, k * 10 + 5, none⟩ = some (.int .i64 sb.dom) := hcs 5 (by omega); have d6 : (wr).cell? ⟨g, k * 10 + 6, none⟩ = some (.int .i64 sb.ap) := hcs 6 (by omega); have d7 : (wr).cell? ⟨g, k * 10 + 7, none⟩ = some (.int .u32 sb.bits) := hcs 7 (by omega); have d8 : (wr).cell? ⟨g, k * 10 + 8, none⟩ = some (.bool sb.ng) := hcs 8 (by omega); have d9 : (wr).cell? ⟨g, k * 10 + 9, none⟩ = some (.bool sb.xn) := hcs 9 (by omega))
        have HF := Lib.hid (findB_next b xs k _ FN.out HK.out (by rfl))
        have he := eI_empty xs k sb HK.out
        have HE := Lib.hid he
        clear hcs he
        obtain ⟨ev, hev⟩ : ∃ ev, eI (xs.take k) = ev := ⟨_, rfl⟩
        rw [hev]
        have HV := Lib.hid hev
        clear hev
        by_cases hneg : ev < 0
        · go_wp2
          go_roundw
          case rel => exact ⟨k + 1, by omega, by go_num, by rw [HE.out, HV.out, if_pos hneg], HF.out, hB.alloc (by omega) _⟩
          case measure => simp [intOf]; omega
        · go_wp2
          go_roundw
          case rel => exact ⟨k + 1, by omega, by go_num, by rw [HE.out, HV.out, if_neg hneg], HF.out, hB.alloc (by omega) _⟩
          case measure => simp [intOf]; omega
      · (have d0 : (wr).cell? ⟨g, k * 10, none⟩ = some (.bool true) := hcs 0 (by omega); have d1 : (wr).cell? ⟨g, k * 10 + 1, none⟩ = some (.int .i64 sb.asid) := hcs 1 (by omega); have d2 : (wr).cell? ⟨g, k * 10 + 2, none⟩ = some (.int .i64 sb.size) := hcs 2 (by omega); have d3 : (wr).cell? ⟨g, k * 10 + 3, none⟩ = some (.int .u32 sb.va) := hcs 3 (by omega); have d4 : (wr).cell? ⟨g, k * 10 + 4, none⟩ = some (.int .u64 sb.pa) := hcs 4 (by omega); have d5 : (wr).cell? ⟨g, k * 10 + 5, none⟩ = some (.int .i64 sb.dom) := hcs 5 (by omega); have d6 : (wr).cell? ⟨g, k * 10 + 6, none⟩ = some (.int .i64 sb.ap) := hcs 6 (by omega); have d7 : (wr).cell? ⟨g, k * 10 + 7, none⟩ = some (.int .u32 sb.bits) := hcs 7 (by omega); have d8 : (wr).cell? ⟨g, k * 10 + 8, none⟩ = some (.bool sb.ng) := hcs 8 (by omega); have d9 : (wr).cell? ⟨g, k * 10 + 9, none⟩ = some (.bool sb.xn) := hcs 9 (by omega))
        have he := eI_full xs k sb HK.out
        have HE := Lib.hid he
        have hB2 : Below (w.heap.size + 1) (w.alloc (.cells #[.int .i64 b.asid, .int .i64 b.size, .int .u32 b.va, .int .u64 b.pa, .int .i64 b.dom, .int .i64 b.ap, .int .u32 b.bits, .bool b.ng, .bool b.xn] 29)) (wr.alloc (.cells #[.bool true, .int .i64 sb.asid, .int .i64 sb.size, .int .u32 sb.va, .int .u64 sb.pa, .int .i64 sb.dom, .int .i64 sb.ap, .int .u32 sb.bits, .bool sb.ng, .bool sb.xn] 50)) := hB.alloc (by omega) _
        obtain ⟨q, hq⟩ : ∃ q, sb.eqB b = q := ⟨_, rfl⟩
        have HQ := Lib.hid hq
        have heq' := fun W => eql_blk sb b W
        rw [hq] at heq'
        clear hcs he heq hq
        cases q
        · have HF := Lib.hid (findB_next b xs k _ FN.out HK.out (by simp [same, HQ.out]))
          go_wp2
          go_roundw
          case rel => exact ⟨k + 1, by omega, by go_num, by rw [HE.out], HF.out, hB.alloc (by omega) _⟩
          case measure => simp [intOf]; omega
        · have HF := Lib.hid (findB_at b xs k _ FN.out HK.out (by simp [same, HQ.out]))
          go_wp2
          go_ret2
          refine ⟨by unfold putAt; rw [HF.out]; rfl, ?_, grown_of (bbox (hB.alloc (by omega) _)) _⟩
          unfold putRow
          rw [HF.out]
          exact (h.sl.below (bbox (hB.alloc (by omega) _)) hg)
    · have hke : k = xs.length := by omega
      have htk : xs.take k = xs := by rw [hke]; exact List.take_length
      rw [htk]
      have FN2 : Hid (findB b xs = none) := Lib.hid (by rw [← htk]; exact FN.out)
      clear htk hke FN heq
      obtain ⟨ev, hev⟩ : ∃ ev, eI xs = ev := ⟨_, rfl⟩
      rw [hev]
      have HV := Lib.hid hev
      clear hev
      go_upto_if 43 with (fail)
      go_cut [8] (fun v8 wc => v8 = .int .i64 ((putI xs pick : Nat) : Int) ∧ wc = wr)
      case first =>
        by_cases hneg : ev < 0
        · have hpi := eI_none xs pick (by rw [HV.out]; exact hneg) hpos
          obtain ⟨m1, m2, m3, m4⟩ := tmod_pick pick xs.length (by omega)
          have HP := Lib.hid hpi
          have HM1 := Lib.hid m1
          have HM2 := Lib.hid m2
          clear hpi m1 m2
          by_cases hm : pick.tmod xs.length < 0
          · go_wp2
            go_meet
            case rel => exact ⟨by rw [HP.out, ← HM1.out hm], rfl⟩
          · go_wp2
            go_meet
            case rel => exact ⟨by rw [HP.out, ← HM2.out (by omega)], rfl⟩
        · go_wp2
          go_meet
          case rel => exact ⟨by rw [← HV.out, eI_some xs pick (by rw [HV.out]; omega)], rfl⟩
      case rest =>
        obtain ⟨rfl, rfl⟩ := hcut
        have hpl := putI_lt xs pick hpos
        obtain ⟨pi, hpi⟩ : ∃ pi, putI xs pick = pi := ⟨_, rfl⟩
        rw [hpi] at hpl ⊢
        have HPI := Lib.hid hpi
        have hsl := hT.sl
        have hlen := rowCells_len xs
        clear hpi
        go_wp2_with fail
        go_still_tail 8, (by kernel_rfl)
        go_wp2_with (refine wpList_store_blok rfl _ (.tmp 67) (.tmp 66) rfl g (pi * 10) #[.bool true, .int .i64 b.asid, .int .i64 b.size, .int .u32 b.va, .int .u64 b.pa, .int .i64 b.dom, .int .i64 b.ap, .int .u32 b.bits, .bool b.ng, .bool b.xn] rfl rfl (hsl.drewN 1) ?hl (by kernel_rfl) rfl ?_; (case hl => simp; omega); intro w3 hb3 hg3 hz3)
        go_ret2
        refine ⟨by unfold putAt; rw [FN2.out, HPI.out]; rfl, ?_, grown_then hBw (World.grownBy.mk hg3.os hg3.tape hg3.output hg3.size hg3.block)⟩
        unfold putRow
        rw [FN2.out, HPI.out]
        unfold Blok at hb3 ⊢
        rw [rowCells_set xs pi ⟨true, b⟩ hpl]
        exact hb3
end Go.Proofs.YtngcpcgioophcaaDoor
