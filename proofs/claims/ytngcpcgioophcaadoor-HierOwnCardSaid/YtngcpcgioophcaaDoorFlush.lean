/- The program's Flush and Places of layer 10 (tlb). -/
import Derived.Test.YtngcpcgioophcaaDoorPut
namespace Go.Proofs.YtngcpcgioophcaaDoor
open Go.RowKit

theorem gnext {W w' w1 : World} {r : Option Nat} (h : W.grownBy w' r) (k : Below w'.heap.size w' w1) : W.grownBy w1 r :=
  ⟨k.os.trans h.os, k.tape.trans h.tape, k.output.trans h.output, Nat.le_trans h.size k.size, fun i hi hne => (k.block i (Nat.lt_of_lt_of_le hi h.size)).trans (h.block i hi hne)⟩
theorem gtrans {W w' w1 : World} {r : Option Nat} (h : W.grownBy w' r) (k : w'.grownBy w1 r) : W.grownBy w1 r :=
  ⟨k.os.trans h.os, k.tape.trans h.tape, k.output.trans h.output, Nat.le_trans h.size k.size, fun i hi hne => (k.block i (Nat.lt_of_lt_of_le hi h.size) hne).trans (h.block i hi hne)⟩
theorem galloc {W w' : World} {r : Option Nat} (h : W.grownBy w' r) (o : Obj) : W.grownBy (w'.alloc o) r := gnext h ((Below.refl _ _).alloc (Nat.le_refl _) _)
theorem gcell {W w' : World} {r : Option Nat} (h : W.grownBy w' r) {b o : Nat} (hb : b < W.heap.size) (hr : r ≠ some b) : w'.cell? ⟨b, o, none⟩ = W.cell? ⟨b, o, none⟩ :=
  World.cell?_of_block (h.block b hb (fun e => hr e.symm))
theorem gbox {w w1 : World} {o : Obj} {r : Option Nat} (k : (w.alloc o).grownBy w1 r) : w.grownBy w1 r :=
  gtrans (grown_of ((Below.refl w.heap.size w).alloc (Nat.le_refl _) o) r) k
theorem Shf.grown {w w' : World} {r : Option Nat} (h : Shf w) (hg : w.grownBy w' r) (hr : r ≠ some 0) : Shf w' :=
  ⟨(gcell hg h.pos hr).trans h.s0, (gcell hg h.pos hr).trans h.s1, (gcell hg h.pos hr).trans h.s2, (gcell hg h.pos hr).trans h.s3, (gcell hg h.pos hr).trans h.s4⟩
/-- a TLB one of whose places was written -/
theorem IsTlb.set_ {w w3 : World} {tt st : TypeId} {tb g : Nat} {xs : List Slot} {k : Nat} {s : Slot} (h : IsTlb w tt st tb g xs) (hb : Blok w3 g st ((rowCells xs).take (k * 10) ++ slotCells s ++ (rowCells xs).drop (k * 10 + 10))) (hg : w.grownBy w3 (some g)) (hk : k < xs.length) : IsTlb w3 tt st tb g (xs.set k s) :=
  ⟨by rw [List.length_set]; exact h.hd.grown hg (by intro e; exact h.ne (Option.some.inj e)), by rw [rowCells_set xs k s hk]; exact hb, h.ne, by rw [List.length_set]; exact h.pos, by rw [List.length_set]; exact h.le⟩
theorem takesB_no (d : Tlbi) (b : Blk) (h1 : d.kind ≠ 1) (h2 : d.kind ≠ 2) (h3 : d.kind ≠ 3) (h4 : d.kind ≠ 4) : takesB d b = false := by
  unfold takesB dropB; simp [h1, h2, h3, h4]
set_option maxHeartbeats 1600000 in
theorem takes_no (k va' asid' : Int) (b : Blk) (h1 : (k == 1) = false) (h2 : (k == 2) = false) (h3 : (k == 3) = false) (h4 : (k == 4) = false) (w : World) :
    Calls Tryd.prog 22 #[.agg #[.int .i64 k, .int .u32 va', .int .i64 asid'], (.agg #[.int .i64 b.asid, .int .i64 b.size, .int .u32 b.va, .int .u64 b.pa, .int .i64 b.dom, .int .i64 b.ap, .int .u32 b.bits, .bool b.ng, .bool b.xn])] w fun e w' => e = .returned (.bool false) ∧ Below w.heap.size w w' := by
  have tk := fun W => takers_no k h1 h2 h3 h4 W
  have TK := Lib.hid tk
  clear tk h1 h2 h3 h4
  go_enter Tryd.func22, Tryd.ntmps22
  go_wp2_with (go_at_call 59; refine (TK.out _).mono ?_; rintro e w1 ⟨rfl, hb1⟩; have hz1 : w.heap.size < w1.heap.size := (by have := hb1.size; simp at this; omega))
  go_ret
  exact ⟨rfl, bbox2 (Below.alloc (hb1.mono (by simp)) (by have := hb1.size; simp at this; omega) _)⟩
theorem tlb_Takes_is (d : Tlbi) (b : Blk) (hb : b.Ok) (w : World) (hs : Shf w) :
    Calls Tryd.prog 22 #[(.agg #[.int .i64 d.kind, .int .u32 d.va, .int .i64 d.asid]), (.agg #[.int .i64 b.asid, .int .i64 b.size, .int .u32 b.va, .int .u64 b.pa, .int .i64 b.dom, .int .i64 b.ap, .int .u32 b.bits, .bool b.ng, .bool b.xn])] w fun e w' => e = .returned (.bool (takesB d b)) ∧ Below w.heap.size w w' := by
  obtain ⟨k, va', asid'⟩ := d
  by_cases h1 : k = 1
  · subst h1; exact takes_1 va' asid' b hb w hs
  by_cases h2 : k = 2
  · subst h2; exact takes_2 va' asid' b hb w hs
  by_cases h3 : k = 3
  · subst h3; exact takes_3 va' asid' b hb w hs
  by_cases h4 : k = 4
  · subst h4; exact takes_4 va' asid' b hb w hs
  rw [takesB_no ⟨k, va', asid'⟩ b h1 h2 h3 h4]
  exact takes_no k va' asid' b (beq_eq_false_iff_ne.2 h1) (beq_eq_false_iff_ne.2 h2) (beq_eq_false_iff_ne.2 h3) (beq_eq_false_iff_ne.2 h4) w
set_option maxHeartbeats 6400000 in
set_option maxRecDepth 100000 in
theorem tlb_Flush_is (d : Tlbi) (tb g : Nat) (xs : List Slot) (hok : RowOk xs) (hg0 : g ≠ 0) (w : World) (hs : Shf w) (h : IsTlb w 105 50 tb g xs) :
    Calls Tryd.prog 55 #[.pointer (some ⟨tb, 0, none⟩), (.agg #[.int .i64 d.kind, .int .u32 d.va, .int .i64 d.asid])] w fun e w' => e = .returned (.int .i64 (dropN d xs : Nat)) ∧ Blok w' g 50 (rowCells (dropRow d xs)) ∧ w.grownBy w' (some g) := by
  have hl2 := h.le
  have htb := h.hd.lt
  have hg := h.sl.lt
  have hne := h.ne
  have t0 : w.cell? ⟨tb, 0, none⟩ = some (.slice (some ⟨g, 0, none⟩) xs.length xs.length) := h.hd.cell 0
  have b0 : ∀ w', (w.alloc (.cells #[.int .i64 d.kind, .int .u32 d.va, .int .i64 d.asid] 31)).grownBy w' (some g) → w'.cell? ⟨w.heap.size, 0, none⟩ = some (.int .i64 d.kind) := fun w' h => (gcell h (by simp) (by simp; omega)).trans (by simp)
  have b1 : ∀ w', (w.alloc (.cells #[.int .i64 d.kind, .int .u32 d.va, .int .i64 d.asid] 31)).grownBy w' (some g) → w'.cell? ⟨w.heap.size, 1, none⟩ = some (.int .u32 d.va) := fun w' h => (gcell h (by simp) (by simp; omega)).trans (by simp)
  have b2 : ∀ w', (w.alloc (.cells #[.int .i64 d.kind, .int .u32 d.va, .int .i64 d.asid] 31)).grownBy w' (some g) → w'.cell? ⟨w.heap.size, 2, none⟩ = some (.int .i64 d.asid) := fun w' h => (gcell h (by simp) (by simp; omega)).trans (by simp)
  have tc : ∀ w', (w.alloc (.cells #[.int .i64 d.kind, .int .u32 d.va, .int .i64 d.asid] 31)).grownBy w' (some g) → w'.cell? ⟨tb, 0, none⟩ = some (.slice (some ⟨g, 0, none⟩) xs.length xs.length) := fun w' h => (gcell h (by simp; omega) (by simp; omega)).trans ((World.cell?_alloc_lt w _ ⟨tb, 0, none⟩ htb).trans t0)
  go_enter Tryd.func55, Tryd.ntmps55
  go_wp2
  go_loopw [5, 13] (fun v5 v13 wr => ∃ k : Nat, k ≤ xs.length ∧ v13 = .int .i64 k ∧ v5 = .int .i64 (dropN d (xs.take k) : Nat) ∧ IsTlb wr 105 50 tb g (dropTo d k xs) ∧ (w.alloc (.cells #[.int .i64 d.kind, .int .u32 d.va, .int .i64 d.asid] 31)).grownBy wr (some g)) (fun _ v13 _ => xs.length - (intOf v13).toNat)
  case atStart => exact ⟨0, Nat.zero_le _, rfl, rfl, by rw [dropTo_zero]; exact h.below ((Below.refl _ _).alloc (Nat.le_refl _) _), World.grownBy.refl _ _⟩
  case round =>
    obtain ⟨k, hk, rfl, rfl, hT, hG⟩ := hrel
    have hwz := hG.size
    simp at hwz
    have hlt0 := dropTo_len d k xs hk
    have LT := Lib.hid hlt0
    clear hlt0
    by_cases hlt : k < xs.length
    · obtain ⟨s, hsk⟩ : ∃ s, xs[k]? = some s := ⟨_, List.getElem?_eq_getElem hlt⟩
      obtain ⟨full, b⟩ := s
      have hbo : b.Ok := hok _ (List.mem_of_getElem? hsk)
      have hda := dropTo_at d k xs hlt
      rw [hsk] at hda
      have hcs := hT.cells k _ hda
      have hst := dropN_snoc d (xs.take k) ⟨full, b⟩
      rw [← take_snoc xs k _ hsk] at hst
      have hle := dropN_le d (xs.take k)
      have hle2 : dropN d (xs.take k) ≤ 64 := by have := List.length_take_le k xs; omega
      have HS := Lib.hid hst
      have HK := Lib.hid hsk
      clear hst hle hda hsk
      cases full
      · (have d0 : (wr).cell? ⟨g, k * 10, none⟩ = some (.bool false) := hcs 0 (by omega); have d1 : (wr).cell? ⟨g, k * 10 + 1, none⟩ = some (.int .i64 b.asid) := hcs 1 (by omega); have d2 : (wr).cell? ⟨g, k * 10 + 2, none⟩ = some (.int .i64 b.size) := hcs 2 (by omega); have d3 : (wr).cell? ⟨g, k * 10 + 3, none⟩ = some (.int .u32 b.va) := hcs 3 (by omega); have d4 : (wr).cell? ⟨g, k * 10 + 4, none⟩ = some (.int .u64 b.pa) := hcs 4 (by omega); have d5 : (wr).cell? ⟨g, k * 10 + 5, none⟩ = some (.int .i64 b.dom) := hcs 5 (by omega); have d6 : (wr).cell? ⟨g, k * 10 + 6, none⟩ = some (.int .i64 b.ap) := hcs 6 (by omega); have d7 : (wr).cell? ⟨g, k * 10 + 7, none⟩ = some (.int .u32 b.bits) := hcs 7 (by omega); have d8 : (wr).cell? ⟨g, k * 10 + 8, none⟩ = some (.bool b.ng) := hcs 8 (by omega); have d9 : (wr).cell? ⟨g, k * 10 + 9, none⟩ = some (.bool b.xn) := hcs 9 (by omega))
        have HD := Lib.hid (dropTo_same d k xs _ HK.out rfl)
        clear hcs
        go_wp2
        go_roundw
        case rel => exact ⟨k + 1, by omega, by go_num, by rw [HS.out]; rfl, by rw [HD.out]; exact hT.below ((Below.refl _ _).alloc (Nat.le_refl _) _), galloc hG _⟩
        case measure => simp [intOf]; omega
      · (have d0 : (wr).cell? ⟨g, k * 10, none⟩ = some (.bool true) := hcs 0 (by omega); have d1 : (wr).cell? ⟨g, k * 10 + 1, none⟩ = some (.int .i64 b.asid) := hcs 1 (by omega); have d2 : (wr).cell? ⟨g, k * 10 + 2, none⟩ = some (.int .i64 b.size) := hcs 2 (by omega); have d3 : (wr).cell? ⟨g, k * 10 + 3, none⟩ = some (.int .u32 b.va) := hcs 3 (by omega); have d4 : (wr).cell? ⟨g, k * 10 + 4, none⟩ = some (.int .u64 b.pa) := hcs 4 (by omega); have d5 : (wr).cell? ⟨g, k * 10 + 5, none⟩ = some (.int .i64 b.dom) := hcs 5 (by omega); have d6 : (wr).cell? ⟨g, k * 10 + 6, none⟩ = some (.int .i64 b.ap) := hcs 6 (by omega); have d7 : (wr).cell? ⟨g, k * 10 + 7, none⟩ = some (.int .u32 b.bits) := hcs 7 (by omega); have d8 : (wr).cell? ⟨g, k * 10 + 8, none⟩ = some (.bool b.ng) := hcs 8 (by omega); have d9 : (wr).cell? ⟨g, k * 10 + 9, none⟩ = some (.bool b.xn) := hcs 9 (by omega))
        (have c0 : ∀ w', Below (wr.heap.size + 1) (wr.alloc (.cells #[.bool true, .int .i64 b.asid, .int .i64 b.size, .int .u32 b.va, .int .u64 b.pa, .int .i64 b.dom, .int .i64 b.ap, .int .u32 b.bits, .bool b.ng, .bool b.xn] 50)) w' → w'.cell? ⟨wr.heap.size, 0, none⟩ = some (.bool true) := fun w' h => (h.cell (by simp)).trans (by simp); have c1 : ∀ w', Below (wr.heap.size + 1) (wr.alloc (.cells #[.bool true, .int .i64 b.asid, .int .i64 b.size, .int .u32 b.va, .int .u64 b.pa, .int .i64 b.dom, .int .i64 b.ap, .int .u32 b.bits, .bool b.ng, .bool b.xn] 50)) w' → w'.cell? ⟨wr.heap.size, 1, none⟩ = some (.int .i64 b.asid) := fun w' h => (h.cell (by simp)).trans (by simp); have c2 : ∀ w', Below (wr.heap.size + 1) (wr.alloc (.cells #[.bool true, .int .i64 b.asid, .int .i64 b.size, .int .u32 b.va, .int .u64 b.pa, .int .i64 b.dom, .int .i64 b.ap, .int .u32 b.bits, .bool b.ng, .bool b.xn] 50)) w' → w'.cell? ⟨wr.heap.size, 2, none⟩ = some (.int .i64 b.size) := fun w' h => (h.cell (by simp)).trans (by simp); have c3 : ∀ w', Below (wr.heap.size + 1) (wr.alloc (.cells #[.bool true, .int .i64 b.asid, .int .i64 b.size, .int .u32 b.va, .int .u64 b.pa, .int .i64 b.dom, .int .i64 b.ap, .int .u32 b.bits, .bool b.ng, .bool b.xn] 50)) w' → w'.cell? ⟨wr.heap.size, 3, none⟩ = some (.int .u32 b.va) := fun w' h => (h.cell (by simp)).trans (by simp); have c4 : ∀ w', Below (wr.heap.size + 1) (wr.alloc (.cells #[.bool true, .int .i64 b.asid, .int .i64 b.size, .int .u32 b.va, .int .u64 b.pa, .int .i64 b.dom, .int .i64 b.ap, .int .u32 b.bits, .bool b.ng, .bool b.xn] 50)) w' → w'.cell? ⟨wr.heap.size, 4, none⟩ = some (.int .u64 b.pa) := fun w' h => (h.cell (by simp)).trans (by simp); have c5 : ∀ w', Below (wr.heap.size + 1) (wr.alloc (.cells #[.bool true, .int .i64 b.asid, .int .i64 b.size, .int .u32 b.va, .int .u64 b.pa, .int .i64 b.dom, .int .i64 b.ap, .int .u32 b.bits, .bool b.ng, .bool b.xn] 50)) w' → w'.cell? ⟨wr.heap.size, 5, none⟩ = some (.int .i64 b.dom) := fun w' h => (h.cell (by simp)).trans (by simp); have c6 : ∀ w', Below (wr.heap.size + 1) (wr.alloc (.cells #[.bool true, .int .i64 b.asid, .int .i64 b.size, .int .u32 b.va, .int .u64 b.pa, .int .i64 b.dom, .int .i64 b.ap, .int .u32 b.bits, .bool b.ng, .bool b.xn] 50)) w' → w'.cell? ⟨wr.heap.size, 6, none⟩ = some (.int .i64 b.ap) := fun w' h => (h.cell (by simp)).trans (by simp); have c7 : ∀ w', Below (wr.heap.size + 1) (wr.alloc (.cells #[.bool true, .int .i64 b.asid, .int .i64 b.size, .int .u32 b.va, .int .u64 b.pa, .int .i64 b.dom, .int .i64 b.ap, .int .u32 b.bits, .bool b.ng, .bool b.xn] 50)) w' → w'.cell? ⟨wr.heap.size, 7, none⟩ = some (.int .u32 b.bits) := fun w' h => (h.cell (by simp)).trans (by simp); have c8 : ∀ w', Below (wr.heap.size + 1) (wr.alloc (.cells #[.bool true, .int .i64 b.asid, .int .i64 b.size, .int .u32 b.va, .int .u64 b.pa, .int .i64 b.dom, .int .i64 b.ap, .int .u32 b.bits, .bool b.ng, .bool b.xn] 50)) w' → w'.cell? ⟨wr.heap.size, 8, none⟩ = some (.bool b.ng) := fun w' h => (h.cell (by simp)).trans (by simp); have c9 : ∀ w', Below (wr.heap.size + 1) (wr.alloc (.cells #[.bool true, .int .i64 b.asid, .int .i64 b.size, .int .u32 b.va, .int .u64 b.pa, .int .i64 b.dom, .int .i64 b.ap, .int .u32 b.bits, .bool b.ng, .bool b.xn] 50)) w' → w'.cell? ⟨wr.heap.size, 9, none⟩ = some (.bool b.xn) := fun w' h => (h.cell (by simp)).trans (by simp))
        have hs1 : Shf (wr.alloc (.cells #[.bool true, .int .i64 b.asid, .int .i64 b.size, .int .u32 b.va, .int .u64 b.pa, .int .i64 b.dom, .int .i64 b.ap, .int .u32 b.bits, .bool b.ng, .bool b.xn] 50)) := ((hs.alloc _).grown hG (by simp; omega)).alloc _
        have hB1 : Below (wr.heap.size + 1) (wr.alloc (.cells #[.bool true, .int .i64 b.asid, .int .i64 b.size, .int .u32 b.va, .int .u64 b.pa, .int .i64 b.dom, .int .i64 b.ap, .int .u32 b.bits, .bool b.ng, .bool b.xn] 50)) (wr.alloc (.cells #[.bool true, .int .i64 b.asid, .int .i64 b.size, .int .u32 b.va, .int .u64 b.pa, .int .i64 b.dom, .int .i64 b.ap, .int .u32 b.bits, .bool b.ng, .bool b.xn] 50)) := Below.refl _ _
        have hG1 := galloc hG (.cells #[.bool true, .int .i64 b.asid, .int .i64 b.size, .int .u32 b.va, .int .u64 b.pa, .int .i64 b.dom, .int .i64 b.ap, .int .u32 b.bits, .bool b.ng, .bool b.xn] 50)
        have ov := fun W (hW : Shf W) => tlb_Takes_is d b hbo W hW
        obtain ⟨o, ho⟩ : ∃ o, takesB d b = o := ⟨_, rfl⟩
        rw [ho] at ov
        have OV := Lib.hid ov
        have HO := Lib.hid ho
        clear hcs ov ho
        cases o
        · have HD := Lib.hid (dropTo_same d k xs _ HK.out (by simp [hit, HO.out]))
          have HS2 := Lib.hid (show dropN d (xs.take (k + 1)) = dropN d (xs.take k) by rw [HS.out]; simp [hit, HO.out])
          go_wp2_with (go_at_call 22; refine (OV.out _ hs1).mono ?_; rintro e w2 ⟨rfl, hb2⟩; have hB2 := bnext hB1 hb2 (by simp); have hG2 := gnext hG1 hb2)
          go_roundw
          case rel => exact ⟨k + 1, by omega, by go_num, by rw [HS2.out], by rw [HD.out]; exact (hT.below ((Below.refl _ _).alloc (Nat.le_refl _) _)).below hb2, hG2⟩
          case measure => simp [intOf]; omega
        · have HD := Lib.hid (dropTo_succ d k xs _ HK.out)
          have HS2 := Lib.hid (show dropN d (xs.take (k + 1)) = dropN d (xs.take k) + 1 by rw [HS.out]; simp [hit, HO.out])
          have hdl := rowCells_len (dropTo d k xs)
          go_wp2_with (first | (go_at_call 22; refine (OV.out _ hs1).mono ?_; rintro e w2 ⟨rfl, hb2⟩; have hB2 := bnext hB1 hb2 (by simp); have hG2 := gnext hG1 hb2; have hsl2 := ((hT.below ((Below.refl _ _).alloc (Nat.le_refl _) (.cells #[.bool true, .int .i64 b.asid, .int .i64 b.size, .int .u32 b.va, .int .u64 b.pa, .int .i64 b.dom, .int .i64 b.ap, .int .u32 b.bits, .bool b.ng, .bool b.xn] 50))).below hb2)) | (refine wpList_store_blok rfl _ (.tmp 32) (.tmp 31) rfl g (k * 10) #[.bool false, .int .i64 0, .int .i64 0, .int .u32 0, .int .u64 0, .int .i64 0, .int .i64 0, .int .u32 0, .bool false, .bool false] rfl rfl hsl2.sl ?hl (by kernel_rfl) rfl ?_; (case hl => have := LT.out; simp; omega); intro w3 hb3 hg3 hz3))
          go_roundw
          case rel =>
            refine ⟨k + 1, by omega, by go_num, by rw [HS2.out]; go_num, ?_, gtrans hG2 hg3⟩
            have e1 : drop1 d ⟨true, b⟩ = zslot := by simp [drop1, hit, HO.out]
            rw [HD.out, e1]
            exact hsl2.set_ hb3 hg3 (by rw [LT.out]; exact hlt)
          case measure => simp [intOf]; omega
    · have hke : k = xs.length := by omega
      have htk : xs.take k = xs := by rw [hke]; exact List.take_length
      have hda : dropTo d k xs = dropRow d xs := by rw [hke]; exact dropTo_all d xs
      rw [htk]
      rw [hda] at hT
      clear htk hke hda LT
      go_wp2
      go_ret
      exact ⟨rfl, hT.sl, gbox hG⟩
end Go.Proofs.YtngcpcgioophcaaDoor
