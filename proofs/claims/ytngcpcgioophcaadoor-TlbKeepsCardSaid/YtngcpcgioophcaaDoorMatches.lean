/- The walk of the law TlbMatches: for every number of places, script, address and ASID it answers true. -/
import Derived.Test.YtngcpcgioophcaaDoorScript
namespace Go.Proofs.YtngcpcgioophcaaDoor
open Go.RowKit

theorem IsTlb.far {w w' : World} {tt st : TypeId} {tb g r : Nat} {xs : List Slot} (h : IsTlb w tt st tb g xs) (hg : w.grownBy w' (some r)) (h1 : tb ≠ r) (h2 : g ≠ r) : IsTlb w' tt st tb g xs :=
  ⟨h.hd.grown hg (by intro e; exact h1 (Option.some.inj e)), h.sl.grown hg (by intro e; exact h2 (Option.some.inj e)), h.ne, h.pos, h.le⟩
theorem eqB_self (b : Blk) : b.eqB b = true := by simp [Blk.eqB]
theorem eql_self (b : Blk) (w : World) : (binOp .eql 29 (.agg #[.int .i64 b.asid, .int .i64 b.size, .int .u32 b.va, .int .u64 b.pa, .int .i64 b.dom, .int .i64 b.ap, .int .u32 b.bits, .bool b.ng, .bool b.xn]) (.agg #[.int .i64 b.asid, .int .i64 b.size, .int .u32 b.va, .int .u64 b.pa, .int .i64 b.dom, .int .i64 b.ap, .int .u32 b.bits, .bool b.ng, .bool b.xn])).run Tryd.prog w = .ok (.bool true) w := by rw [eql_blk, eqB_self]
set_option maxHeartbeats 12800000 in
set_option maxRecDepth 100000 in
theorem matches_walk (pl : Int) (p : Option Addr) (cap : Nat) (os : List Op10) (hos : ∀ o ∈ os, o.Ok) (hmax : os.length ≤ maxLen) (va asid : Int) (w : World) (hs : Shf w) (hO : OpsIn w.heap.size w p os) :
    Calls Tryd.prog 6 #[.int .i64 pl, .slice p os.length cap, .int .u32 va, .int .i64 asid] w fun e w' => e = .returned (.bool true) ∧ Below w.heap.size w w' := by
  have hml : os.length < 9223372036854775808 := Nat.lt_of_le_of_lt hmax (by decide)
  clear hmax
  obtain ⟨n, hn⟩ : ∃ n, pressN pl = n := ⟨_, rfl⟩
  have hn8 := pressN_pos pl
  have PR := Lib.hid (pressed_is pl w)
  rw [hn] at hn8 PR
  have hg0 : w.heap.size ≠ 0 := by have := hs.pos; omega
  clear hn
  go_enter Tryd.func6, Tryd.ntmps6
  go_wp2_with (first
    | (go_at_call 24; refine PR.out.mono ?_; rintro e w1 ⟨rfl, hT1, hb1⟩; have hs1 := hs.below hs.pos hb1)
    | (go_at_call 17; refine (live_is _ hs1).mono ?_; rintro e w2 ⟨rfl, hb2⟩; have hT2 := hT1.below hb2; have hs2 := hs1.below hs1.pos hb2; have hB2 := bthen hb1 hb2))
  go_loopw [11] (fun v11 wr => ∃ k : Nat, k ≤ os.length ∧ v11 = .int .i64 k ∧ IsTlb wr 105 50 (w.heap.size + 1) w.heap.size (opsRow (os.take k) (newRow n)) ∧ Shf wr ∧ Below w.heap.size w wr) (fun v11 _ => os.length - (intOf v11).toNat)
  case atStart => exact ⟨0, Nat.zero_le _, rfl, hT2, hs2, hB2⟩
  case round =>
    clear hT2 hs2 hB2 hb1 hb2 hT1 hs1 PR
    obtain ⟨k, hk, rfl, hT, hsr, hB⟩ := hrel
    by_cases hlt : k < os.length
    · obtain ⟨o, hok⟩ : ∃ o, os[k]? = some o := ⟨_, List.getElem?_eq_getElem hlt⟩
      obtain ⟨b, k0, hp, hb, hc⟩ := (hO.below hB) k o hok
      subst hp
      (have d0 : (wr).cell? ⟨b, k0 + k * 15, none⟩ = some (.int .i64 o.kind) := hc 0 _ rfl; have d1 : (wr).cell? ⟨b, k0 + k * 15 + 1, none⟩ = some (.int .u32 o.va) := hc 1 _ rfl; have d2 : (wr).cell? ⟨b, k0 + k * 15 + 2, none⟩ = some (.int .i64 o.n) := hc 2 _ rfl; have d3 : (wr).cell? ⟨b, k0 + k * 15 + 3, none⟩ = some (.int .i64 o.blk.asid) := hc 3 _ rfl; have d4 : (wr).cell? ⟨b, k0 + k * 15 + 4, none⟩ = some (.int .i64 o.blk.size) := hc 4 _ rfl; have d5 : (wr).cell? ⟨b, k0 + k * 15 + 5, none⟩ = some (.int .u32 o.blk.va) := hc 5 _ rfl; have d6 : (wr).cell? ⟨b, k0 + k * 15 + 6, none⟩ = some (.int .u64 o.blk.pa) := hc 6 _ rfl; have d7 : (wr).cell? ⟨b, k0 + k * 15 + 7, none⟩ = some (.int .i64 o.blk.dom) := hc 7 _ rfl; have d8 : (wr).cell? ⟨b, k0 + k * 15 + 8, none⟩ = some (.int .i64 o.blk.ap) := hc 8 _ rfl; have d9 : (wr).cell? ⟨b, k0 + k * 15 + 9, none⟩ = some (.int .u32 o.blk.bits) := hc 9 _ rfl; have d10 : (wr).cell? ⟨b, k0 + k * 15 + 10, none⟩ = some (.bool o.blk.ng) := hc 10 _ rfl; have d11 : (wr).cell? ⟨b, k0 + k * 15 + 11, none⟩ = some (.bool o.blk.xn) := hc 11 _ rfl; have d12 : (wr).cell? ⟨b, k0 + k * 15 + 12, none⟩ = some (.int .i64 o.drop.kind) := hc 12 _ rfl; have d13 : (wr).cell? ⟨b, k0 + k * 15 + 13, none⟩ = some (.int .u32 o.drop.va) := hc 13 _ rfl; have d14 : (wr).cell? ⟨b, k0 + k * 15 + 14, none⟩ = some (.int .i64 o.drop.asid) := hc 14 _ rfl)
      have hoo := hos o (List.mem_of_getElem? hok)
      have hrow := opsRow_ok (os.take k) (fun o ho => hos o (List.mem_of_mem_take ho)) _ (newRow_ok n)
      have DO := Lib.hid (does_is o hoo (w.heap.size + 1) w.heap.size _ hrow hg0 wr hsr hT)
      have HK := Lib.hid (take_snocO os k o hok)
      clear hc hok hrow
      go_wp2_with (go_at_call 26; refine DO.out.mono ?_; rintro e w3 ⟨rfl, hT3, hg3⟩)
      go_roundw
      case rel => exact ⟨k + 1, by omega, by go_num, by rw [HK.out, opsRow_snoc]; exact hT3, hsr.grown hg3 (by intro e; exact hg0 (Option.some.inj e)), gthen hB hg3 (Nat.le_refl _)⟩
      case measure => simp [intOf]; omega
    · have hke : k = os.length := by omega
      have htk : os.take k = os := by rw [hke]; exact List.take_length
      rw [htk] at hT
      have hxl := opsRow_len os (newRow n)
      have hxo := opsRow_ok os hos _ (newRow_ok n)
      have hnl : (newRow n).length = n := by simp [newRow]
      obtain ⟨xs, hxs⟩ : ∃ xs, opsRow os (newRow n) = xs := ⟨_, rfl⟩
      rw [hxs] at hT hxl hxo
      rw [hnl] at hxl
      have PL := Lib.hid (tlb_Places_is (w.heap.size + 1) w.heap.size xs wr hT)
      clear hxs htk hke hnl
      go_wp2_with (go_at_call 25; refine PL.out.mono ?_; rintro e w3 ⟨rfl, hL3, hz3, hb3⟩)
      have hT3 := hT.below hb3
      have hs3 := hsr.below hsr.pos hb3
      have hB3 := bthen hB hb3
      have hz0 := hT.hd.lt
      obtain ⟨lb, hlb⟩ : ∃ lb, wr.heap.size = lb := ⟨_, rfl⟩
      rw [hlb] at hL3 hz3 hz0 ⊢
      clear PL hT hsr hB hb3
      go_loopw [13, 15] (fun v13 v15 wq => ∃ k : Nat, k ≤ xs.length ∧ v15 = .int .i64 k ∧ v13 = .int .i64 (lookF va asid (xs.take k)).2 ∧ Blok wq lb 50 (rowCells xs) ∧ Blok wq (lb + 1) 29 (blkCells (lookF va asid (xs.take k)).1) ∧ IsTlb wq 105 50 (w.heap.size + 1) w.heap.size xs ∧ Shf wq ∧ Below w.heap.size w wq) (fun _ v15 _ => xs.length - (intOf v15).toNat)
      case atStart => exact ⟨0, Nat.zero_le _, rfl, rfl, hL3.alloc _, by rw [← hz3]; exact Blok.new _ _ _, hT3.below ((Below.refl _ _).alloc (Nat.le_refl _) _), hs3.alloc _, hB3.alloc hB3.size _⟩
      case round =>
        clear hT3 hs3 hB3 hL3
        obtain ⟨k, hk, rfl, rfl, hL, hF, hT, hsq, hB⟩ := hrel
        have hFl := hF.lt
        have hLl := hL.lt
        have hz4 : w.heap.size ≤ wr.heap.size := hB.size
        have hx8 : xs.length ≤ 8 := by omega
        by_cases hlt : k < xs.length
        · obtain ⟨s, hsk⟩ : ∃ s, xs[k]? = some s := ⟨_, List.getElem?_eq_getElem hlt⟩
          obtain ⟨full, b⟩ := s
          have hbo : b.Ok := hxo _ (List.mem_of_getElem? hsk)
          have hcs : ∀ j (_ : j < 10), wr.cell? ⟨lb, k * 10 + j, none⟩ = (slotCells ⟨full, b⟩)[j]? := fun j hj => by rw [hL.cell, rowCells_at xs k j _ hsk hj]
          have hstep := lookF_snoc va asid (xs.take k) ⟨full, b⟩
          rw [← take_snoc xs k _ hsk] at hstep
          have hle := lookF_le va asid (xs.take k)
          have hle2 : (lookF va asid (xs.take k)).2 ≤ 64 := by have := List.length_take_le k xs; omega
          clear hle hsk
          cases full
          · (have d0 : (wr).cell? ⟨lb, k * 10, none⟩ = some (.bool false) := hcs 0 (by omega); have d1 : (wr).cell? ⟨lb, k * 10 + 1, none⟩ = some (.int .i64 b.asid) := hcs 1 (by omega); have d2 : (wr).cell? ⟨lb, k * 10 + 2, none⟩ = some (.int .i64 b.size) := hcs 2 (by omega); have d3 : (wr).cell? ⟨lb, k * 10 + 3, none⟩ = some (.int .u32 b.va) := hcs 3 (by omega); have d4 : (wr).cell? ⟨lb, k * 10 + 4, none⟩ = some (.int .u64 b.pa) := hcs 4 (by omega); have d5 : (wr).cell? ⟨lb, k * 10 + 5, none⟩ = some (.int .i64 b.dom) := hcs 5 (by omega); have d6 : (wr).cell? ⟨lb, k * 10 + 6, none⟩ = some (.int .i64 b.ap) := hcs 6 (by omega); have d7 : (wr).cell? ⟨lb, k * 10 + 7, none⟩ = some (.int .u32 b.bits) := hcs 7 (by omega); have d8 : (wr).cell? ⟨lb, k * 10 + 8, none⟩ = some (.bool b.ng) := hcs 8 (by omega); have d9 : (wr).cell? ⟨lb, k * 10 + 9, none⟩ = some (.bool b.xn) := hcs 9 (by omega))
            have HS := Lib.hid (show lookF va asid (xs.take (k + 1)) = lookF va asid (xs.take k) by rw [hstep]; simp [lookS])
            clear hcs hstep
            go_wp2
            go_roundw
            case rel => exact ⟨k + 1, by omega, by go_num, by rw [HS.out], hL, by rw [HS.out]; exact hF, hT, hsq, hB⟩
            case measure => simp [intOf]; omega
          · (have d0 : (wr).cell? ⟨lb, k * 10, none⟩ = some (.bool true) := hcs 0 (by omega); have d1 : (wr).cell? ⟨lb, k * 10 + 1, none⟩ = some (.int .i64 b.asid) := hcs 1 (by omega); have d2 : (wr).cell? ⟨lb, k * 10 + 2, none⟩ = some (.int .i64 b.size) := hcs 2 (by omega); have d3 : (wr).cell? ⟨lb, k * 10 + 3, none⟩ = some (.int .u32 b.va) := hcs 3 (by omega); have d4 : (wr).cell? ⟨lb, k * 10 + 4, none⟩ = some (.int .u64 b.pa) := hcs 4 (by omega); have d5 : (wr).cell? ⟨lb, k * 10 + 5, none⟩ = some (.int .i64 b.dom) := hcs 5 (by omega); have d6 : (wr).cell? ⟨lb, k * 10 + 6, none⟩ = some (.int .i64 b.ap) := hcs 6 (by omega); have d7 : (wr).cell? ⟨lb, k * 10 + 7, none⟩ = some (.int .u32 b.bits) := hcs 7 (by omega); have d8 : (wr).cell? ⟨lb, k * 10 + 8, none⟩ = some (.bool b.ng) := hcs 8 (by omega); have d9 : (wr).cell? ⟨lb, k * 10 + 9, none⟩ = some (.bool b.xn) := hcs 9 (by omega))
            obtain ⟨o, ho⟩ : ∃ o, overB b va asid = o := ⟨_, rfl⟩
            have ov := tlb_Over_is b hbo va asid wr hsq
            rw [ho] at ov
            have OV := Lib.hid ov
            clear ov
            cases o
            · have HS := Lib.hid (show lookF va asid (xs.take (k + 1)) = lookF va asid (xs.take k) by rw [hstep]; simp [lookS, ho])
              clear hcs hstep ho
              go_wp2_with (go_at_call 20; refine OV.out.mono ?_; rintro e w5 ⟨rfl, hb5⟩)
              go_roundw
              case rel => exact ⟨k + 1, by omega, by go_num, by rw [HS.out], hL.below hb5 hLl, by rw [HS.out]; exact hF.below hb5 hFl, hT.below hb5, hsq.below hsq.pos hb5, bthen hB hb5⟩
              case measure => simp [intOf]; omega
            · have HS := Lib.hid (show lookF va asid (xs.take (k + 1)) = (b, (lookF va asid (xs.take k)).2 + 1) by rw [hstep]; simp [lookS, ho])
              clear hstep ho
              (have c0 : ∀ w', Below (wr).heap.size (wr) w' → w'.cell? ⟨lb, k * 10, none⟩ = some (.bool true) := fun w' h => (h.cell (by omega)).trans (hcs 0 (by omega)); have c1 : ∀ w', Below (wr).heap.size (wr) w' → w'.cell? ⟨lb, k * 10 + 1, none⟩ = some (.int .i64 b.asid) := fun w' h => (h.cell (by omega)).trans (hcs 1 (by omega)); have c2 : ∀ w', Below (wr).heap.size (wr) w' → w'.cell? ⟨lb, k * 10 + 2, none⟩ = some (.int .i64 b.size) := fun w' h => (h.cell (by omega)).trans (hcs 2 (by omega)); have c3 : ∀ w', Below (wr).heap.size (wr) w' → w'.cell? ⟨lb, k * 10 + 3, none⟩ = some (.int .u32 b.va) := fun w' h => (h.cell (by omega)).trans (hcs 3 (by omega)); have c4 : ∀ w', Below (wr).heap.size (wr) w' → w'.cell? ⟨lb, k * 10 + 4, none⟩ = some (.int .u64 b.pa) := fun w' h => (h.cell (by omega)).trans (hcs 4 (by omega)); have c5 : ∀ w', Below (wr).heap.size (wr) w' → w'.cell? ⟨lb, k * 10 + 5, none⟩ = some (.int .i64 b.dom) := fun w' h => (h.cell (by omega)).trans (hcs 5 (by omega)); have c6 : ∀ w', Below (wr).heap.size (wr) w' → w'.cell? ⟨lb, k * 10 + 6, none⟩ = some (.int .i64 b.ap) := fun w' h => (h.cell (by omega)).trans (hcs 6 (by omega)); have c7 : ∀ w', Below (wr).heap.size (wr) w' → w'.cell? ⟨lb, k * 10 + 7, none⟩ = some (.int .u32 b.bits) := fun w' h => (h.cell (by omega)).trans (hcs 7 (by omega)); have c8 : ∀ w', Below (wr).heap.size (wr) w' → w'.cell? ⟨lb, k * 10 + 8, none⟩ = some (.bool b.ng) := fun w' h => (h.cell (by omega)).trans (hcs 8 (by omega)); have c9 : ∀ w', Below (wr).heap.size (wr) w' → w'.cell? ⟨lb, k * 10 + 9, none⟩ = some (.bool b.xn) := fun w' h => (h.cell (by omega)).trans (hcs 9 (by omega)))
              clear hcs
              go_wp2_with (first | (go_at_call 20; refine OV.out.mono ?_; rintro e w5 ⟨rfl, hb5⟩; have hF5 := hF.below hb5 hFl) | (refine wpList_store_blok rfl _ (.tmp 14) (.tmp 68) rfl (lb + 1) 0 #[.int .i64 b.asid, .int .i64 b.size, .int .u32 b.va, .int .u64 b.pa, .int .i64 b.dom, .int .i64 b.ap, .int .u32 b.bits, .bool b.ng, .bool b.xn] rfl rfl hF5 (by simp [blkCells]) (by kernel_rfl) rfl ?_; intro w6 hb6 hg6 hz6))
              go_roundw
              case rel =>
                refine ⟨k + 1, by omega, by go_num, by rw [HS.out]; go_num, ?_, ?_, ?_, ?_, ?_⟩
                · exact (hL.below hb5 hLl).grown hg6 (by intro e; have := Option.some.inj e; omega)
                · rw [HS.out]; exact hb6
                · exact (hT.below hb5).far hg6 (by omega) (by omega)
                · exact (hsq.below hsq.pos hb5).grown hg6 (by intro e; have := Option.some.inj e; omega)
                · exact gthen (bthen hB hb5) hg6 (by omega)
              case measure => simp [intOf]; omega
        · have hke : k = xs.length := by omega
          have htk : xs.take k = xs := by rw [hke]; exact List.take_length
          rw [htk] at hF
          have HT := Lib.hid htk
          clear htk hke
          rw [HT.out]
          have hle := lookF_le va asid xs
          obtain ⟨m, hm⟩ : ∃ m, (lookF va asid xs).2 = m := ⟨_, rfl⟩
          obtain ⟨fb, hfb⟩ : ∃ fb, (lookF va asid xs).1 = fb := ⟨_, rfl⟩
          have hlN : lookN va asid xs = m := hm
          rw [hm] at hle ⊢
          rw [hfb] at hF
          by_cases c : m = 1
          · have hlB : lookB va asid xs = fb := by unfold lookB; rw [hm, if_pos c, hfb]
            have LK := tlb_Look_is (w.heap.size + 1) w.heap.size xs hxo va asid wr hsq hT
            rw [hlN, hlB] at LK
            have LK' : Hid (Calls Tryd.prog 28 #[.pointer (some ⟨w.heap.size + 1, 0, none⟩), .int .u32 va, .int .i64 asid] wr fun e w' => e = .returned (.tuple #[(.agg #[.int .i64 fb.asid, .int .i64 fb.size, .int .u32 fb.va, .int .u64 fb.pa, .int .i64 fb.dom, .int .i64 fb.ap, .int .u32 fb.bits, .bool fb.ng, .bool fb.xn]), .int .i64 m]) ∧ Below wr.heap.size wr w') := Lib.hid LK
            have heq := eql_self fb
            subst c
            clear hlB hlN hfb hm LK
            go_wp2_with (go_at_call 28; refine LK'.out.mono ?_; rintro e w7 ⟨rfl, hb7⟩; have hF7 := hF.below hb7 hFl; have hF7l := hF7.lt; (have f0 : (w7).cell? ⟨lb + 1, 0, none⟩ = some (.int .i64 fb.asid) := (hF7).cell 0; have f1 : (w7).cell? ⟨lb + 1, 1, none⟩ = some (.int .i64 fb.size) := (hF7).cell 1; have f2 : (w7).cell? ⟨lb + 1, 2, none⟩ = some (.int .u32 fb.va) := (hF7).cell 2; have f3 : (w7).cell? ⟨lb + 1, 3, none⟩ = some (.int .u64 fb.pa) := (hF7).cell 3; have f4 : (w7).cell? ⟨lb + 1, 4, none⟩ = some (.int .i64 fb.dom) := (hF7).cell 4; have f5 : (w7).cell? ⟨lb + 1, 5, none⟩ = some (.int .i64 fb.ap) := (hF7).cell 5; have f6 : (w7).cell? ⟨lb + 1, 6, none⟩ = some (.int .u32 fb.bits) := (hF7).cell 6; have f7 : (w7).cell? ⟨lb + 1, 7, none⟩ = some (.bool fb.ng) := (hF7).cell 7; have f8 : (w7).cell? ⟨lb + 1, 8, none⟩ = some (.bool fb.xn) := (hF7).cell 8))
            go_ret
            exact ⟨rfl, bthen hB (hb7.alloc hb7.size _)⟩
          · have hlB : lookB va asid xs = zblk := by unfold lookB; rw [hm, if_neg c]
            have c' : ((m : Int) != 1) = true := by rw [bne_iff_ne]; omega
            have LK' : Hid (∀ W, Shf W → IsTlb W 105 50 (w.heap.size + 1) w.heap.size xs → Calls Tryd.prog 28 #[.pointer (some ⟨w.heap.size + 1, 0, none⟩), .int .u32 va, .int .i64 asid] W fun e w' => e = .returned (.tuple #[.agg #[.int .i64 0, .int .i64 0, .int .u32 0, .int .u64 0, .int .i64 0, .int .i64 0, .int .u32 0, .bool false, .bool false], .int .i64 m]) ∧ Below W.heap.size W w') := Lib.hid (fun W h1 h2 => by
              have LK := tlb_Look_is (w.heap.size + 1) w.heap.size xs hxo va asid W h1 h2
              rw [hlN, hlB] at LK
              exact LK)
            have heq : ∀ W, (binOp .eql 29 (.agg #[.int .i64 0, .int .i64 0, .int .u32 0, .int .u64 0, .int .i64 0, .int .i64 0, .int .u32 0, .bool false, .bool false]) (.agg #[.int .i64 0, .int .i64 0, .int .u32 0, .int .u64 0, .int .i64 0, .int .i64 0, .int .u32 0, .bool false, .bool false])).run Tryd.prog W = .ok (.bool true) W := eql_self zblk
            clear hlB hlN hfb hm c
            go_wp2_with (first
              | (refine wpList_store_blok rfl _ (.tmp 14) (.tmp 73) rfl (lb + 1) 0 #[.int .i64 0, .int .i64 0, .int .u32 0, .int .u64 0, .int .i64 0, .int .i64 0, .int .u32 0, .bool false, .bool false] rfl rfl hF (by simp [blkCells]) (by kernel_rfl) rfl ?_; intro w6 hb6 hg6 hz6; have hs6 := hsq.grown hg6 (by intro e; have := Option.some.inj e; omega); have hT6 := hT.far hg6 (by omega) (by omega))
              | (go_at_call 28; refine (LK'.out _ hs6 hT6).mono ?_; rintro e w7 ⟨rfl, hb7⟩; have hF7 : Blok w7 (lb + 1) 29 (blkCells zblk) := Blok.below hb6 hb7 (by omega); have hF7l := hF7.lt; (have f0 : (w7).cell? ⟨lb + 1, 0, none⟩ = some (.int .i64 0) := (hF7).cell 0; have f1 : (w7).cell? ⟨lb + 1, 1, none⟩ = some (.int .i64 0) := (hF7).cell 1; have f2 : (w7).cell? ⟨lb + 1, 2, none⟩ = some (.int .u32 0) := (hF7).cell 2; have f3 : (w7).cell? ⟨lb + 1, 3, none⟩ = some (.int .u64 0) := (hF7).cell 3; have f4 : (w7).cell? ⟨lb + 1, 4, none⟩ = some (.int .i64 0) := (hF7).cell 4; have f5 : (w7).cell? ⟨lb + 1, 5, none⟩ = some (.int .i64 0) := (hF7).cell 5; have f6 : (w7).cell? ⟨lb + 1, 6, none⟩ = some (.int .u32 0) := (hF7).cell 6; have f7 : (w7).cell? ⟨lb + 1, 7, none⟩ = some (.bool false) := (hF7).cell 7; have f8 : (w7).cell? ⟨lb + 1, 8, none⟩ = some (.bool false) := (hF7).cell 8)))
            go_ret
            exact ⟨rfl, bthen (gthen hB hg6 (by omega)) (hb7.alloc hb7.size _)⟩
end Go.Proofs.YtngcpcgioophcaaDoor
