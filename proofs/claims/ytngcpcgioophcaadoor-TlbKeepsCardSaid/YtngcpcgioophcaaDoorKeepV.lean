/- The walk of the law TlbKeeps of layer 10. -/
import Derived.Test.YtngcpcgioophcaaDoorKeepL
namespace Go.Proofs.YtngcpcgioophcaaDoor
open Go.RowKit

set_option maxHeartbeats 12800000 in
set_option maxRecDepth 100000 in
theorem keeps_walk (pl : Int) (p : Option Addr) (cap : Nat) (os : List Op10) (hos : ∀ o ∈ os, o.Ok) (hmax : os.length ≤ maxLen) (w : World) (hs : Shf w) (hO : OpsIn w.heap.size w p os) :
    Calls Tryd.prog 5 #[.int .i64 pl, .slice p os.length cap] w fun e w' => e = .returned (.bool true) ∧ Below w.heap.size w w' := by
  have hml : os.length < 9223372036854775808 := Nat.lt_of_le_of_lt hmax (by decide)
  have HOS := Lib.hid hos
  clear hmax hos
  obtain ⟨n, hn⟩ : ∃ n, pressN pl = n := ⟨_, rfl⟩
  have hn8 := pressN_pos pl
  have PR := Lib.hid (pressed_is pl w)
  rw [hn] at hn8 PR
  have hg0 : w.heap.size ≠ 0 := by have := hs.pos; omega
  clear hn
  go_enter Tryd.func5, Tryd.ntmps5
  go_wp2_with (first
    | (go_at_call 24; refine PR.out.mono ?_; rintro e w1 ⟨rfl, hT1, hb1⟩; have hs1 := hs.below hs.pos hb1)
    | (go_at_call 17; refine (live_is _ hs1).mono ?_; rintro e w2 ⟨rfl, hb2⟩; have hT2 := hT1.below hb2; have hs2 := hs1.below hs1.pos hb2; have hB2 := bthen hb1 hb2))
  go_loopw [7] (fun v7 wr => ∃ k : Nat, k ≤ os.length ∧ v7 = .int .i64 k ∧ IsTlb wr 105 50 (w.heap.size + 1) w.heap.size (opsRow (os.take k) (newRow n)) ∧ Shf wr ∧ Below w.heap.size w wr) (fun v7 _ => os.length - (intOf v7).toNat)
  case atStart => exact ⟨0, Nat.zero_le _, rfl, hT2, hs2, hB2⟩
  case round =>
    clear hT2 hs2 hB2 hb1 hb2 hT1 hs1 PR
    obtain ⟨k, hk, rfl, hT, hsr, hB⟩ := hrel
    by_cases hlt : k < os.length
    · obtain ⟨o, hok⟩ : ∃ o, os[k]? = some o := ⟨_, List.getElem?_eq_getElem hlt⟩
      obtain ⟨b, k0, hp, hb, hc⟩ := (hO.below hB) k o hok
      subst hp
      have HRG : Hid (wr.rangeAt b (k0 + k * 15) [.int .i64 o.kind, .int .u32 o.va, .int .i64 o.n, .int .i64 o.blk.asid, .int .i64 o.blk.size, .int .u32 o.blk.va, .int .u64 o.blk.pa, .int .i64 o.blk.dom, .int .i64 o.blk.ap, .int .u32 o.blk.bits, .bool o.blk.ng, .bool o.blk.xn, .int .i64 o.drop.kind, .int .u32 o.drop.va, .int .i64 o.drop.asid]) := Lib.hid (fun j v hv => hc j v hv)
      have hoo := HOS.out o (List.mem_of_getElem? hok)
      have hxok := opsRow_ok (os.take k) (fun o ho => HOS.out o (List.mem_of_mem_take ho)) _ (newRow_ok n)
      have hxnod := opsRow_nod (os.take k) (newRow_nodbl n)
      have hxr := opsRow_right (os.take k) (newRow_right n)
      have hxl : (opsRow (os.take k) (newRow n)).length = n := (opsRow_len _ _).trans (by simp [newRow])
      have hsn : opsRow (os.take (k + 1)) (newRow n) = opRow o (opsRow (os.take k) (newRow n)) := by rw [take_snocO os k o hok, opsRow_snoc]
      obtain ⟨xs, hxs⟩ : ∃ xs, opsRow (os.take k) (newRow n) = xs := ⟨_, rfl⟩
      rw [hxs] at hT hxok hxnod hxr hxl hsn
      have KL0 : KLaw o xs (opRow o xs) n := ⟨hxl, (opRow_len o xs).trans hxl, hxok, opRow_ok o hoo xs hxok, opRow_nod o hxnod, opRow_right o hxr, rfl, by omega⟩
      have DO0 := fun W h1 h2 => does_is o hoo (w.heap.size + 1) w.heap.size xs hxok hg0 W h1 h2
      obtain ⟨ys, hys⟩ : ∃ ys, opRow o xs = ys := ⟨_, rfl⟩
      rw [hys] at KL0 DO0 hsn
      have KL := Lib.hid KL0
      have DO := Lib.hid DO0
      have SN := Lib.hid hsn
      have HXN := Lib.hid hxnod
      have HOO := Lib.hid hoo
      have PX : Hid (∀ W, IsTlb W 105 50 (w.heap.size + 1) w.heap.size xs → Calls Tryd.prog 25 #[.pointer (some ⟨w.heap.size + 1, 0, none⟩)] W fun e w' => e = .returned (.slice (some ⟨W.heap.size, 0, none⟩) n n) ∧ Blok w' W.heap.size 50 (rowCells xs) ∧ w'.heap.size = W.heap.size + 1 ∧ Below W.heap.size W w') := Lib.hid (fun W hW => by have := tlb_Places_is _ _ xs W hW; rwa [hxl] at this)
      have PY : Hid (∀ W, IsTlb W 105 50 (w.heap.size + 1) w.heap.size ys → Calls Tryd.prog 25 #[.pointer (some ⟨w.heap.size + 1, 0, none⟩)] W fun e w' => e = .returned (.slice (some ⟨W.heap.size, 0, none⟩) n n) ∧ Blok w' W.heap.size 50 (rowCells ys) ∧ w'.heap.size = W.heap.size + 1 ∧ Below W.heap.size W w') := Lib.hid (fun W hW => by have := tlb_Places_is _ _ ys W hW; rwa [KL.out.ly] at this)
      have X0 : Blok (wr.alloc (.cells #[.int .i64 0, .int .u32 0, .int .i64 0, .int .i64 0, .int .i64 0, .int .u32 0, .int .u64 0, .int .i64 0, .int .i64 0, .int .u32 0, .bool false, .bool false, .int .i64 0, .int .u32 0, .int .i64 0] 44)) wr.heap.size 44 (#[.int .i64 0, .int .u32 0, .int .i64 0, .int .i64 0, .int .i64 0, .int .u32 0, .int .u64 0, .int .i64 0, .int .i64 0, .int .u32 0, .bool false, .bool false, .int .i64 0, .int .u32 0, .int .i64 0] : Array Value).toList := Blok.new wr _ _
      have i0 : (0 : Int) ≤ ↑k := by omega
      have i1 : (↑k : Int) < ↑os.length := by omega
      clear hok hc hxok hxnod hxr hxl hsn hxs hys KL0 DO0 hoo
      go_upto_region 8 with (first
        | (refine wpList_load_mid rfl 44 (.tmp 35) rfl b (k0 + k * 15) rfl [.int .i64 o.kind, .int .u32 o.va, .int .i64 o.n, .int .i64 o.blk.asid, .int .i64 o.blk.size, .int .u32 o.blk.va, .int .u64 o.blk.pa, .int .i64 o.blk.dom, .int .i64 o.blk.ap, .int .u32 o.blk.bits, .bool o.blk.ng, .bool o.blk.xn, .int .i64 o.drop.kind, .int .u32 o.drop.va, .int .i64 o.drop.asid] _ HRG.out Tryd.underlying44 rfl (by kernel_rfl) ?_)
        | (refine wpList_store_all rfl _ (.tmp 8) (.tmp 36) rfl wr.heap.size #[.int .i64 o.kind, .int .u32 o.va, .int .i64 o.n, .int .i64 o.blk.asid, .int .i64 o.blk.size, .int .u32 o.blk.va, .int .u64 o.blk.pa, .int .i64 o.blk.dom, .int .i64 o.blk.ap, .int .u32 o.blk.bits, .bool o.blk.ng, .bool o.blk.xn, .int .i64 o.drop.kind, .int .u32 o.drop.va, .int .i64 o.drop.asid] rfl rfl X0 rfl (by kernel_rfl) rfl ?_; intro w4 X1 hg4 hz4; have B4 := below_new hg4; have T4 := hT.below B4; have s4 := hsr.below hsr.pos B4; have BB4 := bthen hB B4))
      have hob := X1.lt
      have hog : w.heap.size + 1 < wr.heap.size := hT.hd.lt
      obtain ⟨ob, hobe⟩ : ∃ ob, wr.heap.size = ob := ⟨_, rfl⟩
      rw [hobe] at X1 hob hog
      simp only [hobe]
      clear X0 hg4 hz4 hT hsr hB B4 hobe HRG
      have PX4 := Lib.hid (PX.out _ T4)
      clear PX
      go_upto_region 9 with (go_at_call 25; refine PX4.out.mono ?_; rintro e w5 ⟨rfl, L5, z5, b5⟩)
      have X5 := X1.below b5 X1.lt
      have T5 := T4.below b5
      have s5 := s4.below s4.pos b5
      have B5 := bthen BB4 b5
      obtain ⟨wb, hwb⟩ : ∃ wb, w4.heap.size = wb := ⟨_, rfl⟩
      rw [hwb] at L5 z5 hob
      simp only [hwb]
      have DO5 := Lib.hid (DO.out _ s5 T5)
      clear PX4 hwb X1 T4 s4 BB4 b5 DO
      (have c0 : (w5).cell? ⟨ob, 0, none⟩ = some (.int .i64 o.kind) := (X5).cell 0; have c1 : (w5).cell? ⟨ob, 1, none⟩ = some (.int .u32 o.va) := (X5).cell 1; have c2 : (w5).cell? ⟨ob, 2, none⟩ = some (.int .i64 o.n) := (X5).cell 2; have c3 : (w5).cell? ⟨ob, 3, none⟩ = some (.int .i64 o.blk.asid) := (X5).cell 3; have c4 : (w5).cell? ⟨ob, 4, none⟩ = some (.int .i64 o.blk.size) := (X5).cell 4; have c5 : (w5).cell? ⟨ob, 5, none⟩ = some (.int .u32 o.blk.va) := (X5).cell 5; have c6 : (w5).cell? ⟨ob, 6, none⟩ = some (.int .u64 o.blk.pa) := (X5).cell 6; have c7 : (w5).cell? ⟨ob, 7, none⟩ = some (.int .i64 o.blk.dom) := (X5).cell 7; have c8 : (w5).cell? ⟨ob, 8, none⟩ = some (.int .i64 o.blk.ap) := (X5).cell 8; have c9 : (w5).cell? ⟨ob, 9, none⟩ = some (.int .u32 o.blk.bits) := (X5).cell 9; have c10 : (w5).cell? ⟨ob, 10, none⟩ = some (.bool o.blk.ng) := (X5).cell 10; have c11 : (w5).cell? ⟨ob, 11, none⟩ = some (.bool o.blk.xn) := (X5).cell 11; have c12 : (w5).cell? ⟨ob, 12, none⟩ = some (.int .i64 o.drop.kind) := (X5).cell 12; have c13 : (w5).cell? ⟨ob, 13, none⟩ = some (.int .u32 o.drop.va) := (X5).cell 13; have c14 : (w5).cell? ⟨ob, 14, none⟩ = some (.int .i64 o.drop.asid) := (X5).cell 14)
      go_upto_region 10 with (go_at_call 26; refine DO5.out.mono ?_; rintro e w6 ⟨rfl, T6, g6⟩)
      clear c0 c1 c2 c3 c4 c5 c6 c7 c8 c9 c10 c11 c12 c13 c14
      have X6 := X5.grown g6 (by intro e; have := Option.some.inj e; omega)
      have L6 := L5.grown g6 (by intro e; have := Option.some.inj e; omega)
      have s6 := s5.grown g6 (by intro e; exact hg0 (Option.some.inj e))
      have B6 := gthen B5 g6 (Nat.le_refl _)
      have PY6 := Lib.hid (PY.out _ T6)
      have z6 := g6.size
      clear DO5 T5 s5 B5 X5 L5 PY g6
      go_upto_region 13 with (go_at_call 25; refine PY6.out.mono ?_; rintro e w7 ⟨rfl, L7, z7, b7⟩)
      have I7 : KInv w w.heap.size (w.heap.size + 1) wb w6.heap.size ob o xs ys w7 := ⟨L6.below b7 L6.lt, L7, X6.below b7 X6.lt, T6.below b7, s6.below s6.pos b7, bthen B6 b7⟩
      obtain ⟨nb, hnb⟩ : ∃ nb, w6.heap.size = nb := ⟨_, rfl⟩
      rw [hnb] at I7
      simp only [hnb]
      clear PY6 hnb X6 L6 L7 T6 s6 B6 b7 z5 z6 z7 hob hog
      go_wp2_with fail
      refine keep_loop w w.heap.size (w.heap.size + 1) wb nb ob n o xs ys KL (by omega) w7 I7 ?_
      clear I7
      intros
      rename_i w8 I
      (have c0 : (w8).cell? ⟨ob, 0, none⟩ = some (.int .i64 o.kind) := (I.op).cell 0; have c1 : (w8).cell? ⟨ob, 1, none⟩ = some (.int .u32 o.va) := (I.op).cell 1; have c2 : (w8).cell? ⟨ob, 2, none⟩ = some (.int .i64 o.n) := (I.op).cell 2; have c3 : (w8).cell? ⟨ob, 3, none⟩ = some (.int .i64 o.blk.asid) := (I.op).cell 3; have c4 : (w8).cell? ⟨ob, 4, none⟩ = some (.int .i64 o.blk.size) := (I.op).cell 4; have c5 : (w8).cell? ⟨ob, 5, none⟩ = some (.int .u32 o.blk.va) := (I.op).cell 5; have c6 : (w8).cell? ⟨ob, 6, none⟩ = some (.int .u64 o.blk.pa) := (I.op).cell 6; have c7 : (w8).cell? ⟨ob, 7, none⟩ = some (.int .i64 o.blk.dom) := (I.op).cell 7; have c8 : (w8).cell? ⟨ob, 8, none⟩ = some (.int .i64 o.blk.ap) := (I.op).cell 8; have c9 : (w8).cell? ⟨ob, 9, none⟩ = some (.int .u32 o.blk.bits) := (I.op).cell 9; have c10 : (w8).cell? ⟨ob, 10, none⟩ = some (.bool o.blk.ng) := (I.op).cell 10; have c11 : (w8).cell? ⟨ob, 11, none⟩ = some (.bool o.blk.xn) := (I.op).cell 11; have c12 : (w8).cell? ⟨ob, 12, none⟩ = some (.int .i64 o.drop.kind) := (I.op).cell 12; have c13 : (w8).cell? ⟨ob, 13, none⟩ = some (.int .u32 o.drop.va) := (I.op).cell 13; have c14 : (w8).cell? ⟨ob, 14, none⟩ = some (.int .i64 o.drop.asid) := (I.op).cell 14)
      have hend : ∀ W, Below w8.heap.size w8 W → IsTlb W 105 50 (w.heap.size + 1) w.heap.size (opsRow (os.take (k + 1)) (newRow n)) ∧ Shf W ∧ Below w.heap.size w W := fun W hW => by rw [SN.out]; have J := I.below hW; exact ⟨J.t, J.shf, J.bel⟩
      have HE := Lib.hid hend
      have HI := Lib.hid I
      clear hend
      by_cases h2 : o.kind = 2
      · have t2 : (o.kind == 2) = true := by simp [h2]
        have RR0 := fun W hW => tlb_Right_is o.blk HOO.out.b W hW
        cases hr : rightB o.blk
        · have ht : opTook o = false := by unfold opTook; simp [hr]
          rw [hr] at RR0
          have RR := Lib.hid RR0
          clear RR0 hr h2
          rw [ht]
          go_wp2_with fail
          refine (RR.out _ I.shf).mono ?_
          rintro e w9 ⟨rfl, b9⟩
          have HF := HE.out w9 b9
          go_wp2_with fail
          go_roundw
          case rel => exact ⟨k + 1, by omega, by go_num, HF.1, HF.2.1, HF.2.2⟩
          case measure => simp [intOf]; omega
        · have ht : opTook o = true := by unfold opTook; simp [hr, h2]
          rw [hr] at RR0
          have RR := Lib.hid RR0
          obtain ⟨tk1, tk2⟩ := KL.out.took HXN.out ht
          have W0 := fun W hW => within_is nb n ys KL.out.ly (by omega) o.blk n W hW
          rw [tk1] at W0
          have WN := Lib.hid W0
          clear RR0 hr h2 tk1 W0
          rw [ht]
          obtain ⟨m, hm⟩ : ∃ m, turnN xs ys n = m := ⟨_, rfl⟩
          rw [hm] at tk2 ⊢
          clear hm
          have tk3 : ¬ ((m : Int) > 1) := by omega
          go_wp2_with fail
          refine (RR.out _ I.shf).mono ?_
          rintro e w9 ⟨rfl, b9⟩
          have I9 := I.below b9
          clear c0 c1 c2 c3 c4 c5 c6 c7 c8 c9 c10 c11 c12 c13 c14 I
          (have c0 : (w9).cell? ⟨ob, 0, none⟩ = some (.int .i64 o.kind) := (I9.op).cell 0; have c1 : (w9).cell? ⟨ob, 1, none⟩ = some (.int .u32 o.va) := (I9.op).cell 1; have c2 : (w9).cell? ⟨ob, 2, none⟩ = some (.int .i64 o.n) := (I9.op).cell 2; have c3 : (w9).cell? ⟨ob, 3, none⟩ = some (.int .i64 o.blk.asid) := (I9.op).cell 3; have c4 : (w9).cell? ⟨ob, 4, none⟩ = some (.int .i64 o.blk.size) := (I9.op).cell 4; have c5 : (w9).cell? ⟨ob, 5, none⟩ = some (.int .u32 o.blk.va) := (I9.op).cell 5; have c6 : (w9).cell? ⟨ob, 6, none⟩ = some (.int .u64 o.blk.pa) := (I9.op).cell 6; have c7 : (w9).cell? ⟨ob, 7, none⟩ = some (.int .i64 o.blk.dom) := (I9.op).cell 7; have c8 : (w9).cell? ⟨ob, 8, none⟩ = some (.int .i64 o.blk.ap) := (I9.op).cell 8; have c9 : (w9).cell? ⟨ob, 9, none⟩ = some (.int .u32 o.blk.bits) := (I9.op).cell 9; have c10 : (w9).cell? ⟨ob, 10, none⟩ = some (.bool o.blk.ng) := (I9.op).cell 10; have c11 : (w9).cell? ⟨ob, 11, none⟩ = some (.bool o.blk.xn) := (I9.op).cell 11; have c12 : (w9).cell? ⟨ob, 12, none⟩ = some (.int .i64 o.drop.kind) := (I9.op).cell 12; have c13 : (w9).cell? ⟨ob, 13, none⟩ = some (.int .u32 o.drop.va) := (I9.op).cell 13; have c14 : (w9).cell? ⟨ob, 14, none⟩ = some (.int .i64 o.drop.asid) := (I9.op).cell 14)
          go_wp2_with fail
          refine (WN.out _ I9.now).mono ?_
          rintro e w10 ⟨rfl, b10⟩
          have HF := HE.out w10 (bthen b9 b10)
          go_wp2_with fail
          go_roundw
          case rel => exact ⟨k + 1, by omega, by go_num, HF.1, HF.2.1, HF.2.2⟩
          case measure => simp [intOf]; omega
      · have t2 : (o.kind == 2) = false := by simp [h2]
        have ht : opTook o = false := by unfold opTook; simp [h2]
        have HF := HE.out w8 (Below.refl _ _)
        clear h2
        rw [ht]
        go_wp2_with fail
        go_roundw
        case rel => exact ⟨k + 1, by omega, by go_num, HF.1, HF.2.1, HF.2.2⟩
        case measure => simp [intOf]; omega
    · go_wp2
      go_ret
      exact ⟨rfl, hB⟩
end Go.Proofs.YtngcpcgioophcaaDoor
