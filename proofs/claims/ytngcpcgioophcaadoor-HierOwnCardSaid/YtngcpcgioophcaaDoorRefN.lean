/- The document's three TLBs (atlasref11): Keep. The document's three TLBs (atlasref11): Find. New of the three TLBs: the program's (hier) and the document's (atlasref11); Places of the document's. -/
import Derived.Test.YtngcpcgioophcaaDoorRefD
import Derived.Deep.AppendLies
import Derived.LoopN
namespace Go.Proofs.YtngcpcgioophcaaDoor
open Go.RowKit

theorem ref11_Keep_no (b : Blk) (hbo : b.Ok) (va asid : Int) (ho : overB b va asid = false) (fetch : Bool) (pick : Int) (hb : Addr) (w : World) :
    Calls Tryd.prog 71 #[.pointer (some hb), (.agg #[.int .i64 b.asid, .int .i64 b.size, .int .u32 b.va, .int .u64 b.pa, .int .i64 b.dom, .int .i64 b.ap, .int .u32 b.bits, .bool b.ng, .bool b.xn]), .int .u32 va, .int .i64 asid, .bool fetch, .int .i64 pick] w fun e w' => e = .returned (.int .i64 101) ∧ Below w.heap.size w w' := by
  have ov := ref_Over_is b hbo va asid (w.alloc (.cells #[.int .i64 b.asid, .int .i64 b.size, .int .u32 b.va, .int .u64 b.pa, .int .i64 b.dom, .int .i64 b.ap, .int .u32 b.bits, .bool b.ng, .bool b.xn] 29))
  rw [ho] at ov
  have OV := Lib.hid ov
  clear ov ho
  go_enter Tryd.func71, Tryd.ntmps71
  go_wp2_with (go_at_call 21; refine OV.out.mono ?_; rintro e w1 ⟨rfl, hb1⟩)
  go_ret
  exact ⟨rfl, bbox (by simpa using hb1)⟩
theorem wp_region_tail {P : Program} {id : Nat} {Q : Exit → Act → World → Prop} {a : Act} {w : World} {l : List Oper} (n : Nat) (hm : P.follows .mixedOrders = true) (hB : Region.lexTailB .any l.toArray n = true)
    (h : wpStill P l.toArray w.drew (fun a' => wpList P l.toArray Q (l.drop n) a' w.drew) (l.take n) a) : (Code.region id l.toArray true).wp P Q a w := wp_region_still_tail n hm hB h
theorem bal {wr w : World} (h : Below wr.heap.size wr w) (o : Obj) : Below wr.heap.size wr (w.alloc o) := h.alloc h.size o
theorem IsRef.newAt {w w' : World} {hb : Nat} {tb gb : Nat → Nat} {xs : Nat → List Slot} {g B : Nat} (h : IsRef w hb tb gb xs) (k : w.grownBy w' (some g)) (hB : B ≤ g) (h1 : hb < B) (h2 : ∀ k, 1 ≤ k → k ≤ 3 → gb k < B ∧ tb k < B) : IsRef w' hb tb gb xs :=
  ⟨h.b.grown k (fun e => by have := Option.some.inj e; omega), ⟨fun j a c => (h.th.t j a c).far' k (fun e => by have := h2 j a c; omega) (fun e => by have := h2 j a c; omega), h.th.inj, h.th.far, h.th.gz⟩, h.ne⟩
theorem ref_look_lit (tb g : Nat) (xs : List Slot) (hok : RowOk xs) (va asid : Int) (fb : Blk) (m : Nat) (hfb : lookB va asid xs = fb) (hm : lookN va asid xs = m) (W : World) (h2 : IsTlb W 67 50 tb g xs) :
    Calls Tryd.prog 62 #[.pointer (some ⟨tb, 0, none⟩), .int .u32 va, .int .i64 asid] W fun e w' => e = .returned (.tuple #[(.agg #[.int .i64 fb.asid, .int .i64 fb.size, .int .u32 fb.va, .int .u64 fb.pa, .int .i64 fb.dom, .int .i64 fb.ap, .int .u32 fb.bits, .bool fb.ng, .bool fb.xn]), .int .i64 m]) ∧ Below W.heap.size W w' := by
  have := ref_Look_is tb g xs hok va asid W h2
  rw [hfb, hm] at this
  exact this
/-- the rows when j of the two were asked -/
def keepU (xs : Nat → List Slot) (b : Blk) (va asid : Int) (fetch : Bool) (pick : Int) : Nat → (Nat → List Slot)
  | 0 => xs
  | 1 => upd xs 3 (takeRow b va asid pick (xs 3))
  | _ => upd (upd xs 3 (takeRow b va asid pick (xs 3))) (sm fetch) (takeRow b va asid pick (xs (sm fetch)))
def keepT (fetch : Bool) (j : Nat) : Nat := if j = 0 then 3 else sm fetch
theorem keepU_next (xs : Nat → List Slot) (b : Blk) (va asid : Int) (fetch : Bool) (pick : Int) (j : Nat) (h : j < 2) :
    keepU xs b va asid fetch pick (j + 1) = upd (keepU xs b va asid fetch pick j) (keepT fetch j) (takeRow b va asid pick (xs (keepT fetch j))) ∧ keepU xs b va asid fetch pick j (keepT fetch j) = xs (keepT fetch j) := by
  obtain rfl | rfl : j = 0 ∨ j = 1 := by omega
  · exact ⟨rfl, rfl⟩
  · exact ⟨rfl, upd_ne _ _ _ _ (sm_le fetch).2.2⟩
theorem keepT_le (fetch : Bool) (j : Nat) : 1 ≤ keepT fetch j ∧ keepT fetch j ≤ 3 := by unfold keepT; have := sm_le fetch; split <;> omega
set_option maxHeartbeats 6400000 in
set_option maxRecDepth 100000 in
theorem ref11_Keep_yes (b : Blk) (hbo : b.Ok) (va asid : Int) (ho : overB b va asid = true) (fetch : Bool) (pick : Int) (hp0 : -9223372036854775808 ≤ pick) (hp1 : pick ≤ 9223372036854775807) (hb : Nat) (tb gb : Nat → Nat) (xs : Nat → List Slot) (hxo : Ok3 xs) (w : World) (h : IsRef w hb tb gb xs) :
    Calls Tryd.prog 71 #[.pointer (some ⟨hb, 0, none⟩), (.agg #[.int .i64 b.asid, .int .i64 b.size, .int .u32 b.va, .int .u64 b.pa, .int .i64 b.dom, .int .i64 b.ap, .int .u32 b.bits, .bool b.ng, .bool b.xn]), .int .u32 va, .int .i64 asid, .bool fetch, .int .i64 pick] w fun e w' => e = .returned (.int .i64 0) ∧ IsRef w' hb tb gb (keepR xs b va asid fetch pick) ∧ GrownS w w' (In3 gb) := by
  have e3 : keepR xs b va asid fetch pick = keepU xs b va asid fetch pick 2 := by unfold keepR; rw [if_pos ho]; rfl
  rw [e3]
  have ov := ref_Over_is b hbo va asid (w.alloc (.cells #[.int .i64 b.asid, .int .i64 b.size, .int .u32 b.va, .int .u64 b.pa, .int .i64 b.dom, .int .i64 b.ap, .int .u32 b.bits, .bool b.ng, .bool b.xn] 29))
  rw [ho] at ov
  have OV := Lib.hid ov
  have h1 := h.alloc (.cells #[.int .i64 b.asid, .int .i64 b.size, .int .u32 b.va, .int .u64 b.pa, .int .i64 b.dom, .int .i64 b.ap, .int .u32 b.bits, .bool b.ng, .bool b.xn] 29)
  have hbk : Blok (w.alloc (.cells #[.int .i64 b.asid, .int .i64 b.size, .int .u32 b.va, .int .u64 b.pa, .int .i64 b.dom, .int .i64 b.ap, .int .u32 b.bits, .bool b.ng, .bool b.xn] 29)) w.heap.size 29 (blkCells b) := Blok.new w _ _
  have hnb : ¬ In3 gb w.heap.size := fun ⟨k, a, c, e⟩ => by have := (h.th.t k a c).sl.lt; omega
  have hgl : ∀ k, 1 ≤ k → k ≤ 3 → gb k < w.heap.size := fun k a c => (h.th.t k a c).sl.lt
  have SM := Lib.hid (fun W => ref_small_is fetch W)
  clear ov ho e3
  go_enter Tryd.func71, Tryd.ntmps71
  go_wp2_with (first
    | (go_at_call 87; refine (SM.out _).mono ?_; rintro e w2 ⟨rfl, rfl⟩)
    | (go_at_call 21; refine OV.out.mono ?_; rintro e w1 ⟨rfl, hb1⟩))
  have h2 := (h1.below hb1).alloc (.cells #[.int .i64 3, .int .i64 (sm fetch : Nat)] 136)
  have hG2 : GrownS (w.alloc (.cells #[.int .i64 b.asid, .int .i64 b.size, .int .u32 b.va, .int .u64 b.pa, .int .i64 b.dom, .int .i64 b.ap, .int .u32 b.bits, .bool b.ng, .bool b.xn] 29)) (w1.alloc (.cells #[.int .i64 3, .int .i64 (sm fetch : Nat)] 136)) (In3 gb) := (GrownS.ofBelow hb1).alloc _
  have hA2 : Blok (w1.alloc (.cells #[.int .i64 3, .int .i64 (sm fetch : Nat)] 136)) w1.heap.size 136 [.int .i64 3, .int .i64 (sm fetch : Nat)] := Blok.new w1 _ _
  have hnA : ¬ In3 gb w1.heap.size := fun ⟨k, a, c, e⟩ => by have := hgl k a c; have := hb1.size; simp at this; omega
  go_loopw [15] (fun v15 wr => ∃ j : Nat, j ≤ 2 ∧ v15 = .int .i64 j ∧ IsRef wr hb tb gb (keepU xs b va asid fetch pick j) ∧ GrownS (w.alloc (.cells #[.int .i64 b.asid, .int .i64 b.size, .int .u32 b.va, .int .u64 b.pa, .int .i64 b.dom, .int .i64 b.ap, .int .u32 b.bits, .bool b.ng, .bool b.xn] 29)) wr (In3 gb) ∧ Blok wr w1.heap.size 136 [.int .i64 3, .int .i64 (sm fetch : Nat)]) (fun v15 _ => 2 - (intOf v15).toNat)
  case atStart => exact ⟨0, by omega, rfl, h2, hG2, hA2⟩
  case round =>
    clear h2 hG2 hA2
    obtain ⟨j, hj, rfl, hR, hG, hA⟩ := hrel
    by_cases hlt : j < 2
    · obtain ⟨t1, t3⟩ := keepT_le fetch j
      obtain ⟨kn, ks⟩ := keepU_next xs b va asid fetch pick j hlt
      have hcat : wr.cell? ⟨w1.heap.size, j, none⟩ = some (.int .i64 (keepT fetch j : Nat)) := by
        obtain rfl | rfl : j = 0 ∨ j = 1 := by omega
        · exact hA.cell 0
        · exact hA.cell 1
      have hct := hR.ck (keepT fetch j) t1 t3
      have hTt := hR.th.t (keepT fetch j) t1 t3
      obtain ⟨t, ht⟩ : ∃ t, keepT fetch j = t := ⟨_, rfl⟩
      rw [ht] at t1 t3 kn ks hcat hct hTt
      rw [ks] at hTt
      obtain ⟨rows, hrows⟩ : ∃ rows, keepU xs b va asid fetch pick j = rows := ⟨_, rfl⟩
      rw [hrows] at hR kn ks
      obtain ⟨m, hm⟩ : ∃ m, lookN va asid (xs t) = m := ⟨_, rfl⟩
      obtain ⟨fb, hfb⟩ : ∃ fb, lookB va asid (xs t) = fb := ⟨_, rfl⟩
      have LK := Lib.hid (fun W (hW : Below wr.heap.size wr W) => ref_look_lit (tb t) (gb t) (xs t) (hxo t t1 t3) va asid fb m hfb hm W (by have := (hR.below hW).th.t t t1 t3; rwa [ks] at this))
      have i0 : (0 : Int) ≤ ↑j := by omega
      have i1 : (↑j : Int) < 2 := by omega
      have i2 : (0 : Int) ≤ ↑t := by omega
      have i3 : (↑t : Int) < 4 := by omega
      have KN := Lib.hid kn
      have KS := Lib.hid ks
      have HM := Lib.hid hm
      have hAl := hA.lt
      have hRl := hR.b.lt
      have r1 : ∀ w', Below wr.heap.size wr w' → w'.cell? ⟨w1.heap.size, j, none⟩ = some (.int .i64 t) := fun w' g => (g.cell hAl).trans hcat
      have r2 : ∀ w', Below wr.heap.size wr w' → w'.cell? ⟨hb, t, none⟩ = some (.pointer (some ⟨tb t, 0, none⟩)) := fun w' g => (g.cell hRl).trans hct
      clear kn ks hrows ht hm hfb
      go_upto_region 8 with (fail)
      go_cut [17] (fun v17 wc => v17 = .int .i64 m ∧ Below wr.heap.size wr wc)
      case first =>
        go_region_held3 (fun w' => Below wr.heap.size wr w')
          ((repeat' (first | with_reducible assumption | with_reducible exact Below.refl _ _ | with_reducible refine bal ?_ _ | with_reducible refine Below.setCell ?_ ?_ _ | with_reducible refine bdrew ?_)) <;> (first | exact Nat.le_refl _ | assumption | omega | (simp; done) | (simp; omega)))
          (first | (go_at_call 62; refine (LK.out _ (by assumption)).mono ?_; rintro e w3 ⟨rfl, hb3⟩; have hB3 := bnext (by assumption) hb3 (Nat.le_refl _); have hz3 := hB3.size; obtain ⟨hc3, hf3⟩ := bcell hb3))
        all_goals
          go_wp2_with fail
          go_meet
          case rel => exact ⟨rfl, by assumption⟩
      case rest =>
        obtain ⟨rfl, hBc⟩ := hcut
        have hGc : GrownS wr wc (In3 gb) := GrownS.ofBelow hBc
        have hRc := hR.below hBc
        have hAc := hA.below hBc hAl
        have hkc := hbk.gs (hG.trans hGc) hnb
        (have c0 : (wc).cell? ⟨w.heap.size, 0, none⟩ = some (.int .i64 b.asid) := (hkc).cell 0; have c1 : (wc).cell? ⟨w.heap.size, 1, none⟩ = some (.int .i64 b.size) := (hkc).cell 1; have c2 : (wc).cell? ⟨w.heap.size, 2, none⟩ = some (.int .u32 b.va) := (hkc).cell 2; have c3 : (wc).cell? ⟨w.heap.size, 3, none⟩ = some (.int .u64 b.pa) := (hkc).cell 3; have c4 : (wc).cell? ⟨w.heap.size, 4, none⟩ = some (.int .i64 b.dom) := (hkc).cell 4; have c5 : (wc).cell? ⟨w.heap.size, 5, none⟩ = some (.int .i64 b.ap) := (hkc).cell 5; have c6 : (wc).cell? ⟨w.heap.size, 6, none⟩ = some (.int .u32 b.bits) := (hkc).cell 6; have c7 : (wc).cell? ⟨w.heap.size, 7, none⟩ = some (.bool b.ng) := (hkc).cell 7; have c8 : (wc).cell? ⟨w.heap.size, 8, none⟩ = some (.bool b.xn) := (hkc).cell 8)
        have c1 := r1 wc hBc
        have c2 := r2 wc hBc
        clear r1 r2
        by_cases hm0 : m = 0
        · subst hm0
          have hTc := hRc.th.t t t1 t3
          rw [KS.out] at hTc
          have PT := Lib.hid (fun W h => ref_Put_any b hbo (tb t) (gb t) (xs t) pick hp0 hp1 W h)
          have hTd : IsTlb wc.drew 67 50 (tb t) (gb t) (xs t) := hTc.below (bdrew (Below.refl _ _))
          have hRd : IsRef wc.drew hb tb gb rows := hRc.below (bdrew (Below.refl _ _))
          go_wp2_with fail
          go_still_tail 10, (by kernel_rfl)
          go_wp2_with (go_at_call 63; refine (PT.out _ hTd).mono ?_; rintro e w5 ⟨⟨pa, pc, rfl⟩, hT5, hg5⟩; have hR5 := hRd.put t1 t3 hT5 hg5; have hG5 := (GrownS.drew wc (In3 gb)).one hg5 (In3.mk t1 t3); have hA5 := hAc.gs hG5 hnA)
          go_roundw
          case rel => exact ⟨j + 1, by omega, by go_num, by rw [KN.out]; unfold takeRow; rw [if_pos HM.out]; exact hR5, (hG.trans hGc).trans hG5, hA5⟩
          case measure => simp [intOf]; omega
        · have hm1 : ((m : Int) == 0) = false := beq_eq_false_iff_ne.2 (by omega)
          have e4 : takeRow b va asid pick (xs t) = xs t := by unfold takeRow; rw [if_neg (by rw [HM.out]; exact hm0)]
          have HE := Lib.hid (show keepU xs b va asid fetch pick (j + 1) = rows by rw [KN.out, e4, ← KS.out]; exact upd_self _ _)
          clear e4
          go_wp2
          go_roundw
          case rel => exact ⟨j + 1, by omega, by go_num, by rw [HE.out]; exact hRc, hG.trans hGc, hAc⟩
          case measure => simp [intOf]; omega
    · obtain rfl : j = 2 := by omega
      go_wp2
      go_ret
      exact ⟨rfl, hR, hG.unbox⟩
end Go.Proofs.YtngcpcgioophcaaDoor

namespace Go.Proofs.YtngcpcgioophcaaDoor
open Go.RowKit

def FindPost (is : World → (Nat → List Slot) → Prop) (gb : Nat → Nat) (r : Blk × Nat × (Nat → List Slot)) (w : World) (e : Ending) (w' : World) : Prop :=
  e = .returned (.tuple #[.agg (blkCells r.1).toArray, .int .i64 (r.2.1 : Nat)]) ∧ is w' r.2.2 ∧ GrownS w w' (In3 gb)
theorem findR_put (xs : Nat → List Slot) (va asid : Int) (fetch : Bool) (pick : Int) (mf : Bool) (h3 : lookN va asid (xs 3) = 1) (hs : lookN va asid (xs (sm fetch)) = 0) :
    findR xs va asid fetch pick mf = (lookB va asid (xs 3), many (lookN va asid (xs 3)), upd xs (sm fetch) (putAny (lookB va asid (xs 3)) (xs (sm fetch)) pick)) := by
  unfold findR
  rw [if_pos (by cases mf <;> simp [h3, hs]), if_pos ⟨h3, hs⟩]
theorem findR_3 (xs : Nat → List Slot) (va asid : Int) (fetch : Bool) (pick : Int) (mf : Bool) (h : (mf = true ∧ 0 < lookN va asid (xs 3)) ∨ (mf = false ∧ lookN va asid (xs (sm fetch)) = 0)) (h3 : ¬ (lookN va asid (xs 3) = 1 ∧ lookN va asid (xs (sm fetch)) = 0)) :
    findR xs va asid fetch pick mf = (lookB va asid (xs 3), many (lookN va asid (xs 3)), xs) := by
  unfold findR
  rw [if_pos h, if_neg h3]
theorem findR_s (xs : Nat → List Slot) (va asid : Int) (fetch : Bool) (pick : Int) (mf : Bool) (h : ¬ ((mf = true ∧ 0 < lookN va asid (xs 3)) ∨ (mf = false ∧ lookN va asid (xs (sm fetch)) = 0))) :
    findR xs va asid fetch pick mf = (lookB va asid (xs (sm fetch)), many (lookN va asid (xs (sm fetch))), xs) := by
  unfold findR
  rw [if_neg h]
set_option maxHeartbeats 12800000 in
set_option maxRecDepth 100000 in
theorem ref11_Find_is (va asid : Int) (fetch : Bool) (pick : Int) (hp0 : -9223372036854775808 ≤ pick) (hp1 : pick ≤ 9223372036854775807) (mf : Bool) (hb : Nat) (tb gb : Nat → Nat) (xs : Nat → List Slot) (hxo : Ok3 xs) (w : World) (h : IsRef w hb tb gb xs) :
    Calls Tryd.prog 70 #[.pointer (some ⟨hb, 0, none⟩), .int .u32 va, .int .i64 asid, .bool fetch, .int .i64 pick, .bool mf] w (FindPost (fun w' ys => IsRef w' hb tb gb ys) gb (findR xs va asid fetch pick mf) w) := by
  have f1 := findR_put xs va asid fetch pick mf
  have f2 := findR_3 xs va asid fetch pick mf
  have f3 := findR_s xs va asid fetch pick mf
  have SM := Lib.hid (fun W => ref_small_is fetch W)
  have hsm := sm_le fetch
  obtain ⟨s, hs⟩ : ∃ s, sm fetch = s := ⟨_, rfl⟩
  obtain ⟨fr, hfr⟩ : ∃ fr, findR xs va asid fetch pick mf = fr := ⟨_, rfl⟩
  rw [hfr] at f1 f2 f3 ⊢
  rw [hs] at SM hsm f1 f2 f3
  obtain ⟨s1, s3, sn⟩ := hsm
  obtain ⟨m3, hm3⟩ : ∃ m, lookN va asid (xs 3) = m := ⟨_, rfl⟩
  obtain ⟨b3, hb3⟩ : ∃ m, lookB va asid (xs 3) = m := ⟨_, rfl⟩
  obtain ⟨ms, hms⟩ : ∃ m, lookN va asid (xs s) = m := ⟨_, rfl⟩
  obtain ⟨bs, hbs⟩ : ∃ m, lookB va asid (xs s) = m := ⟨_, rfl⟩
  have ho3 : b3.Ok := by rw [← hb3]; exact lookB_ok _ _ _ (hxo 3 (by omega) (by omega))
  have L3 := Lib.hid (fun W hW => ref_look_lit (tb 3) (gb 3) (xs 3) (hxo 3 (by omega) (by omega)) va asid b3 m3 hb3 hm3 W hW)
  have LS := Lib.hid (fun W hW => ref_look_lit (tb s) (gb s) (xs s) (hxo s s1 s3) va asid bs ms hbs hms W hW)
  rw [hm3, hb3, hms] at f1
  rw [hm3, hb3, hms] at f2
  rw [hm3, hms, hbs] at f3
  have F1 := Lib.hid f1
  have F2 := Lib.hid f2
  have F3 := Lib.hid f3
  have hgl : ∀ k, 1 ≤ k → k ≤ 3 → gb k < w.heap.size ∧ tb k < w.heap.size := fun k a c => ⟨(h.th.t k a c).sl.lt, (h.th.t k a c).hd.lt⟩
  have hnb : ¬ In3 gb w.heap.size := fun ⟨k, a, c, e⟩ => by have := hgl k a c; omega
  have hhl := h.b.lt
  have h0 := h.alloc (.cells #[.int .i64 0, .int .i64 0, .int .u32 0, .int .u64 0, .int .i64 0, .int .i64 0, .int .u32 0, .bool false, .bool false] 29)
  have hZ0 : Blok (w.alloc (.cells #[.int .i64 0, .int .i64 0, .int .u32 0, .int .u64 0, .int .i64 0, .int .i64 0, .int .u32 0, .bool false, .bool false] 29)) w.heap.size 29 (blkCells zblk) := Blok.new w _ _
  have hcs := h.ck s s1 s3
  have hc3 := h.c3
  have i0 : (0 : Int) ≤ ↑s := by omega
  have i1 : (↑s : Int) < 4 := by omega
  clear f1 f2 f3 hs hfr hm3 hb3 hms hbs
  go_enter Tryd.func70, Tryd.ntmps70
  go_upto_region 3 with (first
    | (go_at_call 62; refine (LS.out _ (h0.th.t s s1 s3)).mono ?_; rintro e w1 ⟨rfl, hb1⟩; have h1 := (h0.below hb1).alloc (.cells #[.int .i64 bs.asid, .int .i64 bs.size, .int .u32 bs.va, .int .u64 bs.pa, .int .i64 bs.dom, .int .i64 bs.ap, .int .u32 bs.bits, .bool bs.ng, .bool bs.xn] 29))
    | (go_at_call 87; refine (SM.out _).mono ?_; rintro e w9 ⟨rfl, rfl⟩))
  have hl1 := (h0.below hb1).b.lt
  have hd3 := h1.c3
  go_cut [17, 18] (fun v17 v18 wc => v18 = .int .i64 m3 ∧ ∃ p17 : Nat, v17 = .pointer (some ⟨p17, 0, none⟩) ∧ w.heap.size < p17 ∧ Blok wc w.heap.size 29 (blkCells zblk) ∧ Blok wc w1.heap.size 29 (blkCells bs) ∧ Blok wc p17 29 (blkCells b3) ∧ Below w.heap.size w wc)
  case first =>
    go_wp2_with (go_at_call 62; refine (L3.out _ (h1.th.t 3 (by omega) (by omega))).mono ?_; rintro e w2 ⟨rfl, hb2⟩)
    go_meet
    case rel =>
      have hZ1 := (hZ0.below hb1 hZ0.lt).alloc (.cells #[.int .i64 bs.asid, .int .i64 bs.size, .int .u32 bs.va, .int .u64 bs.pa, .int .i64 bs.dom, .int .i64 bs.ap, .int .u32 bs.bits, .bool bs.ng, .bool bs.xn] 29)
      have hN1 : Blok (w1.alloc (.cells #[.int .i64 bs.asid, .int .i64 bs.size, .int .u32 bs.va, .int .u64 bs.pa, .int .i64 bs.dom, .int .i64 bs.ap, .int .u32 bs.bits, .bool bs.ng, .bool bs.xn] 29)) w1.heap.size 29 (blkCells bs) := Blok.new w1 _ _
      have hz1 := hb1.size
      have hz2 := hb2.size
      simp at hz1 hz2
      exact ⟨rfl, w2.heap.size, rfl, by omega, (hZ1.below hb2 hZ1.lt).alloc _, (hN1.below hb2 hN1.lt).alloc _, Blok.new w2 _ _, bbox ((bthen (bthen (Below.refl _ _) hb1 |>.alloc hb1.size _) hb2 |>.alloc (by have := hb2.size; simp at this; simp; omega) _).mono (by simp))⟩
  case rest =>
    obtain ⟨rfl, p17, rfl, hp17, hZ, hK15, hK17, hBc⟩ := hcut
    have hp15 : w.heap.size < w1.heap.size := by have := hb1.size; simp at this; omega
    have hRc := h.below hBc
    have hGc : GrownS w wc (In3 gb) := GrownS.ofBelow hBc
    cases mf
    · by_cases hs0 : ms = 0
      · by_cases h31 : m3 = 1
        · have HF := Lib.hid (F1.out h31 hs0)
          subst h31 hs0
          have PT := Lib.hid (fun W h => ref_Put_any b3 ho3 (tb s) (gb s) (xs s) pick hp0 hp1 W h)
          have hRd : IsRef wc.drew hb tb gb xs := hRc.below (bdrew (Below.refl _ _))
          have hTd := hRd.th.t s s1 s3
          have hct := hRc.ck s s1 s3
          (have c0 : (wc).cell? ⟨p17, 0, none⟩ = some (.int .i64 b3.asid) := (hK17).cell 0; have c1 : (wc).cell? ⟨p17, 1, none⟩ = some (.int .i64 b3.size) := (hK17).cell 1; have c2 : (wc).cell? ⟨p17, 2, none⟩ = some (.int .u32 b3.va) := (hK17).cell 2; have c3 : (wc).cell? ⟨p17, 3, none⟩ = some (.int .u64 b3.pa) := (hK17).cell 3; have c4 : (wc).cell? ⟨p17, 4, none⟩ = some (.int .i64 b3.dom) := (hK17).cell 4; have c5 : (wc).cell? ⟨p17, 5, none⟩ = some (.int .i64 b3.ap) := (hK17).cell 5; have c6 : (wc).cell? ⟨p17, 6, none⟩ = some (.int .u32 b3.bits) := (hK17).cell 6; have c7 : (wc).cell? ⟨p17, 7, none⟩ = some (.bool b3.ng) := (hK17).cell 7; have c8 : (wc).cell? ⟨p17, 8, none⟩ = some (.bool b3.xn) := (hK17).cell 8)
          go_wp2_with fail
          (refine wp_region_tail 8 (by kernel_rfl) (by kernel_rfl) ?_; simp only [List.take_succ_cons, List.take_zero, List.drop_succ_cons, List.drop_zero]; (repeat still_step); (try refine wpStill_nil ?_))
          go_wp2_with (go_at_call 63; refine (PT.out _ hTd).mono ?_; rintro e w5 ⟨⟨pa, pc, rfl⟩, hT5, hg5⟩; have hR5 := hRd.put s1 s3 hT5 hg5; have hG5 := (hGc.trans (GrownS.drew wc (In3 gb))).one hg5 (In3.mk s1 s3); have hZ5 := (hZ.drewN 1).grown hg5 (fun e => hnb ⟨_, s1, s3, Option.some.inj e⟩); have hK5 := (hK17.drewN 1).grown hg5 (fun e => by have := hgl _ s1 s3; have := Option.some.inj e; omega))
          (have k0 : (w5).cell? ⟨p17, 0, none⟩ = some (.int .i64 b3.asid) := (hK5).cell 0; have k1 : (w5).cell? ⟨p17, 1, none⟩ = some (.int .i64 b3.size) := (hK5).cell 1; have k2 : (w5).cell? ⟨p17, 2, none⟩ = some (.int .u32 b3.va) := (hK5).cell 2; have k3 : (w5).cell? ⟨p17, 3, none⟩ = some (.int .u64 b3.pa) := (hK5).cell 3; have k4 : (w5).cell? ⟨p17, 4, none⟩ = some (.int .i64 b3.dom) := (hK5).cell 4; have k5 : (w5).cell? ⟨p17, 5, none⟩ = some (.int .i64 b3.ap) := (hK5).cell 5; have k6 : (w5).cell? ⟨p17, 6, none⟩ = some (.int .u32 b3.bits) := (hK5).cell 6; have k7 : (w5).cell? ⟨p17, 7, none⟩ = some (.bool b3.ng) := (hK5).cell 7; have k8 : (w5).cell? ⟨p17, 8, none⟩ = some (.bool b3.xn) := (hK5).cell 8)
          have z4 := (hZ5).drewN 1
          have R4 := (hR5).below (bdrew (Below.refl _ _))
          have G4 := (hG5).trans (GrownS.drew w5 (In3 gb))
          go_wp2_with fail
          (refine wp_region_tail 3 (by kernel_rfl) (by kernel_rfl) ?_; simp only [List.take_succ_cons, List.take_zero, List.drop_succ_cons, List.drop_zero]; (repeat still_step); (try refine wpStill_nil ?_))
          still_call ((ref_many_is 1 _).mono fun _ _ h => ⟨h.1, h.2.symm⟩)
          refine wpStill_nil ?_
          go_wp2_with (refine wpList_store_blok rfl _ (.tmp 12) (.tmp 72) rfl w.heap.size 0 #[.int .i64 b3.asid, .int .i64 b3.size, .int .u32 b3.va, .int .u64 b3.pa, .int .i64 b3.dom, .int .i64 b3.ap, .int .u32 b3.bits, .bool b3.ng, .bool b3.xn] rfl rfl z4 (by simp [blkCells]) (by kernel_rfl) rfl ?_; intro w4 hb4 hg4 hz4)
          (have r0 : (w4).cell? ⟨w.heap.size, 0, none⟩ = some (.int .i64 b3.asid) := (hb4).cell 0; have r1 : (w4).cell? ⟨w.heap.size, 1, none⟩ = some (.int .i64 b3.size) := (hb4).cell 1; have r2 : (w4).cell? ⟨w.heap.size, 2, none⟩ = some (.int .u32 b3.va) := (hb4).cell 2; have r3 : (w4).cell? ⟨w.heap.size, 3, none⟩ = some (.int .u64 b3.pa) := (hb4).cell 3; have r4 : (w4).cell? ⟨w.heap.size, 4, none⟩ = some (.int .i64 b3.dom) := (hb4).cell 4; have r5 : (w4).cell? ⟨w.heap.size, 5, none⟩ = some (.int .i64 b3.ap) := (hb4).cell 5; have r6 : (w4).cell? ⟨w.heap.size, 6, none⟩ = some (.int .u32 b3.bits) := (hb4).cell 6; have r7 : (w4).cell? ⟨w.heap.size, 7, none⟩ = some (.bool b3.ng) := (hb4).cell 7; have r8 : (w4).cell? ⟨w.heap.size, 8, none⟩ = some (.bool b3.xn) := (hb4).cell 8)
          refine bodyPost_ret (v := .tuple #[.agg #[.int .i64 b3.asid, .int .i64 b3.size, .int .u32 b3.va, .int .u64 b3.pa, .int .i64 b3.dom, .int .i64 b3.ap, .int .u32 b3.bits, .bool b3.ng, .bool b3.xn], .int .i64 (many 1 : Nat)]) (by simp [results, Tryd.results70, go_sem, r0, r1, r2, r3, r4, r5, r6, r7, r8]) rfl ?_
          rw [HF.out]
          exact ⟨rfl, R4.newAt hg4 (Nat.le_refl _) hhl hgl, G4.new hg4 (Nat.le_refl _)⟩
        · have t2 : ((m3 : Int) == 1) = false := beq_eq_false_iff_ne.2 (by omega)
          have HF := Lib.hid (F2.out (.inr ⟨rfl, hs0⟩) (fun c => h31 c.1))
          subst hs0
          clear h31
          (have k0 : (wc).cell? ⟨p17, 0, none⟩ = some (.int .i64 b3.asid) := (hK17).cell 0; have k1 : (wc).cell? ⟨p17, 1, none⟩ = some (.int .i64 b3.size) := (hK17).cell 1; have k2 : (wc).cell? ⟨p17, 2, none⟩ = some (.int .u32 b3.va) := (hK17).cell 2; have k3 : (wc).cell? ⟨p17, 3, none⟩ = some (.int .u64 b3.pa) := (hK17).cell 3; have k4 : (wc).cell? ⟨p17, 4, none⟩ = some (.int .i64 b3.dom) := (hK17).cell 4; have k5 : (wc).cell? ⟨p17, 5, none⟩ = some (.int .i64 b3.ap) := (hK17).cell 5; have k6 : (wc).cell? ⟨p17, 6, none⟩ = some (.int .u32 b3.bits) := (hK17).cell 6; have k7 : (wc).cell? ⟨p17, 7, none⟩ = some (.bool b3.ng) := (hK17).cell 7; have k8 : (wc).cell? ⟨p17, 8, none⟩ = some (.bool b3.xn) := (hK17).cell 8)
          have z4 := (hZ).drewN 1
          have R4 := (hRc).below (bdrew (Below.refl _ _))
          have G4 := (hGc).trans (GrownS.drew wc (In3 gb))
          go_wp2_with fail
          (refine wp_region_tail 3 (by kernel_rfl) (by kernel_rfl) ?_; simp only [List.take_succ_cons, List.take_zero, List.drop_succ_cons, List.drop_zero]; (repeat still_step); (try refine wpStill_nil ?_))
          still_call ((ref_many_is m3 _).mono fun _ _ h => ⟨h.1, h.2.symm⟩)
          refine wpStill_nil ?_
          go_wp2_with (refine wpList_store_blok rfl _ (.tmp 12) (.tmp 72) rfl w.heap.size 0 #[.int .i64 b3.asid, .int .i64 b3.size, .int .u32 b3.va, .int .u64 b3.pa, .int .i64 b3.dom, .int .i64 b3.ap, .int .u32 b3.bits, .bool b3.ng, .bool b3.xn] rfl rfl z4 (by simp [blkCells]) (by kernel_rfl) rfl ?_; intro w4 hb4 hg4 hz4)
          (have r0 : (w4).cell? ⟨w.heap.size, 0, none⟩ = some (.int .i64 b3.asid) := (hb4).cell 0; have r1 : (w4).cell? ⟨w.heap.size, 1, none⟩ = some (.int .i64 b3.size) := (hb4).cell 1; have r2 : (w4).cell? ⟨w.heap.size, 2, none⟩ = some (.int .u32 b3.va) := (hb4).cell 2; have r3 : (w4).cell? ⟨w.heap.size, 3, none⟩ = some (.int .u64 b3.pa) := (hb4).cell 3; have r4 : (w4).cell? ⟨w.heap.size, 4, none⟩ = some (.int .i64 b3.dom) := (hb4).cell 4; have r5 : (w4).cell? ⟨w.heap.size, 5, none⟩ = some (.int .i64 b3.ap) := (hb4).cell 5; have r6 : (w4).cell? ⟨w.heap.size, 6, none⟩ = some (.int .u32 b3.bits) := (hb4).cell 6; have r7 : (w4).cell? ⟨w.heap.size, 7, none⟩ = some (.bool b3.ng) := (hb4).cell 7; have r8 : (w4).cell? ⟨w.heap.size, 8, none⟩ = some (.bool b3.xn) := (hb4).cell 8)
          refine bodyPost_ret (v := .tuple #[.agg #[.int .i64 b3.asid, .int .i64 b3.size, .int .u32 b3.va, .int .u64 b3.pa, .int .i64 b3.dom, .int .i64 b3.ap, .int .u32 b3.bits, .bool b3.ng, .bool b3.xn], .int .i64 (many m3 : Nat)]) (by simp [results, Tryd.results70, go_sem, r0, r1, r2, r3, r4, r5, r6, r7, r8]) rfl ?_
          rw [HF.out]
          exact ⟨rfl, R4.newAt hg4 (Nat.le_refl _) hhl hgl, G4.new hg4 (Nat.le_refl _)⟩
      · have t1 : ((ms : Int) == 0) = false := beq_eq_false_iff_ne.2 (by omega)
        have HF := Lib.hid (F3.out (by simp [hs0]))
        clear hs0
        (have k0 : (wc).cell? ⟨w1.heap.size, 0, none⟩ = some (.int .i64 bs.asid) := (hK15).cell 0; have k1 : (wc).cell? ⟨w1.heap.size, 1, none⟩ = some (.int .i64 bs.size) := (hK15).cell 1; have k2 : (wc).cell? ⟨w1.heap.size, 2, none⟩ = some (.int .u32 bs.va) := (hK15).cell 2; have k3 : (wc).cell? ⟨w1.heap.size, 3, none⟩ = some (.int .u64 bs.pa) := (hK15).cell 3; have k4 : (wc).cell? ⟨w1.heap.size, 4, none⟩ = some (.int .i64 bs.dom) := (hK15).cell 4; have k5 : (wc).cell? ⟨w1.heap.size, 5, none⟩ = some (.int .i64 bs.ap) := (hK15).cell 5; have k6 : (wc).cell? ⟨w1.heap.size, 6, none⟩ = some (.int .u32 bs.bits) := (hK15).cell 6; have k7 : (wc).cell? ⟨w1.heap.size, 7, none⟩ = some (.bool bs.ng) := (hK15).cell 7; have k8 : (wc).cell? ⟨w1.heap.size, 8, none⟩ = some (.bool bs.xn) := (hK15).cell 8)
        have z4 := (hZ).drewN 1
        have R4 := (hRc).below (bdrew (Below.refl _ _))
        have G4 := (hGc).trans (GrownS.drew wc (In3 gb))
        go_wp2_with fail
        (refine wp_region_tail 3 (by kernel_rfl) (by kernel_rfl) ?_; simp only [List.take_succ_cons, List.take_zero, List.drop_succ_cons, List.drop_zero]; (repeat still_step); (try refine wpStill_nil ?_))
        still_call ((ref_many_is ms _).mono fun _ _ h => ⟨h.1, h.2.symm⟩)
        refine wpStill_nil ?_
        go_wp2_with (refine wpList_store_blok rfl _ (.tmp 12) (.tmp 75) rfl w.heap.size 0 #[.int .i64 bs.asid, .int .i64 bs.size, .int .u32 bs.va, .int .u64 bs.pa, .int .i64 bs.dom, .int .i64 bs.ap, .int .u32 bs.bits, .bool bs.ng, .bool bs.xn] rfl rfl z4 (by simp [blkCells]) (by kernel_rfl) rfl ?_; intro w4 hb4 hg4 hz4)
        (have r0 : (w4).cell? ⟨w.heap.size, 0, none⟩ = some (.int .i64 bs.asid) := (hb4).cell 0; have r1 : (w4).cell? ⟨w.heap.size, 1, none⟩ = some (.int .i64 bs.size) := (hb4).cell 1; have r2 : (w4).cell? ⟨w.heap.size, 2, none⟩ = some (.int .u32 bs.va) := (hb4).cell 2; have r3 : (w4).cell? ⟨w.heap.size, 3, none⟩ = some (.int .u64 bs.pa) := (hb4).cell 3; have r4 : (w4).cell? ⟨w.heap.size, 4, none⟩ = some (.int .i64 bs.dom) := (hb4).cell 4; have r5 : (w4).cell? ⟨w.heap.size, 5, none⟩ = some (.int .i64 bs.ap) := (hb4).cell 5; have r6 : (w4).cell? ⟨w.heap.size, 6, none⟩ = some (.int .u32 bs.bits) := (hb4).cell 6; have r7 : (w4).cell? ⟨w.heap.size, 7, none⟩ = some (.bool bs.ng) := (hb4).cell 7; have r8 : (w4).cell? ⟨w.heap.size, 8, none⟩ = some (.bool bs.xn) := (hb4).cell 8)
        refine bodyPost_ret (v := .tuple #[.agg #[.int .i64 bs.asid, .int .i64 bs.size, .int .u32 bs.va, .int .u64 bs.pa, .int .i64 bs.dom, .int .i64 bs.ap, .int .u32 bs.bits, .bool bs.ng, .bool bs.xn], .int .i64 (many ms : Nat)]) (by simp [results, Tryd.results70, go_sem, r0, r1, r2, r3, r4, r5, r6, r7, r8]) rfl ?_
        rw [HF.out]
        exact ⟨rfl, R4.newAt hg4 (Nat.le_refl _) hhl hgl, G4.new hg4 (Nat.le_refl _)⟩
    · by_cases h30 : m3 = 0
      · have HF := Lib.hid (F3.out (by simp [h30]))
        subst h30
        (have k0 : (wc).cell? ⟨w1.heap.size, 0, none⟩ = some (.int .i64 bs.asid) := (hK15).cell 0; have k1 : (wc).cell? ⟨w1.heap.size, 1, none⟩ = some (.int .i64 bs.size) := (hK15).cell 1; have k2 : (wc).cell? ⟨w1.heap.size, 2, none⟩ = some (.int .u32 bs.va) := (hK15).cell 2; have k3 : (wc).cell? ⟨w1.heap.size, 3, none⟩ = some (.int .u64 bs.pa) := (hK15).cell 3; have k4 : (wc).cell? ⟨w1.heap.size, 4, none⟩ = some (.int .i64 bs.dom) := (hK15).cell 4; have k5 : (wc).cell? ⟨w1.heap.size, 5, none⟩ = some (.int .i64 bs.ap) := (hK15).cell 5; have k6 : (wc).cell? ⟨w1.heap.size, 6, none⟩ = some (.int .u32 bs.bits) := (hK15).cell 6; have k7 : (wc).cell? ⟨w1.heap.size, 7, none⟩ = some (.bool bs.ng) := (hK15).cell 7; have k8 : (wc).cell? ⟨w1.heap.size, 8, none⟩ = some (.bool bs.xn) := (hK15).cell 8)
        have z4 := (hZ).drewN 1
        have R4 := (hRc).below (bdrew (Below.refl _ _))
        have G4 := (hGc).trans (GrownS.drew wc (In3 gb))
        go_wp2_with fail
        (refine wp_region_tail 3 (by kernel_rfl) (by kernel_rfl) ?_; simp only [List.take_succ_cons, List.take_zero, List.drop_succ_cons, List.drop_zero]; (repeat still_step); (try refine wpStill_nil ?_))
        still_call ((ref_many_is ms _).mono fun _ _ h => ⟨h.1, h.2.symm⟩)
        refine wpStill_nil ?_
        go_wp2_with (refine wpList_store_blok rfl _ (.tmp 12) (.tmp 75) rfl w.heap.size 0 #[.int .i64 bs.asid, .int .i64 bs.size, .int .u32 bs.va, .int .u64 bs.pa, .int .i64 bs.dom, .int .i64 bs.ap, .int .u32 bs.bits, .bool bs.ng, .bool bs.xn] rfl rfl z4 (by simp [blkCells]) (by kernel_rfl) rfl ?_; intro w4 hb4 hg4 hz4)
        (have r0 : (w4).cell? ⟨w.heap.size, 0, none⟩ = some (.int .i64 bs.asid) := (hb4).cell 0; have r1 : (w4).cell? ⟨w.heap.size, 1, none⟩ = some (.int .i64 bs.size) := (hb4).cell 1; have r2 : (w4).cell? ⟨w.heap.size, 2, none⟩ = some (.int .u32 bs.va) := (hb4).cell 2; have r3 : (w4).cell? ⟨w.heap.size, 3, none⟩ = some (.int .u64 bs.pa) := (hb4).cell 3; have r4 : (w4).cell? ⟨w.heap.size, 4, none⟩ = some (.int .i64 bs.dom) := (hb4).cell 4; have r5 : (w4).cell? ⟨w.heap.size, 5, none⟩ = some (.int .i64 bs.ap) := (hb4).cell 5; have r6 : (w4).cell? ⟨w.heap.size, 6, none⟩ = some (.int .u32 bs.bits) := (hb4).cell 6; have r7 : (w4).cell? ⟨w.heap.size, 7, none⟩ = some (.bool bs.ng) := (hb4).cell 7; have r8 : (w4).cell? ⟨w.heap.size, 8, none⟩ = some (.bool bs.xn) := (hb4).cell 8)
        refine bodyPost_ret (v := .tuple #[.agg #[.int .i64 bs.asid, .int .i64 bs.size, .int .u32 bs.va, .int .u64 bs.pa, .int .i64 bs.dom, .int .i64 bs.ap, .int .u32 bs.bits, .bool bs.ng, .bool bs.xn], .int .i64 (many ms : Nat)]) (by simp [results, Tryd.results70, go_sem, r0, r1, r2, r3, r4, r5, r6, r7, r8]) rfl ?_
        rw [HF.out]
        exact ⟨rfl, R4.newAt hg4 (Nat.le_refl _) hhl hgl, G4.new hg4 (Nat.le_refl _)⟩
      · by_cases h31 : m3 = 1
        · by_cases hs0 : ms = 0
          · have HF := Lib.hid (F1.out h31 hs0)
            subst h31 hs0
            clear h30
            have PT := Lib.hid (fun W h => ref_Put_any b3 ho3 (tb s) (gb s) (xs s) pick hp0 hp1 W h)
            have hRd : IsRef wc.drew hb tb gb xs := hRc.below (bdrew (Below.refl _ _))
            have hTd := hRd.th.t s s1 s3
            have hct := hRc.ck s s1 s3
            (have c0 : (wc).cell? ⟨p17, 0, none⟩ = some (.int .i64 b3.asid) := (hK17).cell 0; have c1 : (wc).cell? ⟨p17, 1, none⟩ = some (.int .i64 b3.size) := (hK17).cell 1; have c2 : (wc).cell? ⟨p17, 2, none⟩ = some (.int .u32 b3.va) := (hK17).cell 2; have c3 : (wc).cell? ⟨p17, 3, none⟩ = some (.int .u64 b3.pa) := (hK17).cell 3; have c4 : (wc).cell? ⟨p17, 4, none⟩ = some (.int .i64 b3.dom) := (hK17).cell 4; have c5 : (wc).cell? ⟨p17, 5, none⟩ = some (.int .i64 b3.ap) := (hK17).cell 5; have c6 : (wc).cell? ⟨p17, 6, none⟩ = some (.int .u32 b3.bits) := (hK17).cell 6; have c7 : (wc).cell? ⟨p17, 7, none⟩ = some (.bool b3.ng) := (hK17).cell 7; have c8 : (wc).cell? ⟨p17, 8, none⟩ = some (.bool b3.xn) := (hK17).cell 8)
            go_wp2_with fail
            (refine wp_region_tail 8 (by kernel_rfl) (by kernel_rfl) ?_; simp only [List.take_succ_cons, List.take_zero, List.drop_succ_cons, List.drop_zero]; (repeat still_step); (try refine wpStill_nil ?_))
            go_wp2_with (go_at_call 63; refine (PT.out _ hTd).mono ?_; rintro e w5 ⟨⟨pa, pc, rfl⟩, hT5, hg5⟩; have hR5 := hRd.put s1 s3 hT5 hg5; have hG5 := (hGc.trans (GrownS.drew wc (In3 gb))).one hg5 (In3.mk s1 s3); have hZ5 := (hZ.drewN 1).grown hg5 (fun e => hnb ⟨_, s1, s3, Option.some.inj e⟩); have hK5 := (hK17.drewN 1).grown hg5 (fun e => by have := hgl _ s1 s3; have := Option.some.inj e; omega))
            (have k0 : (w5).cell? ⟨p17, 0, none⟩ = some (.int .i64 b3.asid) := (hK5).cell 0; have k1 : (w5).cell? ⟨p17, 1, none⟩ = some (.int .i64 b3.size) := (hK5).cell 1; have k2 : (w5).cell? ⟨p17, 2, none⟩ = some (.int .u32 b3.va) := (hK5).cell 2; have k3 : (w5).cell? ⟨p17, 3, none⟩ = some (.int .u64 b3.pa) := (hK5).cell 3; have k4 : (w5).cell? ⟨p17, 4, none⟩ = some (.int .i64 b3.dom) := (hK5).cell 4; have k5 : (w5).cell? ⟨p17, 5, none⟩ = some (.int .i64 b3.ap) := (hK5).cell 5; have k6 : (w5).cell? ⟨p17, 6, none⟩ = some (.int .u32 b3.bits) := (hK5).cell 6; have k7 : (w5).cell? ⟨p17, 7, none⟩ = some (.bool b3.ng) := (hK5).cell 7; have k8 : (w5).cell? ⟨p17, 8, none⟩ = some (.bool b3.xn) := (hK5).cell 8)
            have z4 := (hZ5).drewN 1
            have R4 := (hR5).below (bdrew (Below.refl _ _))
            have G4 := (hG5).trans (GrownS.drew w5 (In3 gb))
            go_wp2_with fail
            (refine wp_region_tail 3 (by kernel_rfl) (by kernel_rfl) ?_; simp only [List.take_succ_cons, List.take_zero, List.drop_succ_cons, List.drop_zero]; (repeat still_step); (try refine wpStill_nil ?_))
            still_call ((ref_many_is 1 _).mono fun _ _ h => ⟨h.1, h.2.symm⟩)
            refine wpStill_nil ?_
            go_wp2_with (refine wpList_store_blok rfl _ (.tmp 12) (.tmp 72) rfl w.heap.size 0 #[.int .i64 b3.asid, .int .i64 b3.size, .int .u32 b3.va, .int .u64 b3.pa, .int .i64 b3.dom, .int .i64 b3.ap, .int .u32 b3.bits, .bool b3.ng, .bool b3.xn] rfl rfl z4 (by simp [blkCells]) (by kernel_rfl) rfl ?_; intro w4 hb4 hg4 hz4)
            (have r0 : (w4).cell? ⟨w.heap.size, 0, none⟩ = some (.int .i64 b3.asid) := (hb4).cell 0; have r1 : (w4).cell? ⟨w.heap.size, 1, none⟩ = some (.int .i64 b3.size) := (hb4).cell 1; have r2 : (w4).cell? ⟨w.heap.size, 2, none⟩ = some (.int .u32 b3.va) := (hb4).cell 2; have r3 : (w4).cell? ⟨w.heap.size, 3, none⟩ = some (.int .u64 b3.pa) := (hb4).cell 3; have r4 : (w4).cell? ⟨w.heap.size, 4, none⟩ = some (.int .i64 b3.dom) := (hb4).cell 4; have r5 : (w4).cell? ⟨w.heap.size, 5, none⟩ = some (.int .i64 b3.ap) := (hb4).cell 5; have r6 : (w4).cell? ⟨w.heap.size, 6, none⟩ = some (.int .u32 b3.bits) := (hb4).cell 6; have r7 : (w4).cell? ⟨w.heap.size, 7, none⟩ = some (.bool b3.ng) := (hb4).cell 7; have r8 : (w4).cell? ⟨w.heap.size, 8, none⟩ = some (.bool b3.xn) := (hb4).cell 8)
            refine bodyPost_ret (v := .tuple #[.agg #[.int .i64 b3.asid, .int .i64 b3.size, .int .u32 b3.va, .int .u64 b3.pa, .int .i64 b3.dom, .int .i64 b3.ap, .int .u32 b3.bits, .bool b3.ng, .bool b3.xn], .int .i64 (many 1 : Nat)]) (by simp [results, Tryd.results70, go_sem, r0, r1, r2, r3, r4, r5, r6, r7, r8]) rfl ?_
            rw [HF.out]
            exact ⟨rfl, R4.newAt hg4 (Nat.le_refl _) hhl hgl, G4.new hg4 (Nat.le_refl _)⟩
          · have t1 : ((ms : Int) == 0) = false := beq_eq_false_iff_ne.2 (by omega)
            have HF := Lib.hid (F2.out (.inl ⟨rfl, by omega⟩) (fun c => hs0 c.2))
            subst h31
            clear hs0 h30
            (have k0 : (wc).cell? ⟨p17, 0, none⟩ = some (.int .i64 b3.asid) := (hK17).cell 0; have k1 : (wc).cell? ⟨p17, 1, none⟩ = some (.int .i64 b3.size) := (hK17).cell 1; have k2 : (wc).cell? ⟨p17, 2, none⟩ = some (.int .u32 b3.va) := (hK17).cell 2; have k3 : (wc).cell? ⟨p17, 3, none⟩ = some (.int .u64 b3.pa) := (hK17).cell 3; have k4 : (wc).cell? ⟨p17, 4, none⟩ = some (.int .i64 b3.dom) := (hK17).cell 4; have k5 : (wc).cell? ⟨p17, 5, none⟩ = some (.int .i64 b3.ap) := (hK17).cell 5; have k6 : (wc).cell? ⟨p17, 6, none⟩ = some (.int .u32 b3.bits) := (hK17).cell 6; have k7 : (wc).cell? ⟨p17, 7, none⟩ = some (.bool b3.ng) := (hK17).cell 7; have k8 : (wc).cell? ⟨p17, 8, none⟩ = some (.bool b3.xn) := (hK17).cell 8)
            have z4 := (hZ).drewN 1
            have R4 := (hRc).below (bdrew (Below.refl _ _))
            have G4 := (hGc).trans (GrownS.drew wc (In3 gb))
            go_wp2_with fail
            (refine wp_region_tail 3 (by kernel_rfl) (by kernel_rfl) ?_; simp only [List.take_succ_cons, List.take_zero, List.drop_succ_cons, List.drop_zero]; (repeat still_step); (try refine wpStill_nil ?_))
            still_call ((ref_many_is 1 _).mono fun _ _ h => ⟨h.1, h.2.symm⟩)
            refine wpStill_nil ?_
            go_wp2_with (refine wpList_store_blok rfl _ (.tmp 12) (.tmp 72) rfl w.heap.size 0 #[.int .i64 b3.asid, .int .i64 b3.size, .int .u32 b3.va, .int .u64 b3.pa, .int .i64 b3.dom, .int .i64 b3.ap, .int .u32 b3.bits, .bool b3.ng, .bool b3.xn] rfl rfl z4 (by simp [blkCells]) (by kernel_rfl) rfl ?_; intro w4 hb4 hg4 hz4)
            (have r0 : (w4).cell? ⟨w.heap.size, 0, none⟩ = some (.int .i64 b3.asid) := (hb4).cell 0; have r1 : (w4).cell? ⟨w.heap.size, 1, none⟩ = some (.int .i64 b3.size) := (hb4).cell 1; have r2 : (w4).cell? ⟨w.heap.size, 2, none⟩ = some (.int .u32 b3.va) := (hb4).cell 2; have r3 : (w4).cell? ⟨w.heap.size, 3, none⟩ = some (.int .u64 b3.pa) := (hb4).cell 3; have r4 : (w4).cell? ⟨w.heap.size, 4, none⟩ = some (.int .i64 b3.dom) := (hb4).cell 4; have r5 : (w4).cell? ⟨w.heap.size, 5, none⟩ = some (.int .i64 b3.ap) := (hb4).cell 5; have r6 : (w4).cell? ⟨w.heap.size, 6, none⟩ = some (.int .u32 b3.bits) := (hb4).cell 6; have r7 : (w4).cell? ⟨w.heap.size, 7, none⟩ = some (.bool b3.ng) := (hb4).cell 7; have r8 : (w4).cell? ⟨w.heap.size, 8, none⟩ = some (.bool b3.xn) := (hb4).cell 8)
            refine bodyPost_ret (v := .tuple #[.agg #[.int .i64 b3.asid, .int .i64 b3.size, .int .u32 b3.va, .int .u64 b3.pa, .int .i64 b3.dom, .int .i64 b3.ap, .int .u32 b3.bits, .bool b3.ng, .bool b3.xn], .int .i64 (many 1 : Nat)]) (by simp [results, Tryd.results70, go_sem, r0, r1, r2, r3, r4, r5, r6, r7, r8]) rfl ?_
            rw [HF.out]
            exact ⟨rfl, R4.newAt hg4 (Nat.le_refl _) hhl hgl, G4.new hg4 (Nat.le_refl _)⟩
        · have t2 : ((m3 : Int) == 1) = false := beq_eq_false_iff_ne.2 (by omega)
          have t3 : 0 < m3 := by omega
          have HF := Lib.hid (F2.out (.inl ⟨rfl, by omega⟩) (fun c => h31 c.1))
          clear h31 h30
          (have k0 : (wc).cell? ⟨p17, 0, none⟩ = some (.int .i64 b3.asid) := (hK17).cell 0; have k1 : (wc).cell? ⟨p17, 1, none⟩ = some (.int .i64 b3.size) := (hK17).cell 1; have k2 : (wc).cell? ⟨p17, 2, none⟩ = some (.int .u32 b3.va) := (hK17).cell 2; have k3 : (wc).cell? ⟨p17, 3, none⟩ = some (.int .u64 b3.pa) := (hK17).cell 3; have k4 : (wc).cell? ⟨p17, 4, none⟩ = some (.int .i64 b3.dom) := (hK17).cell 4; have k5 : (wc).cell? ⟨p17, 5, none⟩ = some (.int .i64 b3.ap) := (hK17).cell 5; have k6 : (wc).cell? ⟨p17, 6, none⟩ = some (.int .u32 b3.bits) := (hK17).cell 6; have k7 : (wc).cell? ⟨p17, 7, none⟩ = some (.bool b3.ng) := (hK17).cell 7; have k8 : (wc).cell? ⟨p17, 8, none⟩ = some (.bool b3.xn) := (hK17).cell 8)
          have z4 := (hZ).drewN 1
          have R4 := (hRc).below (bdrew (Below.refl _ _))
          have G4 := (hGc).trans (GrownS.drew wc (In3 gb))
          go_wp2_with fail
          (refine wp_region_tail 3 (by kernel_rfl) (by kernel_rfl) ?_; simp only [List.take_succ_cons, List.take_zero, List.drop_succ_cons, List.drop_zero]; (repeat still_step); (try refine wpStill_nil ?_))
          still_call ((ref_many_is m3 _).mono fun _ _ h => ⟨h.1, h.2.symm⟩)
          refine wpStill_nil ?_
          go_wp2_with (refine wpList_store_blok rfl _ (.tmp 12) (.tmp 72) rfl w.heap.size 0 #[.int .i64 b3.asid, .int .i64 b3.size, .int .u32 b3.va, .int .u64 b3.pa, .int .i64 b3.dom, .int .i64 b3.ap, .int .u32 b3.bits, .bool b3.ng, .bool b3.xn] rfl rfl z4 (by simp [blkCells]) (by kernel_rfl) rfl ?_; intro w4 hb4 hg4 hz4)
          (have r0 : (w4).cell? ⟨w.heap.size, 0, none⟩ = some (.int .i64 b3.asid) := (hb4).cell 0; have r1 : (w4).cell? ⟨w.heap.size, 1, none⟩ = some (.int .i64 b3.size) := (hb4).cell 1; have r2 : (w4).cell? ⟨w.heap.size, 2, none⟩ = some (.int .u32 b3.va) := (hb4).cell 2; have r3 : (w4).cell? ⟨w.heap.size, 3, none⟩ = some (.int .u64 b3.pa) := (hb4).cell 3; have r4 : (w4).cell? ⟨w.heap.size, 4, none⟩ = some (.int .i64 b3.dom) := (hb4).cell 4; have r5 : (w4).cell? ⟨w.heap.size, 5, none⟩ = some (.int .i64 b3.ap) := (hb4).cell 5; have r6 : (w4).cell? ⟨w.heap.size, 6, none⟩ = some (.int .u32 b3.bits) := (hb4).cell 6; have r7 : (w4).cell? ⟨w.heap.size, 7, none⟩ = some (.bool b3.ng) := (hb4).cell 7; have r8 : (w4).cell? ⟨w.heap.size, 8, none⟩ = some (.bool b3.xn) := (hb4).cell 8)
          refine bodyPost_ret (v := .tuple #[.agg #[.int .i64 b3.asid, .int .i64 b3.size, .int .u32 b3.va, .int .u64 b3.pa, .int .i64 b3.dom, .int .i64 b3.ap, .int .u32 b3.bits, .bool b3.ng, .bool b3.xn], .int .i64 (many m3 : Nat)]) (by simp [results, Tryd.results70, go_sem, r0, r1, r2, r3, r4, r5, r6, r7, r8]) rfl ?_
          rw [HF.out]
          exact ⟨rfl, R4.newAt hg4 (Nat.le_refl _) hhl hgl, G4.new hg4 (Nat.le_refl _)⟩
end Go.Proofs.YtngcpcgioophcaaDoor

namespace Go.Proofs.YtngcpcgioophcaaDoor
open Go.RowKit

/-- a row of places at the head of a block -/
def RowAt (w : World) (g : Nat) (xs : List Slot) : Prop := g < w.heap.size ∧ ∀ j v, (rowCells xs)[j]? = some v → w.cell? ⟨g, j, none⟩ = some v
theorem RowAt.below {w w' : World} {g : Nat} {xs : List Slot} (h : RowAt w g xs) (hb : Below w.heap.size w w') : RowAt w' g xs := ⟨Nat.lt_of_lt_of_le h.1 hb.size, fun j v hv => (hb.cell h.1).trans (h.2 j v hv)⟩
theorem RowAt.of {w : World} {g : Nat} {t : TypeId} {xs : List Slot} (h : Blok w g t (rowCells xs)) : RowAt w g xs := ⟨h.lt, fun j v hv => by rw [h.cell]; exact hv⟩
theorem RowAt.cells {w : World} {g : Nat} {xs : List Slot} (h : RowAt w g xs) (i : Nat) (s : Slot) (hs : xs[i]? = some s) (j : Nat) (hj : j < 10) : w.cell? ⟨g, i * 10 + j, none⟩ = (slotCells s)[j]? := by
  have e := rowCells_at xs i j s hs hj
  have hl : j < (slotCells s).length := by rw [slotCells_len]; exact hj
  rw [List.getElem?_eq_getElem hl] at e ⊢
  exact h.2 _ _ e
theorem RowAt.owns {w : World} {B g n cap : Nat} {xs : List Slot} (h : w.ownsRow B 50 10 (.slice (some ⟨g, 0, none⟩) n cap) n (rowCells xs)) (hn : 0 < n) : RowAt w g xs := by
  obtain ⟨hl, h⟩ := h
  rcases h with ⟨_, h0⟩ | ⟨g', cap', cur, hv, _, hg, _, _, _, ht⟩
  · omega
  · simp only [Value.slice.injEq, Option.some.injEq, Addr.mk.injEq] at hv
    obtain ⟨⟨rfl, _⟩, _⟩ := hv
    refine ⟨?_, fun j v hv => ?_⟩
    · rcases Nat.lt_or_ge g w.heap.size with hlt | hge
      · exact hlt
      · rw [Array.getElem?_eq_none hge] at hg; cases hg
    · rw [cell_of_row w g j cur _ _ hg]
      rw [← ht] at hv
      rw [List.getElem?_take] at hv
      split at hv
      · simpa using hv
      · cases hv
set_option maxHeartbeats 1600000 in
set_option maxRecDepth 100000 in
theorem ref11_Places_yes (k : Nat) (h1 : 1 ≤ k) (h3 : k ≤ 3) (hb : Nat) (tb gb : Nat → Nat) (xs : Nat → List Slot) (w : World) (h : IsRef w hb tb gb xs) :
    Calls Tryd.prog 48 #[.pointer (some ⟨hb, 0, none⟩), .int .i64 k] w fun e w' => ∃ g cap, e = .returned (.slice (some ⟨g, 0, none⟩) (xs k).length cap) ∧ RowAt w' g (xs k) ∧ w.heap.size ≤ g ∧ Below w.heap.size w w' := by
  have ck := h.ck k h1 h3
  have hT := h.th.t k h1 h3
  have hpos := hT.pos
  have hle := hT.le
  have t0 : w.cell? ⟨tb k, 0, none⟩ = some (.slice (some ⟨gb k, 0, none⟩) (xs k).length (xs k).length) := hT.hd.cell 0
  have i0 : (0 : Int) ≤ ↑k := by omega
  have i1 : (↑k : Int) < 4 := by omega
  obtain ⟨i0', hi, hz0, hz1, hz2⟩ := info_parts slot_info
  have hnews : ∀ j u, (rowCells (xs k))[j]? = some u → w.cell? ((⟨gb k, 0, none⟩ : Addr).add j) = some u := fun j u hu => by
    have := hT.sl.cell j
    unfold Addr.add
    by_cases f : j = 0
    · subst f; simpa [hu] using this
    · simpa [f, hu] using this
  have hone : ∀ v ∈ rowCells (xs k), v.oneCell' = true := fun v hv => by
    obtain ⟨s, _, hs⟩ := List.mem_flatMap.1 hv
    simp only [slotCells, List.mem_cons, List.not_mem_nil, or_false] at hs
    rcases hs with rfl | rfl | rfl | rfl | rfl | rfl | rfl | rfl | rfl | rfl <;> rfl
  have hrl := rowCells_len (xs k)
  obtain ⟨ys, hys⟩ : ∃ ys, xs k = ys := ⟨_, rfl⟩
  rw [hys] at hpos hle t0 hnews hone hrl ⊢
  have HL := Lib.hid hrl
  have HN := Lib.hid hnews
  have HO := Lib.hid hone
  clear hnews hone hrl hys hT
  go_enter Tryd.func48, Tryd.ntmps48
  go_wp2_with (refine wpList_append_lies _ rfl (.tmp 12) (.tmp 21) 45 rfl w.heap.size 50 i0' _ 10 64 Tryd.underlying45 hi hz0 hz1 hz2 rfl (by decide) (.slice none 0 0) 0 [] rfl ⟨rfl, .inl ⟨rfl, rfl⟩⟩ ⟨gb k, 0, none⟩ ys.length ys.length (rowCells ys) rfl HL.out HN.out HO.out hpos (by unfold maxLen; omega) (by omega) (Nat.le_refl _) w.heap.size rfl ?_; intro g cap w1 hown hgrow hat hlt)
  go_ret
  simp only [Nat.zero_add, List.nil_append] at hown
  have hgn : g = w.heap.size := by rcases hat with hat | hat; (simp [Value.ownBlock] at hat); exact hat
  exact ⟨g, cap, by simp, RowAt.owns hown hpos, by omega, ⟨hgrow.os, hgrow.tape, hgrow.output, hgrow.size, fun i hi => hgrow.block i hi (by simp [Value.ownBlock])⟩⟩
theorem ref11_Places_no (k : Int) (hk : k < 1 ∨ 3 < k) (hb : Addr) (w : World) :
    Calls Tryd.prog 48 #[.pointer (some hb), .int .i64 k] w fun e w' => e = .returned (.slice none 0 0) ∧ w = w' := by
  rcases hk with hk | hk
  all_goals
    go_enter Tryd.func48, Tryd.ntmps48
    go_wp2
  all_goals
    go_ret
    exact ⟨rfl, rfl⟩
end Go.Proofs.YtngcpcgioophcaaDoor
