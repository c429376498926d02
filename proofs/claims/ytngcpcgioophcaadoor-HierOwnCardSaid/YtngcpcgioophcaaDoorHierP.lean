/- The program's three TLBs (hier): small, which, take, Keep, Evict, Drop. -/
import Derived.Test.YtngcpcgioophcaaDoorHier
namespace Go.Proofs.YtngcpcgioophcaaDoor
open Go.RowKit

section
variable {w : World} {hb : Nat} {tb gb : Nat → Nat} {xs : Nat → List Slot}
theorem IsHier.c1 (h : IsHier w hb tb gb xs) : w.cell? ⟨hb, 0, none⟩ = some (.pointer (some ⟨tb 1, 0, none⟩)) := h.b.cell 0
theorem IsHier.c2 (h : IsHier w hb tb gb xs) : w.cell? ⟨hb, 1, none⟩ = some (.pointer (some ⟨tb 2, 0, none⟩)) := h.b.cell 1
theorem IsHier.c3 (h : IsHier w hb tb gb xs) : w.cell? ⟨hb, 2, none⟩ = some (.pointer (some ⟨tb 3, 0, none⟩)) := h.b.cell 2
end
set_option maxHeartbeats 1600000 in
theorem hier_small_is (fetch : Bool) (hb : Nat) (tb gb : Nat → Nat) (xs : Nat → List Slot) (w : World) (h : IsHier w hb tb gb xs) :
    Calls Tryd.prog 68 #[.pointer (some ⟨hb, 0, none⟩), .bool fetch] w fun e w' => e = .returned (.agg #[.pointer (some ⟨tb (sm fetch), 0, none⟩)]) ∧ Below w.heap.size w w' := by
  have c1 := h.c1
  have c2 := h.c2
  have hl := h.b.lt
  cases fetch
  all_goals
    go_enter Tryd.func68, Tryd.ntmps68
    go_wp2
  · exact bodyPost_ret (v := .agg #[.pointer (some ⟨tb 2, 0, none⟩)]) (by simp [results, Tryd.results68, go_sem]) rfl ⟨rfl, (Below.refl _ _).alloc (Nat.le_refl _) _⟩
  · exact bodyPost_ret (v := .agg #[.pointer (some ⟨tb 1, 0, none⟩)]) (by simp [results, Tryd.results68, go_sem]) rfl ⟨rfl, (Below.refl _ _).alloc (Nat.le_refl _) _⟩
theorem hier_which_yes (k : Nat) (h1 : 1 ≤ k) (h3 : k ≤ 3) (hb : Nat) (tb gb : Nat → Nat) (xs : Nat → List Slot) (w : World) (h : IsHier w hb tb gb xs) :
    Calls Tryd.prog 74 #[.pointer (some ⟨hb, 0, none⟩), .int .i64 k] w fun e w' => e = .returned (.pointer (some ⟨tb k, 0, none⟩)) ∧ w = w' := by
  have c1 := h.c1
  have c2 := h.c2
  have c3 := h.c3
  obtain rfl | rfl | rfl : k = 1 ∨ k = 2 ∨ k = 3 := by omega
  all_goals
    go_enter Tryd.func74, Tryd.ntmps74
    go_wp2
    go_ret
    exact ⟨rfl, rfl⟩
theorem hier_which_no (k : Int) (h1 : (k == 1) = false) (h2 : (k == 2) = false) (h3 : (k == 3) = false) (hb : Addr) (w : World) :
    Calls Tryd.prog 74 #[.pointer (some hb), .int .i64 k] w fun e w' => e = .returned (.pointer none) ∧ w = w' := by
  go_enter Tryd.func74, Tryd.ntmps74
  go_wp2
  go_ret
  exact ⟨rfl, rfl⟩
set_option maxHeartbeats 3200000 in
theorem take_is (b : Blk) (hbo : b.Ok) (va asid pick : Int) (hp0 : -9223372036854775808 ≤ pick) (hp1 : pick ≤ 9223372036854775807) (tb g : Nat) (xs : List Slot) (hok : RowOk xs) (w : World) (hs : Shf w) (h : IsTlb w 105 50 tb g xs) :
    Calls Tryd.prog 67 #[.agg #[.pointer (some ⟨tb, 0, none⟩)], (.agg #[.int .i64 b.asid, .int .i64 b.size, .int .u32 b.va, .int .u64 b.pa, .int .i64 b.dom, .int .i64 b.ap, .int .u32 b.bits, .bool b.ng, .bool b.xn]), .int .u32 va, .int .i64 asid, .int .i64 pick] w fun e w' => e = .returned (.tuple #[]) ∧ IsTlb w' 105 50 tb g (takeRow b va asid pick xs) ∧ w.grownBy w' (some g) := by
  obtain ⟨fb, hfb⟩ : ∃ fb : Blk, lookB va asid xs = fb := ⟨_, rfl⟩
  obtain ⟨m, hm⟩ : ∃ m, lookN va asid xs = m := ⟨_, rfl⟩
  have LK : Hid (∀ W, Shf W → IsTlb W 105 50 tb g xs → Calls Tryd.prog 28 #[.pointer (some ⟨tb, 0, none⟩), .int .u32 va, .int .i64 asid] W fun e w' => e = .returned (.tuple #[(.agg #[.int .i64 fb.asid, .int .i64 fb.size, .int .u32 fb.va, .int .u64 fb.pa, .int .i64 fb.dom, .int .i64 fb.ap, .int .u32 fb.bits, .bool fb.ng, .bool fb.xn]), .int .i64 m]) ∧ Below W.heap.size W w') := Lib.hid (fun W h1 h2 => by
    have := tlb_Look_is tb g xs hok va asid W h1 h2
    rw [hfb, hm] at this
    exact this)
  have hsz : Below w.heap.size w ((w.alloc (.cells #[.pointer (some ⟨tb, 0, none⟩)] 111)).alloc (.cells #[.int .i64 b.asid, .int .i64 b.size, .int .u32 b.va, .int .u64 b.pa, .int .i64 b.dom, .int .i64 b.ap, .int .u32 b.bits, .bool b.ng, .bool b.xn] 29)) := ((Below.refl _ _).alloc (Nat.le_refl _) _).alloc (by simp) _
  have h1 := h.below hsz
  have hs1 := hs.below hs.pos hsz
  have hbl : Blok (w.alloc (.cells #[.pointer (some ⟨tb, 0, none⟩)] 111)) w.heap.size 111 [.pointer (some ⟨tb, 0, none⟩)] := Blok.new _ _ _
  have hb1' := hbl.alloc (.cells #[.int .i64 b.asid, .int .i64 b.size, .int .u32 b.va, .int .u64 b.pa, .int .i64 b.dom, .int .i64 b.ap, .int .u32 b.bits, .bool b.ng, .bool b.xn] 29)
  have hb2' : Blok ((w.alloc (.cells #[.pointer (some ⟨tb, 0, none⟩)] 111)).alloc (.cells #[.int .i64 b.asid, .int .i64 b.size, .int .u32 b.va, .int .u64 b.pa, .int .i64 b.dom, .int .i64 b.ap, .int .u32 b.bits, .bool b.ng, .bool b.xn] 29)) (w.heap.size + 1) 29 (blkCells b) := by
    have := Blok.new (w.alloc (.cells #[.pointer (some ⟨tb, 0, none⟩)] 111)) 29 (blkCells b)
    have e : (w.alloc (.cells #[.pointer (some ⟨tb, 0, none⟩)] 111)).heap.size = w.heap.size + 1 := by simp
    rw [e] at this
    exact this
  have PT := Lib.hid (fun W h1 h2 => tlb_Put_any b hbo tb g xs pick hp0 hp1 W h1 h2)
  by_cases c : m = 0
  · have e3 : takeRow b va asid pick xs = putAny b xs pick := by unfold takeRow; rw [hm, if_pos c]
    rw [e3]
    subst c
    clear e3 hm hfb
    go_enter Tryd.func67, Tryd.ntmps67
    go_wp2_with (first
      | (go_at_call 28; refine (LK.out _ hs1 h1).mono ?_; rintro e w1 ⟨rfl, hb1⟩; have k1 := hb1'.below hb1 hb1'.lt; have k2 := hb2'.below hb1 hb2'.lt; have k1l := k1.lt; have k2l := k2.lt; have d0 : w1.cell? ⟨w.heap.size, 0, none⟩ = some (.pointer (some ⟨tb, 0, none⟩)) := k1.cell 0; (have e0 : (w1).cell? ⟨w.heap.size + 1, 0, none⟩ = some (.int .i64 b.asid) := (k2).cell 0; have e1 : (w1).cell? ⟨w.heap.size + 1, 1, none⟩ = some (.int .i64 b.size) := (k2).cell 1; have e2 : (w1).cell? ⟨w.heap.size + 1, 2, none⟩ = some (.int .u32 b.va) := (k2).cell 2; have e3 : (w1).cell? ⟨w.heap.size + 1, 3, none⟩ = some (.int .u64 b.pa) := (k2).cell 3; have e4 : (w1).cell? ⟨w.heap.size + 1, 4, none⟩ = some (.int .i64 b.dom) := (k2).cell 4; have e5 : (w1).cell? ⟨w.heap.size + 1, 5, none⟩ = some (.int .i64 b.ap) := (k2).cell 5; have e6 : (w1).cell? ⟨w.heap.size + 1, 6, none⟩ = some (.int .u32 b.bits) := (k2).cell 6; have e7 : (w1).cell? ⟨w.heap.size + 1, 7, none⟩ = some (.bool b.ng) := (k2).cell 7; have e8 : (w1).cell? ⟨w.heap.size + 1, 8, none⟩ = some (.bool b.xn) := (k2).cell 8); have h2 := (h1.below hb1).below ((Below.refl _ _).alloc (Nat.le_refl _) (.cells #[.int .i64 fb.asid, .int .i64 fb.size, .int .u32 fb.va, .int .u64 fb.pa, .int .i64 fb.dom, .int .i64 fb.ap, .int .u32 fb.bits, .bool fb.ng, .bool fb.xn] 29)); have hs2 := (hs1.below hs1.pos hb1).alloc (.cells #[.int .i64 fb.asid, .int .i64 fb.size, .int .u32 fb.va, .int .u64 fb.pa, .int .i64 fb.dom, .int .i64 fb.ap, .int .u32 fb.bits, .bool fb.ng, .bool fb.xn] 29))
      | (go_at_call 53; refine (PT.out _ hs2 h2).mono ?_; rintro e w2 ⟨⟨a, c, rfl⟩, hT2, hg2⟩))
    refine bodyPost_end (v := .tuple #[]) (by simp [results, Tryd.results67, go_sem]) rfl ⟨rfl, hT2, gtrans (grown_of ((hsz.trans (hb1.mono hsz.size)).alloc (by have := hb1.size; have := hsz.size; omega) _) _) hg2⟩
  · have e3 : takeRow b va asid pick xs = xs := by unfold takeRow; rw [hm, if_neg c]
    rw [e3]
    have c' : ((m : Int) == 0) = false := beq_eq_false_iff_ne.2 (by omega)
    clear e3 hm hfb c
    go_enter Tryd.func67, Tryd.ntmps67
    go_wp2_with (first
      | (go_at_call 28; refine (LK.out _ hs1 h1).mono ?_; rintro e w1 ⟨rfl, hb1⟩; have h2 := (h1.below hb1).below ((Below.refl _ _).alloc (Nat.le_refl _) (.cells #[.int .i64 fb.asid, .int .i64 fb.size, .int .u32 fb.va, .int .u64 fb.pa, .int .i64 fb.dom, .int .i64 fb.ap, .int .u32 fb.bits, .bool fb.ng, .bool fb.xn] 29))))
    refine bodyPost_end (v := .tuple #[]) (by simp [results, Tryd.results67, go_sem]) rfl ⟨rfl, h2, (grown_of ((hsz.trans (hb1.mono hsz.size)).alloc (by have := hb1.size; have := hsz.size; omega) _) _)⟩
/-- the rows of three that are well formed -/
def Ok3 (xs : Nat → List Slot) : Prop := ∀ k, 1 ≤ k → k ≤ 3 → RowOk (xs k)
theorem Ok3.upd {xs : Nat → List Slot} (h : Ok3 xs) {k : Nat} {ys : List Slot} (hy : RowOk ys) : Ok3 (upd xs k ys) := by
  intro j h1 h3
  by_cases e : j = k
  · subst e; rw [upd_at]; exact hy
  · rw [upd_ne _ _ _ _ e]; exact h j h1 h3
set_option maxHeartbeats 3200000 in
theorem hier_Evict_yes (k : Nat) (h1 : 1 ≤ k) (h3 : k ≤ 3) (i : Nat) (s : Slot) (hb : Nat) (tb gb : Nat → Nat) (xs : Nat → List Slot) (hi : (xs k)[i]? = some s) (w : World) (h : IsHier w hb tb gb xs) :
    Calls Tryd.prog 50 #[.pointer (some ⟨hb, 0, none⟩), .int .i64 k, .int .i64 i] w fun e w' => e = .returned (.bool s.full) ∧ IsHier w' hb tb gb (upd xs k ((xs k).set i zslot)) ∧ GrownS w w' (In3 gb) := by
  have WH := Lib.hid (hier_which_yes k h1 h3 hb tb gb xs w h)
  have hT := h.th.t k h1 h3
  have EV := Lib.hid (tlb_Evict_yes (tb k) (gb k) (xs k) i s hi w hT)
  go_enter Tryd.func50, Tryd.ntmps50
  go_wp2_with (first
    | (go_at_call 74; refine WH.out.mono ?_; rintro e w1 ⟨rfl, rfl⟩)
    | (go_at_call 61; refine EV.out.mono ?_; rintro e w2 ⟨rfl, hg2, hb2⟩))
  go_ret
  exact ⟨rfl, h.put h1 h3 (hT.to hb2 hg2 (by simp)) hg2, GrownS.ofOne hg2 (In3.mk h1 h3)⟩
theorem hier_Evict_out (k : Nat) (h1 : 1 ≤ k) (h3 : k ≤ 3) (i : Int) (hb : Nat) (tb gb : Nat → Nat) (xs : Nat → List Slot) (hi : i < 0 ∨ ((xs k).length : Int) ≤ i) (w : World) (h : IsHier w hb tb gb xs) :
    Calls Tryd.prog 50 #[.pointer (some ⟨hb, 0, none⟩), .int .i64 k, .int .i64 i] w fun e w' => e = .returned (.bool false) ∧ w = w' := by
  have WH := Lib.hid (hier_which_yes k h1 h3 hb tb gb xs w h)
  have EV := Lib.hid (tlb_Evict_no (tb k) (gb k) (xs k) i hi w (h.th.t k h1 h3))
  clear hi
  go_enter Tryd.func50, Tryd.ntmps50
  go_wp2_with (first
    | (go_at_call 74; refine WH.out.mono ?_; rintro e w1 ⟨rfl, rfl⟩)
    | (go_at_call 61; refine EV.out.mono ?_; rintro e w2 ⟨rfl, rfl⟩))
  go_ret
  exact ⟨rfl, rfl⟩
theorem hier_Evict_no (k : Int) (hk : k < 1 ∨ 3 < k) (i : Int) (hb : Addr) (w : World) :
    Calls Tryd.prog 50 #[.pointer (some hb), .int .i64 k, .int .i64 i] w fun e w' => e = .returned (.bool false) ∧ w = w' := by
  have WH := Lib.hid (hier_which_no k (beq_eq_false_iff_ne.2 (by omega)) (beq_eq_false_iff_ne.2 (by omega)) (beq_eq_false_iff_ne.2 (by omega)) hb w)
  clear hk
  go_enter Tryd.func50, Tryd.ntmps50
  go_wp2_with (first
    | (go_at_call 74; refine WH.out.mono ?_; rintro e w1 ⟨rfl, rfl⟩))
  go_ret
  exact ⟨rfl, rfl⟩
set_option maxHeartbeats 6400000 in
theorem hier_Keep_no (b : Blk) (hbo : b.Ok) (va asid : Int) (ho : overB b va asid = false) (fetch : Bool) (pick : Int) (hb : Addr) (w : World) (hs : Shf w) :
    Calls Tryd.prog 40 #[.pointer (some hb), (.agg #[.int .i64 b.asid, .int .i64 b.size, .int .u32 b.va, .int .u64 b.pa, .int .i64 b.dom, .int .i64 b.ap, .int .u32 b.bits, .bool b.ng, .bool b.xn]), .int .u32 va, .int .i64 asid, .bool fetch, .int .i64 pick] w fun e w' => e = .returned (.int .i64 101) ∧ Below w.heap.size w w' := by
  have ov := tlb_Over_is b hbo va asid (w.alloc (.cells #[.int .i64 b.asid, .int .i64 b.size, .int .u32 b.va, .int .u64 b.pa, .int .i64 b.dom, .int .i64 b.ap, .int .u32 b.bits, .bool b.ng, .bool b.xn] 29)) (hs.alloc _)
  rw [ho] at ov
  have OV := Lib.hid ov
  clear ov ho
  go_enter Tryd.func40, Tryd.ntmps40
  go_wp2_with (go_at_call 20; refine OV.out.mono ?_; rintro e w1 ⟨rfl, hb1⟩)
  go_ret
  exact ⟨rfl, bbox (by simpa using hb1)⟩
set_option maxHeartbeats 6400000 in
set_option maxRecDepth 100000 in
theorem hier_Keep_yes (b : Blk) (hbo : b.Ok) (va asid : Int) (ho : overB b va asid = true) (fetch : Bool) (pick : Int) (hp0 : -9223372036854775808 ≤ pick) (hp1 : pick ≤ 9223372036854775807) (hb : Nat) (tb gb : Nat → Nat) (xs : Nat → List Slot) (hxo : Ok3 xs) (w : World) (hs : Shf w) (h : IsHier w hb tb gb xs) :
    Calls Tryd.prog 40 #[.pointer (some ⟨hb, 0, none⟩), (.agg #[.int .i64 b.asid, .int .i64 b.size, .int .u32 b.va, .int .u64 b.pa, .int .i64 b.dom, .int .i64 b.ap, .int .u32 b.bits, .bool b.ng, .bool b.xn]), .int .u32 va, .int .i64 asid, .bool fetch, .int .i64 pick] w fun e w' => e = .returned (.int .i64 0) ∧ IsHier w' hb tb gb (keepR xs b va asid fetch pick) ∧ GrownS w w' (In3 gb) := by
  have e3 : keepR xs b va asid fetch pick = upd (upd xs 3 (takeRow b va asid pick (xs 3))) (sm fetch) (takeRow b va asid pick (xs (sm fetch))) := by unfold keepR; rw [if_pos ho]
  rw [e3]
  obtain ⟨s1, s3, sn⟩ := sm_le fetch
  have ov := tlb_Over_is b hbo va asid (w.alloc (.cells #[.int .i64 b.asid, .int .i64 b.size, .int .u32 b.va, .int .u64 b.pa, .int .i64 b.dom, .int .i64 b.ap, .int .u32 b.bits, .bool b.ng, .bool b.xn] 29)) (hs.alloc _)
  rw [ho] at ov
  have OV := Lib.hid ov
  have h1 := h.alloc (.cells #[.int .i64 b.asid, .int .i64 b.size, .int .u32 b.va, .int .u64 b.pa, .int .i64 b.dom, .int .i64 b.ap, .int .u32 b.bits, .bool b.ng, .bool b.xn] 29)
  have hbk : Blok (w.alloc (.cells #[.int .i64 b.asid, .int .i64 b.size, .int .u32 b.va, .int .u64 b.pa, .int .i64 b.dom, .int .i64 b.ap, .int .u32 b.bits, .bool b.ng, .bool b.xn] 29)) w.heap.size 29 (blkCells b) := Blok.new w _ _
  have hnb : ¬ In3 gb w.heap.size := fun ⟨k, a, c, e⟩ => by have := (h.th.t k a c).sl.lt; omega
  have hz : ¬ In3 gb 0 := h.th.zero
  have hs1 : Shf (w.alloc (.cells #[.int .i64 b.asid, .int .i64 b.size, .int .u32 b.va, .int .u64 b.pa, .int .i64 b.dom, .int .i64 b.ap, .int .u32 b.bits, .bool b.ng, .bool b.xn] 29)) := hs.alloc _
  have f1 : ∀ w', GrownS (w.alloc (.cells #[.int .i64 b.asid, .int .i64 b.size, .int .u32 b.va, .int .u64 b.pa, .int .i64 b.dom, .int .i64 b.ap, .int .u32 b.bits, .bool b.ng, .bool b.xn] 29)) w' (In3 gb) → w'.cell? ⟨hb, 0, none⟩ = some (.pointer (some ⟨tb 1, 0, none⟩)) := fun w' g => (h1.b.gs g h.ne).cell 0
  have f2 : ∀ w', GrownS (w.alloc (.cells #[.int .i64 b.asid, .int .i64 b.size, .int .u32 b.va, .int .u64 b.pa, .int .i64 b.dom, .int .i64 b.ap, .int .u32 b.bits, .bool b.ng, .bool b.xn] 29)) w' (In3 gb) → w'.cell? ⟨hb, 1, none⟩ = some (.pointer (some ⟨tb 2, 0, none⟩)) := fun w' g => (h1.b.gs g h.ne).cell 1
  have f3 : ∀ w', GrownS (w.alloc (.cells #[.int .i64 b.asid, .int .i64 b.size, .int .u32 b.va, .int .u64 b.pa, .int .i64 b.dom, .int .i64 b.ap, .int .u32 b.bits, .bool b.ng, .bool b.xn] 29)) w' (In3 gb) → w'.cell? ⟨hb, 2, none⟩ = some (.pointer (some ⟨tb 3, 0, none⟩)) := fun w' g => (h1.b.gs g h.ne).cell 2
  (have c0 : ∀ w', GrownS (w.alloc (.cells #[.int .i64 b.asid, .int .i64 b.size, .int .u32 b.va, .int .u64 b.pa, .int .i64 b.dom, .int .i64 b.ap, .int .u32 b.bits, .bool b.ng, .bool b.xn] 29)) w' (In3 gb) → w'.cell? ⟨w.heap.size, 0, none⟩ = some (.int .i64 b.asid) := fun w' g => ((hbk).gs g hnb).cell 0; have c1 : ∀ w', GrownS (w.alloc (.cells #[.int .i64 b.asid, .int .i64 b.size, .int .u32 b.va, .int .u64 b.pa, .int .i64 b.dom, .int .i64 b.ap, .int .u32 b.bits, .bool b.ng, .bool b.xn] 29)) w' (In3 gb) → w'.cell? ⟨w.heap.size, 1, none⟩ = some (.int .i64 b.size) := fun w' g => ((hbk).gs g hnb).cell 1; have c2 : ∀ w', GrownS (w.alloc (.cells #[.int .i64 b.asid, .int .i64 b.size, .int .u32 b.va, .int .u64 b.pa, .int .i64 b.dom, .int .i64 b.ap, .int .u32 b.bits, .bool b.ng, .bool b.xn] 29)) w' (In3 gb) → w'.cell? ⟨w.heap.size, 2, none⟩ = some (.int .u32 b.va) := fun w' g => ((hbk).gs g hnb).cell 2; have c3 : ∀ w', GrownS (w.alloc (.cells #[.int .i64 b.asid, .int .i64 b.size, .int .u32 b.va, .int .u64 b.pa, .int .i64 b.dom, .int .i64 b.ap, .int .u32 b.bits, .bool b.ng, .bool b.xn] 29)) w' (In3 gb) → w'.cell? ⟨w.heap.size, 3, none⟩ = some (.int .u64 b.pa) := fun w' g => ((hbk).gs g hnb).cell 3; have c4 : ∀ w', GrownS (w.alloc (.cells #[.int .i64 b.asid, .int .i64 b.size, .int .u32 b.va, .int .u64 b.pa, .int .i64 b.dom, .int .i64 b.ap, .int .u32 b.bits, .bool b.ng, .bool b.xn] 29)) w' (In3 gb) → w'.cell? ⟨w.heap.size, 4, none⟩ = some (.int .i64 b.dom) := fun w' g => ((hbk).gs g hnb).cell 4; have c5 : ∀ w', GrownS (w.alloc (.cells #[.int .i64 b.asid, .int .i64 b.size, .int .u32 b.va, .int .u64 b.pa, .int .i64 b.dom, .int .i64 b.ap, .int .u32 b.bits, .bool b.ng, .bool b.xn] 29)) w' (In3 gb) → w'.cell? ⟨w.heap.size, 5, none⟩ = some (.int .i64 b.ap) := fun w' g => ((hbk).gs g hnb).cell 5; have c6 : ∀ w', GrownS (w.alloc (.cells #[.int .i64 b.asid, .int .i64 b.size, .int .u32 b.va, .int .u64 b.pa, .int .i64 b.dom, .int .i64 b.ap, .int .u32 b.bits, .bool b.ng, .bool b.xn] 29)) w' (In3 gb) → w'.cell? ⟨w.heap.size, 6, none⟩ = some (.int .u32 b.bits) := fun w' g => ((hbk).gs g hnb).cell 6; have c7 : ∀ w', GrownS (w.alloc (.cells #[.int .i64 b.asid, .int .i64 b.size, .int .u32 b.va, .int .u64 b.pa, .int .i64 b.dom, .int .i64 b.ap, .int .u32 b.bits, .bool b.ng, .bool b.xn] 29)) w' (In3 gb) → w'.cell? ⟨w.heap.size, 7, none⟩ = some (.bool b.ng) := fun w' g => ((hbk).gs g hnb).cell 7; have c8 : ∀ w', GrownS (w.alloc (.cells #[.int .i64 b.asid, .int .i64 b.size, .int .u32 b.va, .int .u64 b.pa, .int .i64 b.dom, .int .i64 b.ap, .int .u32 b.bits, .bool b.ng, .bool b.xn] 29)) w' (In3 gb) → w'.cell? ⟨w.heap.size, 8, none⟩ = some (.bool b.xn) := fun w' g => ((hbk).gs g hnb).cell 8)
  have SM := Lib.hid (fun W (hW : IsHier W hb tb gb (upd xs 3 (takeRow b va asid pick (xs 3)))) => hier_small_is fetch hb tb gb _ W hW)
  have hfd : ∀ W : World, (Instr.field 113 (.agg #[.pointer (some ⟨tb (sm fetch), 0, none⟩)]) 0).run Tryd.prog W = .ok (.agg #[.pointer (some ⟨tb (sm fetch), 0, none⟩)]) W := fun _ => by kernel_rfl
  clear ov ho e3
  go_enter Tryd.func40, Tryd.ntmps40
  go_wp2_with (go_at_call 20; refine OV.out.mono ?_; rintro e w1 ⟨rfl, hb1⟩)
  have h2 : IsHier w1.drew hb tb gb xs := (h1.below hb1).below (bdrew (Below.refl _ _))
  have hG1 : GrownS (w.alloc (.cells #[.int .i64 b.asid, .int .i64 b.size, .int .u32 b.va, .int .u64 b.pa, .int .i64 b.dom, .int .i64 b.ap, .int .u32 b.bits, .bool b.ng, .bool b.xn] 29)) w1.drew (In3 gb) := (GrownS.ofBelow hb1).trans (GrownS.drew _ _)
  have TK := Lib.hid (take_is b hbo va asid pick hp0 hp1 (tb 3) (gb 3) (xs 3) (hxo 3 (by omega) (by omega)) w1.drew (hs1.gs hG1 hz) (h2.th.t 3 (by omega) (by omega)))
  go_region_held3 (fun w' => GrownS (w.alloc (.cells #[.int .i64 b.asid, .int .i64 b.size, .int .u32 b.va, .int .u64 b.pa, .int .i64 b.dom, .int .i64 b.ap, .int .u32 b.bits, .bool b.ng, .bool b.xn] 29)) w' (In3 gb))
    (first | assumption)
    (first | (go_at_call 67; refine TK.out.mono ?_; rintro e w3 ⟨rfl, hT3, hg3⟩; have h3 := h2.put (by omega) (by omega) hT3 hg3; have hG3 : GrownS (w.alloc (.cells #[.int .i64 b.asid, .int .i64 b.size, .int .u32 b.va, .int .u64 b.pa, .int .i64 b.dom, .int .i64 b.ap, .int .u32 b.bits, .bool b.ng, .bool b.xn] 29)) w3 (In3 gb) := hG1.one hg3 (In3.mk (by omega) (by omega))))
  all_goals
    go_wp2_with fail
    have h4 : IsHier w3.drew hb tb gb (upd xs 3 (takeRow b va asid pick (xs 3))) := h3.below (bdrew (Below.refl _ _))
    have hG4 : GrownS (w.alloc (.cells #[.int .i64 b.asid, .int .i64 b.size, .int .u32 b.va, .int .u64 b.pa, .int .i64 b.dom, .int .i64 b.ap, .int .u32 b.bits, .bool b.ng, .bool b.xn] 29)) w3.drew (In3 gb) := hG3.trans (GrownS.drew _ _)
    have TK2 := Lib.hid (fun W (hW : IsHier W hb tb gb (upd xs 3 (takeRow b va asid pick (xs 3)))) (hG : GrownS (w.alloc (.cells #[.int .i64 b.asid, .int .i64 b.size, .int .u32 b.va, .int .u64 b.pa, .int .i64 b.dom, .int .i64 b.ap, .int .u32 b.bits, .bool b.ng, .bool b.xn] 29)) W (In3 gb)) => take_is b hbo va asid pick hp0 hp1 (tb (sm fetch)) (gb (sm fetch)) (xs (sm fetch)) (hxo (sm fetch) s1 s3) W (hs1.gs hG hz) (by have := hW.th.t (sm fetch) s1 s3; rwa [upd_ne _ _ _ _ sn] at this))
    go_region_held3 (fun w' => GrownS (w.alloc (.cells #[.int .i64 b.asid, .int .i64 b.size, .int .u32 b.va, .int .u64 b.pa, .int .i64 b.dom, .int .i64 b.ap, .int .u32 b.bits, .bool b.ng, .bool b.xn] 29)) w' (In3 gb))
      (first | assumption)
      (first | (go_at_call 68; refine (SM.out _ h4).mono ?_; rintro e w5 ⟨rfl, hb5⟩; have h5 := h4.below hb5; have hG5 : GrownS (w.alloc (.cells #[.int .i64 b.asid, .int .i64 b.size, .int .u32 b.va, .int .u64 b.pa, .int .i64 b.dom, .int .i64 b.ap, .int .u32 b.bits, .bool b.ng, .bool b.xn] 29)) w5 (In3 gb) := hG4.below hb5)
             | (go_at_call 67; refine (TK2.out _ h5 hG5).mono ?_; rintro e w6 ⟨rfl, hT6, hg6⟩; have h6 := h5.put s1 s3 hT6 hg6; have hG6 : GrownS (w.alloc (.cells #[.int .i64 b.asid, .int .i64 b.size, .int .u32 b.va, .int .u64 b.pa, .int .i64 b.dom, .int .i64 b.ap, .int .u32 b.bits, .bool b.ng, .bool b.xn] 29)) w6 (In3 gb) := hG5.one hg6 (In3.mk s1 s3)))
    all_goals
      go_wp2
      go_ret
      exact ⟨rfl, h6, hG6.unbox⟩
end Go.Proofs.YtngcpcgioophcaaDoor
