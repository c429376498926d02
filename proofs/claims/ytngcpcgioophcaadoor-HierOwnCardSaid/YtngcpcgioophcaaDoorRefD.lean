/- The program's Drop and Places of layer 11 (hier). The document's three TLBs (atlasref11): small, many, Evict, Drop. The document's three TLBs (atlasref11): Drop. -/
import Derived.Test.YtngcpcgioophcaaDoorHierF
namespace Go.Proofs.YtngcpcgioophcaaDoor
open Go.RowKit

theorem wrap_small (x : Int) (h0 : 0 ≤ x) (h1 : x ≤ 1000) : IntKind.i64.wrap x = x := by simp [IntKind.wrap, IntKind.signed, IntKind.bits]; omega
theorem flush_any (d : Tlbi) (tb g : Nat) (xs : List Slot) (hok : RowOk xs) (hg0 : g ≠ 0) (n : Nat) (hn : dropN d xs = n) (w : World) (hs : Shf w) (h : IsTlb w 105 50 tb g xs) :
    Calls Tryd.prog 55 #[.pointer (some ⟨tb, 0, none⟩), (.agg #[.int .i64 d.kind, .int .u32 d.va, .int .i64 d.asid])] w fun e w' => e = .returned (.int .i64 n) ∧ IsTlb w' 105 50 tb g (dropRow d xs) ∧ w.grownBy w' (some g) := by
  refine (tlb_Flush_is d tb g xs hok hg0 w hs h).mono ?_
  rintro e w' ⟨rfl, hb, hg⟩
  exact ⟨by rw [hn], h.to hb hg (by simp [dropRow]), hg⟩
def dropN3 (xs : Nat → List Slot) (d : Tlbi) : Nat := dropN d (xs 1) + dropN d (xs 2) + dropN d (xs 3)
set_option maxHeartbeats 6400000 in
set_option maxRecDepth 100000 in
theorem hier_Drop_is (d : Tlbi) (hb : Nat) (tb gb : Nat → Nat) (xs : Nat → List Slot) (hxo : Ok3 xs) (w : World) (hs : Shf w) (h : IsHier w hb tb gb xs) :
    Calls Tryd.prog 51 #[.pointer (some ⟨hb, 0, none⟩), (.agg #[.int .i64 d.kind, .int .u32 d.va, .int .i64 d.asid])] w fun e w' => e = .returned (.int .i64 (dropN3 xs d : Nat)) ∧ IsHier w' hb tb gb (dropR3 xs d) ∧ GrownS w w' (In3 gb) := by
  have hle : ∀ k, 1 ≤ k → k ≤ 3 → dropN d (xs k) ≤ 64 := fun k a c => Nat.le_trans (dropN_le _ _) (h.th.t k a c).le
  obtain ⟨n1, hn1⟩ : ∃ n, dropN d (xs 1) = n := ⟨_, rfl⟩
  obtain ⟨n2, hn2⟩ : ∃ n, dropN d (xs 2) = n := ⟨_, rfl⟩
  obtain ⟨n3, hn3⟩ : ∃ n, dropN d (xs 3) = n := ⟨_, rfl⟩
  have l1 := hle 1 (by omega) (by omega)
  have l2 := hle 2 (by omega) (by omega)
  have l3 := hle 3 (by omega) (by omega)
  have F1 := Lib.hid (fun W a c => flush_any d (tb 1) (gb 1) (xs 1) (hxo 1 (by omega) (by omega)) (h.th.gz 1 (by omega) (by omega)) n1 hn1 W a c)
  have F2 := Lib.hid (fun W a c => flush_any d (tb 2) (gb 2) (xs 2) (hxo 2 (by omega) (by omega)) (h.th.gz 2 (by omega) (by omega)) n2 hn2 W a c)
  have F3 := Lib.hid (fun W a c => flush_any d (tb 3) (gb 3) (xs 3) (hxo 3 (by omega) (by omega)) (h.th.gz 3 (by omega) (by omega)) n3 hn3 W a c)
  have hsum : dropN3 xs d = n1 + n2 + n3 := by unfold dropN3; rw [hn1, hn2, hn3]
  rw [hsum]
  rw [hn1] at l1
  rw [hn2] at l2
  rw [hn3] at l3
  have hz : ¬ In3 gb 0 := h.th.zero
  have hnb : ¬ In3 gb w.heap.size := fun ⟨k, a, c, e⟩ => by have := (h.th.t k a c).sl.lt; omega
  have h0 := h.alloc (.cells #[.int .i64 d.kind, .int .u32 d.va, .int .i64 d.asid] 31)
  have hs0 := hs.alloc (.cells #[.int .i64 d.kind, .int .u32 d.va, .int .i64 d.asid] 31)
  have hbk : Blok (w.alloc (.cells #[.int .i64 d.kind, .int .u32 d.va, .int .i64 d.asid] 31)) w.heap.size 31 [.int .i64 d.kind, .int .u32 d.va, .int .i64 d.asid] := Blok.new w _ _
  have f1 : ∀ w', GrownS (w.alloc (.cells #[.int .i64 d.kind, .int .u32 d.va, .int .i64 d.asid] 31)) w' (In3 gb) → w'.cell? ⟨hb, 0, none⟩ = some (.pointer (some ⟨tb 1, 0, none⟩)) := fun w' g => (h0.b.gs g h.ne).cell 0
  have f2 : ∀ w', GrownS (w.alloc (.cells #[.int .i64 d.kind, .int .u32 d.va, .int .i64 d.asid] 31)) w' (In3 gb) → w'.cell? ⟨hb, 1, none⟩ = some (.pointer (some ⟨tb 2, 0, none⟩)) := fun w' g => (h0.b.gs g h.ne).cell 1
  have f3 : ∀ w', GrownS (w.alloc (.cells #[.int .i64 d.kind, .int .u32 d.va, .int .i64 d.asid] 31)) w' (In3 gb) → w'.cell? ⟨hb, 2, none⟩ = some (.pointer (some ⟨tb 3, 0, none⟩)) := fun w' g => (h0.b.gs g h.ne).cell 2
  (have c0 : ∀ w', GrownS (w.alloc (.cells #[.int .i64 d.kind, .int .u32 d.va, .int .i64 d.asid] 31)) w' (In3 gb) → w'.cell? ⟨w.heap.size, 0, none⟩ = some (.int .i64 d.kind) := fun w' g => ((hbk).gs g hnb).cell 0; have c1 : ∀ w', GrownS (w.alloc (.cells #[.int .i64 d.kind, .int .u32 d.va, .int .i64 d.asid] 31)) w' (In3 gb) → w'.cell? ⟨w.heap.size, 1, none⟩ = some (.int .u32 d.va) := fun w' g => ((hbk).gs g hnb).cell 1; have c2 : ∀ w', GrownS (w.alloc (.cells #[.int .i64 d.kind, .int .u32 d.va, .int .i64 d.asid] 31)) w' (In3 gb) → w'.cell? ⟨w.heap.size, 2, none⟩ = some (.int .i64 d.asid) := fun w' g => ((hbk).gs g hnb).cell 2)
  have hd : IsHier (w.alloc (.cells #[.int .i64 d.kind, .int .u32 d.va, .int .i64 d.asid] 31)).drew hb tb gb xs := h0.below (bdrew (Below.refl _ _))
  have hGd : GrownS (w.alloc (.cells #[.int .i64 d.kind, .int .u32 d.va, .int .i64 d.asid] 31)) (w.alloc (.cells #[.int .i64 d.kind, .int .u32 d.va, .int .i64 d.asid] 31)).drew (In3 gb) := GrownS.drew _ _
  clear hle hn1 hn2 hn3 hsum
  go_enter Tryd.func51, Tryd.ntmps51
  go_wp2_with fail
  go_region_held3 (fun w' => GrownS (w.alloc (.cells #[.int .i64 d.kind, .int .u32 d.va, .int .i64 d.asid] 31)) w' (In3 gb))
    (first | assumption)
    (first | (go_at_call 55; with_reducible refine (F3.out _ hsb hTb3).mono ?_; rintro e wc ⟨rfl, hTc, hgc⟩; have hHc := hHb.put (by omega) (by omega) hTc hgc; have hGc := hGb.one hgc (In3.mk (by omega) (by omega)))
           | (go_at_call 55; with_reducible refine (F2.out _ hsa hTa2).mono ?_; rintro e wb ⟨rfl, hTb, hgb⟩; have hHb := hHa.put (by omega) (by omega) hTb hgb; have hGb := hGa.one hgb (In3.mk (by omega) (by omega)); have hsb := hs0.gs hGb hz; have hTb3 := hHb.th.t 3 (by omega) (by omega); rw [upd_ne _ _ _ _ (by omega), upd_ne _ _ _ _ (by omega)] at hTb3)
           | (go_at_call 55; with_reducible refine (F1.out _ (hs0.gs hGd hz) (hd.th.t 1 (by omega) (by omega))).mono ?_; rintro e wa ⟨rfl, hTa, hga⟩; have hHa := hd.put (by omega) (by omega) hTa hga; have hGa := hGd.one hga (In3.mk (by omega) (by omega)); have hsa := hs0.gs hGa hz; have hTa2 := hHa.th.t 2 (by omega) (by omega); rw [upd_ne _ _ _ _ (by omega)] at hTa2))
  all_goals
    go_wp2
    go_ret
    exact ⟨by rw [wrap_small (n1 + n2) (by omega) (by omega), wrap_small (n1 + n2 + n3) (by omega) (by omega)]; simp, hHc, hGc.unbox⟩
set_option maxHeartbeats 1600000 in
theorem hier_Places_yes (k : Nat) (h1 : 1 ≤ k) (h3 : k ≤ 3) (hb : Nat) (tb gb : Nat → Nat) (xs : Nat → List Slot) (w : World) (h : IsHier w hb tb gb xs) :
    Calls Tryd.prog 47 #[.pointer (some ⟨hb, 0, none⟩), .int .i64 k] w fun e w' => e = .returned (.slice (some ⟨w.heap.size, 0, none⟩) (xs k).length (xs k).length) ∧ Blok w' w.heap.size 50 (rowCells (xs k)) ∧ w'.heap.size = w.heap.size + 1 ∧ Below w.heap.size w w' := by
  have WH := Lib.hid (hier_which_yes k h1 h3 hb tb gb xs w h)
  have PL := Lib.hid (tlb_Places_is (tb k) (gb k) (xs k) w (h.th.t k h1 h3))
  go_enter Tryd.func47, Tryd.ntmps47
  go_wp2_with (first
    | (go_at_call 74; refine WH.out.mono ?_; rintro e w1 ⟨rfl, rfl⟩)
    | (go_at_call 25; refine PL.out.mono ?_; rintro e w2 ⟨rfl, hL, hz, hb2⟩))
  go_ret
  exact ⟨rfl, hL, hz, hb2⟩
theorem hier_Places_no (k : Int) (hk : k < 1 ∨ 3 < k) (hb : Addr) (w : World) :
    Calls Tryd.prog 47 #[.pointer (some hb), .int .i64 k] w fun e w' => e = .returned (.slice none 0 0) ∧ w = w' := by
  have WH := Lib.hid (hier_which_no k (beq_eq_false_iff_ne.2 (by omega)) (beq_eq_false_iff_ne.2 (by omega)) (beq_eq_false_iff_ne.2 (by omega)) hb w)
  clear hk
  go_enter Tryd.func47, Tryd.ntmps47
  go_wp2_with (go_at_call 74; refine WH.out.mono ?_; rintro e w1 ⟨rfl, rfl⟩)
  go_ret
  exact ⟨rfl, rfl⟩
end Go.Proofs.YtngcpcgioophcaaDoor

namespace Go.Proofs.YtngcpcgioophcaaDoor
open Go.RowKit

section
variable {w : World} {hb : Nat} {tb gb : Nat → Nat} {xs : Nat → List Slot}
theorem IsRef.c1 (h : IsRef w hb tb gb xs) : w.cell? ⟨hb, 1, none⟩ = some (.pointer (some ⟨tb 1, 0, none⟩)) := h.b.cell 1
theorem IsRef.c2 (h : IsRef w hb tb gb xs) : w.cell? ⟨hb, 2, none⟩ = some (.pointer (some ⟨tb 2, 0, none⟩)) := h.b.cell 2
theorem IsRef.c3 (h : IsRef w hb tb gb xs) : w.cell? ⟨hb, 3, none⟩ = some (.pointer (some ⟨tb 3, 0, none⟩)) := h.b.cell 3
theorem IsRef.ck (h : IsRef w hb tb gb xs) (k : Nat) (h1 : 1 ≤ k) (h3 : k ≤ 3) : w.cell? ⟨hb, k, none⟩ = some (.pointer (some ⟨tb k, 0, none⟩)) := by
  obtain rfl | rfl | rfl : k = 1 ∨ k = 2 ∨ k = 3 := by omega
  · exact h.c1
  · exact h.c2
  · exact h.c3
end
theorem ref_small_is (fetch : Bool) (w : World) : Calls Tryd.prog 87 #[.bool fetch] w fun e w' => e = .returned (.int .i64 (sm fetch : Nat)) ∧ w = w' := by
  cases fetch
  all_goals
    go_enter Tryd.func87, Tryd.ntmps87
    go_wp2
    go_ret
    exact ⟨rfl, rfl⟩
theorem ref_many_is (m : Nat) (w : World) : Calls Tryd.prog 88 #[.int .i64 m] w fun e w' => e = .returned (.int .i64 (many m : Nat)) ∧ w = w' := by
  rcases many_is m with ⟨e, h⟩ | ⟨e, h⟩
  all_goals
    rw [e]
    clear e
    go_enter Tryd.func88, Tryd.ntmps88
    go_wp2
    go_ret
    exact ⟨rfl, rfl⟩
set_option maxHeartbeats 1600000 in
theorem ref11_Evict_yes (k : Nat) (h1 : 1 ≤ k) (h3 : k ≤ 3) (i : Nat) (s : Slot) (hb : Nat) (tb gb : Nat → Nat) (xs : Nat → List Slot) (hi : (xs k)[i]? = some s) (w : World) (h : IsRef w hb tb gb xs) :
    Calls Tryd.prog 72 #[.pointer (some ⟨hb, 0, none⟩), .int .i64 k, .int .i64 i] w fun e w' => e = .returned (.bool s.full) ∧ IsRef w' hb tb gb (upd xs k ((xs k).set i zslot)) ∧ GrownS w w' (In3 gb) := by
  have ck := h.ck k h1 h3
  have hT := h.th.t k h1 h3
  have EV := Lib.hid (ref_Evict_yes (tb k) (gb k) (xs k) i s hi w hT)
  go_enter Tryd.func72, Tryd.ntmps72
  go_wp2_with (go_at_call 64; refine EV.out.mono ?_; rintro e w2 ⟨rfl, hg2, hb2⟩)
  go_ret
  exact ⟨rfl, h.put h1 h3 (hT.to hb2 hg2 (by simp)) hg2, GrownS.ofOne hg2 (In3.mk h1 h3)⟩
theorem ref11_Evict_out (k : Nat) (h1 : 1 ≤ k) (h3 : k ≤ 3) (i : Int) (hb : Nat) (tb gb : Nat → Nat) (xs : Nat → List Slot) (hi : i < 0 ∨ ((xs k).length : Int) ≤ i) (w : World) (h : IsRef w hb tb gb xs) :
    Calls Tryd.prog 72 #[.pointer (some ⟨hb, 0, none⟩), .int .i64 k, .int .i64 i] w fun e w' => e = .returned (.bool false) ∧ w = w' := by
  have ck := h.ck k h1 h3
  have EV := Lib.hid (ref_Evict_no (tb k) (gb k) (xs k) i hi w (h.th.t k h1 h3))
  clear hi
  go_enter Tryd.func72, Tryd.ntmps72
  go_wp2_with (go_at_call 64; refine EV.out.mono ?_; rintro e w2 ⟨rfl, rfl⟩)
  go_ret
  exact ⟨rfl, rfl⟩
theorem ref11_Evict_no (k : Int) (hk : k < 1 ∨ 3 < k) (i : Int) (hb : Addr) (w : World) :
    Calls Tryd.prog 72 #[.pointer (some hb), .int .i64 k, .int .i64 i] w fun e w' => e = .returned (.bool false) ∧ w = w' := by
  rcases hk with hk | hk
  all_goals
    go_enter Tryd.func72, Tryd.ntmps72
    go_wp2
  all_goals
    go_ret
    exact ⟨rfl, rfl⟩
end Go.Proofs.YtngcpcgioophcaaDoor

namespace Go.Proofs.YtngcpcgioophcaaDoor
open Go.RowKit

def dropU (xs : Nat → List Slot) (d : Tlbi) : Nat → Nat → List Slot
  | 0 => xs
  | j + 1 => upd (dropU xs d j) (j + 1) (dropRow d (xs (j + 1)))
def sumU (xs : Nat → List Slot) (d : Tlbi) : Nat → Nat
  | 0 => 0
  | j + 1 => sumU xs d j + dropN d (xs (j + 1))
theorem dropU_far (xs : Nat → List Slot) (d : Tlbi) (j : Nat) : ∀ k, j < k → dropU xs d j k = xs k := by
  induction j with
  | zero => intro k _; rfl
  | succ j ih => intro k h; exact (upd_ne _ _ _ _ (by omega)).trans (ih k (by omega))
theorem dropU_3 (xs : Nat → List Slot) (d : Tlbi) : dropU xs d 3 = dropR3 xs d := rfl
theorem sumU_3 (xs : Nat → List Slot) (d : Tlbi) : sumU xs d 3 = dropN3 xs d := by simp [sumU, dropN3]
theorem sumU_le (xs : Nat → List Slot) (d : Tlbi) (hl : ∀ k, 1 ≤ k → k ≤ 3 → (xs k).length ≤ 64) (j : Nat) : j ≤ 3 → sumU xs d j ≤ 64 * j := by
  induction j with
  | zero => intro _; exact Nat.zero_le _
  | succ j ih =>
    intro h
    have h1 := ih (by omega)
    have h2 := dropN_le d (xs (j + 1))
    have h3 := hl (j + 1) (by omega) h
    simp only [sumU]
    omega
theorem ref_flush_any (d : Tlbi) (tb g : Nat) (xs : List Slot) (hok : RowOk xs) (n : Nat) (hn : dropN d xs = n) (w : World) (h : IsTlb w 67 50 tb g xs) :
    Calls Tryd.prog 65 #[.pointer (some ⟨tb, 0, none⟩), (.agg #[.int .i64 d.kind, .int .u32 d.va, .int .i64 d.asid])] w fun e w' => e = .returned (.int .i64 n) ∧ IsTlb w' 67 50 tb g (dropRow d xs) ∧ w.grownBy w' (some g) := by
  refine (ref_Flush_is d tb g xs hok w h).mono ?_
  rintro e w' ⟨rfl, hb, hg⟩
  exact ⟨by rw [hn], h.to hb hg (by simp [dropRow]), hg⟩
set_option maxHeartbeats 6400000 in
set_option maxRecDepth 100000 in
theorem ref11_Drop_is (d : Tlbi) (hb : Nat) (tb gb : Nat → Nat) (xs : Nat → List Slot) (hxo : Ok3 xs) (w : World) (h : IsRef w hb tb gb xs) :
    Calls Tryd.prog 73 #[.pointer (some ⟨hb, 0, none⟩), (.agg #[.int .i64 d.kind, .int .u32 d.va, .int .i64 d.asid])] w fun e w' => e = .returned (.int .i64 (dropN3 xs d : Nat)) ∧ IsRef w' hb tb gb (dropR3 xs d) ∧ GrownS w w' (In3 gb) := by
  have hl64 : ∀ k, 1 ≤ k → k ≤ 3 → (xs k).length ≤ 64 := fun k a c => (h.th.t k a c).le
  have hnb : ¬ In3 gb w.heap.size := fun ⟨k, a, c, e⟩ => by have := (h.th.t k a c).sl.lt; omega
  have h0 := h.alloc (.cells #[.int .i64 d.kind, .int .u32 d.va, .int .i64 d.asid] 31)
  have hbk : Blok (w.alloc (.cells #[.int .i64 d.kind, .int .u32 d.va, .int .i64 d.asid] 31)) w.heap.size 31 [.int .i64 d.kind, .int .u32 d.va, .int .i64 d.asid] := Blok.new w _ _
  have D3 := Lib.hid (dropU_3 xs d)
  have S3 := Lib.hid (sumU_3 xs d)
  have SL := Lib.hid (sumU_le xs d hl64)
  have DF := Lib.hid (dropU_far xs d)
  go_enter Tryd.func73, Tryd.ntmps73
  go_wp2
  go_loopw [5, 6] (fun v5 v6 wr => ∃ k : Nat, 1 ≤ k ∧ k ≤ 4 ∧ v6 = .int .i64 k ∧ v5 = .int .i64 (sumU xs d (k - 1) : Nat) ∧ IsRef wr hb tb gb (dropU xs d (k - 1)) ∧ GrownS (w.alloc (.cells #[.int .i64 d.kind, .int .u32 d.va, .int .i64 d.asid] 31)) wr (In3 gb)) (fun _ v6 _ => 5 - (intOf v6).toNat)
  case atStart => exact ⟨1, by omega, by omega, rfl, rfl, h0, GrownS.refl _ _⟩
  case round =>
    obtain ⟨k, hk1, hk4, rfl, rfl, hR, hG⟩ := hrel
    have hsl := SL.out (k - 1) (by omega)
    by_cases hlt : k < 4
    · have hks : sumU xs d (k + 1 - 1) = sumU xs d (k - 1) + dropN d (xs k) := by obtain ⟨j, rfl⟩ : ∃ j, k = j + 1 := ⟨k - 1, by omega⟩; rfl
      have hdn := dropN_le d (xs k)
      have hdl := hl64 k (by omega) (by omega)
      have hku : dropU xs d (k + 1 - 1) = upd (dropU xs d (k - 1)) k (dropRow d (xs k)) := by obtain ⟨j, rfl⟩ : ∃ j, k = j + 1 := ⟨k - 1, by omega⟩; rfl
      have i0 : (0 : Int) ≤ ↑k := by omega
      have i1 : (↑k : Int) < 4 := by omega
      obtain ⟨n, hn⟩ : ∃ n, dropN d (xs k) = n := ⟨_, rfl⟩
      have hd : IsRef wr.drew hb tb gb (dropU xs d (k - 1)) := hR.below (bdrew (Below.refl _ _))
      have hGd := hG.trans (GrownS.drew wr (In3 gb))
      have hTd := hd.th.t k (by omega) (by omega)
      rw [DF.out (k - 1) k (by omega)] at hTd
      have FL := Lib.hid (ref_flush_any d (tb k) (gb k) (xs k) (hxo k (by omega) (by omega)) n hn wr.drew hTd)
      obtain ⟨sj, hsj⟩ : ∃ sj, sumU xs d (k - 1) = sj := ⟨_, rfl⟩
      rw [hsj, hn] at hks
      rw [hsj] at hsl ⊢
      rw [hn] at hdn
      have HKS := Lib.hid hks
      have HKU := Lib.hid hku
      have hck := hd.ck k (by omega) (by omega)
      have hcr := hR.ck k (by omega) (by omega)
      have hbd : Blok wr.drew w.heap.size 31 [.int .i64 d.kind, .int .u32 d.va, .int .i64 d.asid] := hbk.gs hGd hnb
      have b0 : wr.drew.cell? ⟨w.heap.size, 0, none⟩ = some (.int .i64 d.kind) := hbd.cell 0
      have b1 : wr.drew.cell? ⟨w.heap.size, 1, none⟩ = some (.int .u32 d.va) := hbd.cell 1
      have b2 : wr.drew.cell? ⟨w.heap.size, 2, none⟩ = some (.int .i64 d.asid) := hbd.cell 2
      clear hks hku hn hsj SL S3 D3 DF hl64
      go_wp2_with fail
      go_region_held3 (fun w' => w'.cell? ⟨hb, k, none⟩ = some (.pointer (some ⟨tb k, 0, none⟩)) ∧ w'.cell? ⟨w.heap.size, 0, none⟩ = some (.int .i64 d.kind) ∧ w'.cell? ⟨w.heap.size, 1, none⟩ = some (.int .u32 d.va) ∧ w'.cell? ⟨w.heap.size, 2, none⟩ = some (.int .i64 d.asid))
        (first | exact ⟨by assumption, by assumption, by assumption, by assumption⟩)
        (first | (go_at_call 65; refine FL.out.mono ?_; rintro e w3 ⟨rfl, hT3, hg3⟩; have hd3 := hd.put (by omega) (by omega) hT3 hg3; have hG3 := hGd.one hg3 (In3.mk (by omega) (by omega)); have e0 := hd3.ck k (by omega) (by omega); have hbe : Blok w3 w.heap.size 31 [.int .i64 d.kind, .int .u32 d.va, .int .i64 d.asid] := hbk.gs hG3 hnb; have e1 : w3.cell? ⟨w.heap.size, 0, none⟩ = some (.int .i64 d.kind) := hbe.cell 0; have e2 : w3.cell? ⟨w.heap.size, 1, none⟩ = some (.int .u32 d.va) := hbe.cell 1; have e3 : w3.cell? ⟨w.heap.size, 2, none⟩ = some (.int .i64 d.asid) := hbe.cell 2))
      all_goals
        go_wp2
        go_roundw
        case rel => exact ⟨k + 1, by omega, by omega, by go_num, by rw [HKS.out]; go_num, by rw [HKU.out]; exact hd3, hG3⟩
        case measure => simp [intOf]; omega
    · obtain rfl : k = 4 := by omega
      have hD : dropU xs d (4 - 1) = dropR3 xs d := D3.out
      have hS : sumU xs d (4 - 1) = dropN3 xs d := S3.out
      rw [hD] at hR
      rw [hS]
      clear hD hS
      go_wp2
      go_ret
      exact ⟨rfl, hR, hG.unbox⟩
end Go.Proofs.YtngcpcgioophcaaDoor
