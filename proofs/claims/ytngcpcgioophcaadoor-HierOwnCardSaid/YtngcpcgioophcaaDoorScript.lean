/- A script of layer 10 in memory: a slice of calls, each of 15 cells; and how it reads. -/
import Derived.Test.YtngcpcgioophcaaDoorOps
import Derived.Test.YtngcpcgioophcaaDoorRead
import Derived.Deep.Slices
import Derived.Deep.WholeRow
namespace Go.Proofs.YtngcpcgioophcaaDoor
open Go.ChangeShapes Go.WideShapes Go.RowKit Go.Deep Go.Proofs.YtngcpcgioophcaaDoor.Flat
set_option maxRecDepth 100000

/-- the calls os lie behind p, in a block below B -/
def OpsIn (B : Nat) (w : World) (p : Option Addr) (os : List Op10) : Prop :=
  ∀ i o, os[i]? = some o → ∃ b k, p = some ⟨b, k, none⟩ ∧ b < B ∧ ∀ j v, (opCells o)[j]? = some v → w.cell? ⟨b, k + i * 15 + j, none⟩ = some v
theorem OpsIn.below {B : Nat} {w w' : World} {p : Option Addr} {os : List Op10} (h : OpsIn B w p os) (hb : Below B w w') : OpsIn B w' p os := by
  intro i o hi
  obtain ⟨b, k, hp, hb', hc⟩ := h i o hi
  exact ⟨b, k, hp, hb', fun j v hv => (hb.cell hb').trans (hc j v hv)⟩
instance : Inhabited Op10 := ⟨⟨0, 0, 0, zblk, ⟨0, 0, 0⟩⟩⟩
def opK : List (Option IntKind) := [some .i64, some .u32, some .i64] ++ blkK ++ tlbiK
theorem of_opK {cs : List Value} (h : fitsAll opK cs) : ∃ o : Op10, cs = opCells o ∧ o.Ok := by
  have hl := fitsAll_len h
  match cs, hl with
  | [u0, u1, u2, v0, v1, v2, v3, v4, v5, v6, v7, v8, d0, d1, d2], _ =>
    obtain ⟨⟨m0, rfl, g0⟩, ⟨m1, rfl, g1⟩, ⟨m2, rfl, g2⟩, ⟨n0, rfl, h0⟩, ⟨n1, rfl, h1⟩, ⟨n2, rfl, h2⟩, ⟨n3, rfl, h3⟩, ⟨n4, rfl, h4⟩, ⟨n5, rfl, h5⟩, ⟨n6, rfl, h6⟩, ⟨n7, rfl⟩, ⟨n8, rfl⟩, ⟨e0, rfl, f0⟩, ⟨e1, rfl, f1⟩, ⟨e2, rfl, f2⟩, _⟩ := h
    exact ⟨⟨m0, m1, m2, ⟨n0, n1, n2, n3, n4, n5, n6, n7, n8⟩, ⟨e0, e1, e2⟩⟩, rfl, ⟨(bnd_i64 g2).1, (bnd_i64 g2).2, ⟨(bnd_i64 h0).1, (bnd_i64 h0).2, (bnd_i64 h1).1, (bnd_i64 h1).2, (bnd_u32 h2).1, (bnd_u32 h2).2, (bnd_u64 h3).1, (bnd_u64 h3).2, (bnd_i64 h4).1, (bnd_i64 h4).2, (bnd_i64 h5).1, (bnd_i64 h5).2, (bnd_u32 h6).1, (bnd_u32 h6).2⟩⟩⟩
theorem flat_op : flatT Tryd.prog 5 44 = some opK := by kernel_rfl
theorem cells_op : Tryd.prog.cellsOf 44 = opK.length := by kernel_rfl
section
variable {H : Type} {enc : TypeId × Value → H} {W : World} {spare : Nat → Bool} {held : Bool} {r : Reach} {b0 : Nat} {v : Value} {d : DataW H} {p : List MemPlace}
theorem open_ops10 (hv : Value.okWide Tryd.prog W r b0 39 v) (h : DataW.Trod enc Tryd.prog W 0 spare held 39 v d p) :
    ∃ (q : Option Addr) (cap : Nat) (os : List Op10), v = .slice q os.length cap ∧ OpsIn W.heap.size W q os ∧ (∀ o ∈ os, o.Ok) ∧ os.length ≤ maxLen := by
  obtain ⟨q, len, cap, rfl⟩ := okWide_slice Tryd.underlying39 hv
  obtain ⟨fuel, hf⟩ := h
  rcases open_slice Tryd.underlying39 hf with ⟨hc, _⟩ | ⟨a, len', cap', m, n, D, Pl, hc, hb, hl, hm, hmm, hx, hall⟩
  · simp only [Value.cells, List.cons.injEq, Value.slice.injEq, and_true] at hc
    obtain ⟨rfl, rfl, rfl⟩ := hc
    exact ⟨none, 0, [], rfl, fun i o hi => by simp at hi, fun o ho => (by cases ho), Nat.zero_le _⟩
  · simp only [Value.cells, List.cons.injEq, Value.slice.injEq, and_true] at hc
    obtain ⟨rfl, rfl, rfl⟩ := hc
    have hlm : len ≤ m := by rw [hmm]; split <;> omega
    have each : ∀ i, i < len → ∃ o : Op10, o.Ok ∧ a.spot = none ∧ a.block < W.heap.size ∧ ∀ j v, (opCells o)[j]? = some v → W.cell? ⟨a.block, a.off + i * 15 + j, none⟩ = some v := by
      intro i hi
      obtain ⟨cs', h1, h2⟩ := hall i (by omega)
      rw [cells_op] at h1
      obtain ⟨_, hlen, hcell⟩ := World.cells?_some h1
      obtain ⟨o, rfl, ho⟩ := of_opK (flatT_fits (P := Tryd.prog) 5 n 44 opK _ _ flat_op h2 cells_op)
      have hc : ∀ j v, (opCells o)[j]? = some v → W.cell? ((a.add (i * 15)).add j) = some v := by
        intro j v hjv
        have hj : j < 15 := (List.getElem?_eq_some_iff.1 hjv).1
        exact (hcell j hj).trans hjv
      have h0 := hc 1 _ rfl
      have hs : (a.add (i * 15)).add 1 = ⟨a.block, a.off + i * 15 + 1, none⟩ := by
        unfold Addr.add; by_cases e : i * 15 = 0 <;> simp [e]
      have hz := hc 0 _ rfl
      have hspot : a.spot = none ∨ 0 < i := by
        by_cases e : i = 0
        · left
          subst e
          simp only [Nat.zero_mul, Addr.add, if_pos] at hz
          unfold World.cell? at hz
          split at hz
          · split at hz
            · cases hz
            · rename_i hh; simpa using hh
          · cases hz
        · right; omega
      have hadd : ∀ j, (a.spot = none ∨ 0 < i) → (a.add (i * 15)).add j = ⟨a.block, a.off + i * 15 + j, none⟩ := by
        intro j hd
        obtain ⟨ab, ao, sp⟩ := a
        unfold Addr.add
        by_cases e : i * 15 = 0
        · have : i = 0 := by omega
          subst this
          rcases hd with hd | hd
          · simp only at hd; subst hd
            by_cases f : j = 0 <;> simp [f]
          · omega
        · by_cases f : j = 0 <;> simp [e, f]
      have hbl : a.block < W.heap.size := by
        have := World.block_lt_of_cell? W _ h0
        rw [hs] at this
        exact this
      have hcc : ∀ j v, (opCells o)[j]? = some v → W.cell? ⟨a.block, a.off + i * 15 + j, none⟩ = some v := fun j v hjv => by rw [← hadd j hspot]; exact hc j v hjv
      refine ⟨o, ho, ?_, hbl, hcc⟩
      by_cases e : a.spot = none
      · exact e
      · exfalso
        obtain ⟨cs0, g1, g2⟩ := hall 0 (by omega)
        rw [cells_op] at g1
        obtain ⟨_, hlen0, hcell0⟩ := World.cells?_some g1
        have hq := hcell0 0 (by decide)
        simp only [Nat.zero_mul, Addr.add, if_pos] at hq
        rw [List.getElem?_eq_getElem (by rw [hlen0]; decide)] at hq
        unfold World.cell? at hq
        split at hq
        · split at hq
          · cases hq
          · rename_i hh; exact e (by simpa using hh)
        · cases hq
    obtain ⟨O, hO⟩ := choose_lt each
    have hlen : ((List.range len).map O).length = len := by simp
    refine ⟨some a, cap, (List.range len).map O, by rw [hlen], ?_, ?_, by rw [hlen]; omega⟩
    · intro i o hi
      have hil : i < len := by have := (List.getElem?_eq_some_iff.1 hi).1; simpa using this
      have e : o = O i := by simpa [hil] using hi.symm
      subst e
      obtain ⟨_, hsp, hbl, hcc⟩ := hO i hil
      refine ⟨a.block, a.off, ?_, hbl, hcc⟩
      obtain ⟨ab, ao, sp⟩ := a
      simp only at hsp
      rw [hsp]
    · intro o ho
      obtain ⟨i, hi, rfl⟩ := List.mem_map.1 ho
      exact (hO i (List.mem_range.1 hi)).1
end
set_option maxHeartbeats 1600000 in
/-- all of its places, in new memory -/
theorem tlb_Places_is (tb g : Nat) (xs : List Slot) (w : World) (h : IsTlb w 105 50 tb g xs) :
    Calls Tryd.prog 25 #[.pointer (some ⟨tb, 0, none⟩)] w fun e w' => e = .returned (.slice (some ⟨w.heap.size, 0, none⟩) xs.length xs.length) ∧ Blok w' w.heap.size 50 (rowCells xs) ∧ w'.heap.size = w.heap.size + 1 ∧ Below w.heap.size w w' := by
  have hl2 := h.le
  have htb := h.hd.lt
  have c0 : w.cell? ⟨tb, 0, none⟩ = some (.slice (some ⟨g, 0, none⟩) xs.length xs.length) := h.hd.cell 0
  have hmk := make_slots xs.length hl2 w
  have hW1 : (w.alloc (.cells (rowCells (newRow xs.length)).toArray 50)).heap[w.heap.size]? = some (.cells (rowCells (newRow xs.length)).toArray 50 (0, 0)) := heap_alloc_new w _
  have hsl := h.sl.alloc (.cells (rowCells (newRow xs.length)).toArray 50)
  have hcp : (Builtin.copy_ #[45, 45] 3 #[.slice (some ⟨w.heap.size, 0, none⟩) xs.length xs.length, .slice (some ⟨g, 0, none⟩) xs.length xs.length]).run Tryd.prog (w.alloc (.cells (rowCells (newRow xs.length)).toArray 50)) = .ok (goInt xs.length) (w.alloc (.cells (rowCells xs).toArray 50)) := by
    have hmin : xs.length.min xs.length = xs.length := Nat.min_self _
    have e1 := rowCells_len xs
    have e2 : (rowCells (newRow xs.length)).length = xs.length * 10 := by rw [rowCells_len]; simp [newRow]
    have := run_copy_rowN (P := Tryd.prog) (w.alloc (.cells (rowCells (newRow xs.length)).toArray 50)) 45 45 3 50 10 w.heap.size xs.length xs.length ⟨g, 0, none⟩ xs.length xs.length (rowCells (newRow xs.length)).toArray 50 (rowCells xs)
      Tryd.underlying45 (by kernel_rfl) hW1 (by rw [hmin]; exact e1) (fun j v hv => by
        have := hsl.cell j
        unfold Addr.add
        by_cases f : j = 0
        · subst f; simpa [hv] using this
        · simpa [f, hv] using this) (by simp; omega) (fun v hv => by
        obtain ⟨s, _, hs⟩ := List.mem_flatMap.1 hv
        simp only [slotCells, List.mem_cons, List.not_mem_nil, or_false] at hs
        rcases hs with rfl | rfl | rfl | rfl | rfl | rfl | rfl | rfl | rfl | rfl <;> rfl)
    rw [hmin, World.setRow_alloc_new] at this
    have e3 : (rowCells xs ++ (rowCells (newRow xs.length)).toArray.toList.drop (rowCells xs).length).toArray = (rowCells xs).toArray := by
      rw [List.drop_of_length_le (by simp; omega), List.append_nil]
    rw [e3] at this
    exact this
  clear hW1 hsl
  go_enter Tryd.func25, Tryd.ntmps25
  go_wp2
  go_ret
  exact ⟨rfl, Blok.new _ _ _, by simp, (Below.refl _ _).alloc (Nat.le_refl _) _⟩
end Go.Proofs.YtngcpcgioophcaaDoor
