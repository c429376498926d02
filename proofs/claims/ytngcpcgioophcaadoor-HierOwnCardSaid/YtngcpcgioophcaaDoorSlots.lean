/- Rows of places in memory: a TLB behind a pointer is one cell, a slice over a block of ten cells a place. -/
import Derived.Test.YtngcpcgioophcaaDoorTlbT
import Derived.Deep.MidRow
namespace Go.Proofs.YtngcpcgioophcaaDoor
open Go.RowKit

def slotCells (s : Slot) : List Value := [.bool s.full, .int .i64 s.blk.asid, .int .i64 s.blk.size, .int .u32 s.blk.va, .int .u64 s.blk.pa, .int .i64 s.blk.dom, .int .i64 s.blk.ap, .int .u32 s.blk.bits, .bool s.blk.ng, .bool s.blk.xn]
def rowCells (xs : List Slot) : List Value := xs.flatMap slotCells
theorem slotCells_len (s : Slot) : (slotCells s).length = 10 := rfl
theorem rowCells_len (xs : List Slot) : (rowCells xs).length = xs.length * 10 := by
  induction xs with
  | nil => rfl
  | cons x xs ih => simp only [rowCells, List.flatMap_cons, List.length_append, List.length_cons, slotCells_len] at ih ⊢; omega
theorem rowCells_at (xs : List Slot) : ∀ (i j : Nat) (s : Slot), xs[i]? = some s → j < 10 → (rowCells xs)[i * 10 + j]? = (slotCells s)[j]? := by
  induction xs with
  | nil => intro i j s h; simp at h
  | cons x xs ih =>
    intro i j s h hj
    simp only [rowCells, List.flatMap_cons]
    cases i with
    | zero =>
      simp at h; subst h
      rw [List.getElem?_append_left (by rw [slotCells_len]; omega)]; simp
    | succ i =>
      rw [List.getElem?_append_right (by rw [slotCells_len]; omega), slotCells_len]
      have e : (i + 1) * 10 + j - 10 = i * 10 + j := by omega
      rw [e]
      exact ih i j s (by simpa using h) hj
theorem rowCells_set (xs : List Slot) : ∀ (i : Nat) (s : Slot), i < xs.length →
    rowCells (xs.set i s) = (rowCells xs).take (i * 10) ++ slotCells s ++ (rowCells xs).drop (i * 10 + 10) := by
  induction xs with
  | nil => intro i s h; simp at h
  | cons x xs ih =>
    intro i s h
    cases i with
    | zero => simp [rowCells, List.drop_append, slotCells_len, List.drop_of_length_le (show (slotCells x).length ≤ 10 by rw [slotCells_len]; omega)]
    | succ i =>
      have hi := ih i s (by simpa using h)
      simp only [rowCells, List.set_cons_succ, List.flatMap_cons] at hi ⊢
      have e1 : (i + 1) * 10 = 10 + i * 10 := by omega
      have e2 : (i + 1) * 10 + 10 = 10 + (i * 10 + 10) := by omega
      have t1 : (slotCells x).take (10 + i * 10) = slotCells x := List.take_of_length_le (by rw [slotCells_len]; omega)
      have t2 : (slotCells x).drop (10 + (i * 10 + 10)) = [] := List.drop_of_length_le (by rw [slotCells_len]; omega)
      have t3 : 10 + i * 10 - 10 = i * 10 := by omega
      have t4 : 10 + (i * 10 + 10) - 10 = i * 10 + 10 := by omega
      rw [e2, e1, hi, List.take_append, List.drop_append, slotCells_len, t1, t2, t3, t4]
      simp only [List.append_assoc, List.nil_append]
/-- a block that is known whole -/
def Blok (w : World) (g : Nat) (t : TypeId) (cs : List Value) : Prop := w.heap[g]? = some (.cells cs.toArray t (0, 0))
section
variable {w w' : World} {g : Nat} {t : TypeId} {cs : List Value}
theorem Blok.lt (h : Blok w g t cs) : g < w.heap.size := by
  rcases Nat.lt_or_ge g w.heap.size with hlt | hge
  · exact hlt
  · unfold Blok at h; rw [Array.getElem?_eq_none hge] at h; cases h
theorem Blok.cell (h : Blok w g t cs) (i : Nat) : w.cell? ⟨g, i, none⟩ = cs[i]? := by
  have := cell_of_row w g i cs.toArray t (0, 0) h
  simpa using this
theorem Blok.frozen (h : Blok w g t cs) (i : Nat) : w.frozen? ⟨g, i, none⟩ = false := by
  unfold Blok at h
  simp [World.frozen?, h]
theorem Blok.below {B : Nat} (h : Blok w g t cs) (hb : Below B w w') (hg : g < B) : Blok w' g t cs := (hb.block g hg).trans h
theorem Blok.grown {row : Option Nat} (h : Blok w g t cs) (hb : w.grownBy w' row) (hg : some g ≠ row) : Blok w' g t cs := (hb.block g h.lt hg).trans h
theorem Blok.drewN (h : Blok w g t cs) (n : Nat) : Blok (w.drewN n) g t cs := h
theorem Blok.alloc (h : Blok w g t cs) (o : Obj) : Blok (w.alloc o) g t cs := (Below.heap_alloc w o g h.lt).trans h
theorem Blok.set_ (h : Blok w g t cs) (i : Nat) (u : Value) : Blok (w.setCell ⟨g, i, none⟩ u) g t (cs.set i u) := by
  unfold Blok at h ⊢
  simp [World.setCell, Array.getElem?_modify, h]
theorem Blok.far (h : Blok w g t cs) {p : Addr} (hp : g ≠ p.block) (u : Value) : Blok (w.setCell p u) g t cs := (Below.heap_setCell w p u g hp).trans h
end
theorem Blok.setCells (vs : List Value) : ∀ {w : World} {g : Nat} {t : TypeId} {cs : List Value} (o : Nat), Blok w g t cs → o + vs.length ≤ cs.length → Blok (w.setCells g o vs) g t (cs.take o ++ vs ++ cs.drop (o + vs.length)) := by
  induction vs with
  | nil => intro w g t cs o h hl; simpa [World.setCells] using h
  | cons v vs ih =>
    intro w g t cs o h hl
    simp only [List.length_cons] at hl
    have h1 := ih (o + 1) (h.set_ o v) (by simp; omega)
    have e : (cs.set o v).take (o + 1) ++ vs ++ (cs.set o v).drop (o + 1 + vs.length) = cs.take o ++ (v :: vs) ++ cs.drop (o + (v :: vs).length) := by
      have hlt : o < cs.length := by omega
      rw [List.take_set, List.drop_set_of_lt (by omega), List.take_succ_eq_append_getElem hlt]
      have : (cs.take o ++ [cs[o]]).set o v = cs.take o ++ [v] := by
        rw [List.set_append_right _ _ (by simp; omega)]
        have : o - (cs.take o).length = 0 := by simp; omega
        rw [this]; rfl
      rw [this]
      simp only [List.append_assoc, List.cons_append, List.nil_append, List.length_cons]
      rw [Nat.add_assoc, Nat.add_comm 1 vs.length]
    rw [e] at h1
    exact h1
theorem grown_setCells (vs : List Value) : ∀ {w : World} {g : Nat} (o : Nat), w.grownBy (w.setCells g o vs) (some g) ∧ (w.setCells g o vs).heap.size = w.heap.size := by
  induction vs with
  | nil => intro w g o; exact ⟨World.grownBy.refl w _, rfl⟩
  | cons v vs ih =>
    intro w g o
    obtain ⟨h, hz⟩ := ih (w := w.setCell ⟨g, o, none⟩ v) (g := g) (o + 1)
    have hz0 : (w.setCell ⟨g, o, none⟩ v).heap.size = w.heap.size := by simp [World.setCell]
    refine ⟨⟨h.os, h.tape, h.output, Nat.le_trans (Nat.le_of_eq hz0.symm) h.size, fun i hi hne => ?_⟩, hz.trans hz0⟩
    exact (h.block i (by omega) hne).trans (Below.heap_setCell w _ v i (fun e => hne (by rw [e])))
/-- A STORE OF SEVERAL CELLS into the middle of a block that is known whole. -/
theorem wpList_store_blok {P : Program} {ops : Array Oper} {rest : List Oper} {op : Oper} {a : Act} {w : World} {Q : Exit → Act → World → Prop} (hgd : op.guard = none) (ty : TypeId) (x y : Operand) (ho : op.op = .store ty x y)
    (g o : Nat) (vs : Array Value) (hx : a.eval x = .pointer (some ⟨g, o, none⟩)) (hy : a.eval y = .agg vs) {t : TypeId} {cs : List Value} (hb : Blok w g t cs) (hl : o + vs.size ≤ cs.length)
    (hi : (P.info? ty).map (·.size) = some vs.size) (h1 : vs.toList.all (·.oneCell') = true)
    (h : ∀ w1, Blok w1 g t (cs.take o ++ vs.toList ++ cs.drop (o + vs.size)) → w.grownBy w1 (some g) → w1.heap.size = w.heap.size → wpList P ops Q rest (a.put op.dst undef) w1) : wpList P ops Q (op :: rest) a w := by
  refine wpList_store_mid hgd ty x y ho g o vs hx hy (fun j hj => ⟨?_, hb.frozen _⟩) hi (by rw [← Array.all_toList]; exact h1) ?_
  · rw [hb.cell, List.getElem?_eq_getElem (by omega)]; rfl
  · obtain ⟨h2, h3⟩ := grown_setCells (w := w) (g := g) vs.toList o
    exact h _ (by have := hb.setCells vs.toList o (by simpa using hl); simpa using this) h2 h3
/-- a TLB: its one cell at block tb, its places at block g -/
structure IsTlb (w : World) (tt st : TypeId) (tb g : Nat) (xs : List Slot) : Prop where
  hd : Blok w tb tt [.slice (some ⟨g, 0, none⟩) xs.length xs.length]
  sl : Blok w g st (rowCells xs)
  ne : tb ≠ g
  pos : 0 < xs.length
  le : xs.length ≤ 64
theorem IsTlb.cells {w : World} {tt st : TypeId} {tb g : Nat} {xs : List Slot} (h : IsTlb w tt st tb g xs) (i : Nat) (s : Slot) (hs : xs[i]? = some s) (j : Nat) (hj : j < 10) : w.cell? ⟨g, i * 10 + j, none⟩ = (slotCells s)[j]? := by
  rw [h.sl.cell, rowCells_at xs i j s hs hj]

set_option maxHeartbeats 1600000 in
theorem tlb_Evict_yes (tb g : Nat) (xs : List Slot) (i : Nat) (s : Slot) (hi : xs[i]? = some s) (w : World) (h : IsTlb w 105 50 tb g xs) :
    Calls Tryd.prog 61 #[.pointer (some ⟨tb, 0, none⟩), .int .i64 i] w fun e w' => e = .returned (.bool s.full) ∧ w.grownBy w' (some g) ∧ Blok w' g 50 (rowCells (xs.set i zslot)) := by
  have hl : i < xs.length := (List.getElem?_eq_some_iff.1 hi).1
  have hl2 := h.le
  have c0 : w.cell? ⟨tb, 0, none⟩ = some (.slice (some ⟨g, 0, none⟩) xs.length xs.length) := h.hd.cell 0
  have d0 : w.cell? ⟨g, i * 10, none⟩ = some (.bool s.full) := h.cells i s hi 0 (by omega)
  have hne := h.ne
  have hsl := h.sl
  have hlen := rowCells_len xs
  go_enter Tryd.func61, Tryd.ntmps61
  go_wp2_with (refine wpList_store_blok rfl _ (.tmp 31) (.tmp 30) rfl g (i * 10) #[.bool false, .int .i64 0, .int .i64 0, .int .u32 0, .int .u64 0, .int .i64 0, .int .i64 0, .int .u32 0, .bool false, .bool false] rfl rfl hsl ?hl (by kernel_rfl) rfl ?_; (case hl => simp; omega); intro w1 hb1 hg1 hz1)
  go_ret
  refine ⟨rfl, hg1, ?_⟩
  have e := rowCells_set xs i zslot hl
  unfold Blok at hb1 ⊢
  rw [e]
  exact hb1
end Go.Proofs.YtngcpcgioophcaaDoor
