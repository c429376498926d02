/- Words on memory: a block that is known whole, what a call has written. No program is in sight here. -/
import Derived.Test.YtakihcdolpocjaaChecked
import Derived.Test.YtakihcdolpocjaaCPlain
import Derived.WalkKit
import Derived.WalkSpells
import Derived.Deep.QuietTactic
import Derived.BigQuiet
import Derived.Deep.RegionHeld3
import Derived.Deep.MidRow
import Derived.Deep.DeepCutAuto
import Derived.Deep.CutBlock
import Derived.StillTailTactics
import Derived.Laws.EntriesVeiled
import Derived.Laws.StructEq
import Derived.Outline
import Derived.Lib.Hide
namespace Go.Proofs.Ytakihcdolpocjaa
open Go.RowKit

theorem bcell {W w1 : World} (hb : Below W.heap.size W w1) : (∀ b o, b < W.heap.size → w1.cell? ⟨b, o, none⟩ = W.cell? ⟨b, o, none⟩) ∧ (∀ b o, b < W.heap.size → w1.frozen? ⟨b, o, none⟩ = W.frozen? ⟨b, o, none⟩) :=
  ⟨fun b o h => hb.cell (p := ⟨b, o, none⟩) h, fun b o h => hb.frozen (p := ⟨b, o, none⟩) h⟩
theorem bdrewN {B : Nat} {w W : World} (h : Below B w W) (n : Nat) : Below B w (W.drewN n) := ⟨h.os, h.tape, h.output, h.size, h.block⟩
theorem bdrew {B : Nat} {w W : World} (h : Below B w W) : Below B w W.drew := ⟨h.os, h.tape, h.output, h.size, h.block⟩
theorem bnext {B : Nat} {W w' w1 : World} (h : Below B W w') (k : Below w'.heap.size w' w1) (hB : B ≤ W.heap.size) : Below B W w1 :=
  h.trans ⟨k.os, k.tape, k.output, k.size, fun i hi => k.block i (Nat.lt_of_lt_of_le hi (Nat.le_trans hB h.size))⟩
theorem bbox {w w1 : World} {o : Obj} (k : Below (w.heap.size + 1) (w.alloc o) w1) : Below w.heap.size w w1 :=
  ((Below.refl w.heap.size w).alloc (Nat.le_refl _) o).trans (k.mono (by omega))
/-- a block that is known whole -/
def Blok (w : World) (g : Nat) (t : TypeId) (cs : List Value) : Prop := w.heap[g]? = some (.cells cs.toArray t (0, 0))
section
variable {w w' : World} {g : Nat} {t : TypeId} {cs : List Value}
theorem Blok.lt (h : Blok w g t cs) : g < w.heap.size := by
  rcases Nat.lt_or_ge g w.heap.size with hlt | hge
  · exact hlt
  · unfold Blok at h; rw [Array.getElem?_eq_none hge] at h; cases h
theorem Blok.cell (h : Blok w g t cs) (i : Nat) : w.cell? ⟨g, i, none⟩ = cs[i]? := by
  have := cell_of_row w g i cs.toArray t (0, 0) h
  simpa using this
theorem Blok.frozen (h : Blok w g t cs) (i : Nat) : w.frozen? ⟨g, i, none⟩ = false := by
  unfold Blok at h
  simp [World.frozen?, h]
theorem Blok.below {B : Nat} (h : Blok w g t cs) (hb : Below B w w') (hg : g < B) : Blok w' g t cs := (hb.block g hg).trans h
theorem Blok.grown {row : Option Nat} (h : Blok w g t cs) (hb : w.grownBy w' row) (hg : some g ≠ row) : Blok w' g t cs := (hb.block g h.lt hg).trans h
theorem Blok.drewN (h : Blok w g t cs) (n : Nat) : Blok (w.drewN n) g t cs := h
theorem Blok.alloc (h : Blok w g t cs) (o : Obj) : Blok (w.alloc o) g t cs := (Below.heap_alloc w o g h.lt).trans h
theorem Blok.set_ (h : Blok w g t cs) (i : Nat) (u : Value) : Blok (w.setCell ⟨g, i, none⟩ u) g t (cs.set i u) := by
  unfold Blok at h ⊢
  simp [World.setCell, Array.getElem?_modify, h]
theorem Blok.far (h : Blok w g t cs) {p : Addr} (hp : g ≠ p.block) (u : Value) : Blok (w.setCell p u) g t cs := (Below.heap_setCell w p u g hp).trans h
end
theorem Blok.setCells (vs : List Value) : ∀ {w : World} {g : Nat} {t : TypeId} {cs : List Value} (o : Nat), Blok w g t cs → o + vs.length ≤ cs.length → Blok (w.setCells g o vs) g t (cs.take o ++ vs ++ cs.drop (o + vs.length)) := by
  induction vs with
  | nil => intro w g t cs o h hl; simpa [World.setCells] using h
  | cons v vs ih =>
    intro w g t cs o h hl
    simp only [List.length_cons] at hl
    have h1 := ih (o + 1) (h.set_ o v) (by simp; omega)
    have e : (cs.set o v).take (o + 1) ++ vs ++ (cs.set o v).drop (o + 1 + vs.length) = cs.take o ++ (v :: vs) ++ cs.drop (o + (v :: vs).length) := by
      have hlt : o < cs.length := by omega
      rw [List.take_set, List.drop_set_of_lt (by omega), List.take_succ_eq_append_getElem hlt]
      have : (cs.take o ++ [cs[o]]).set o v = cs.take o ++ [v] := by
        rw [List.set_append_right _ _ (by simp; omega)]
        have : o - (cs.take o).length = 0 := by simp; omega
        rw [this]; rfl
      rw [this]
      simp only [List.append_assoc, List.cons_append, List.nil_append, List.length_cons]
      rw [Nat.add_assoc, Nat.add_comm 1 vs.length]
    rw [e] at h1
    exact h1
theorem grown_setCells (vs : List Value) : ∀ {w : World} {g : Nat} (o : Nat), w.grownBy (w.setCells g o vs) (some g) ∧ (w.setCells g o vs).heap.size = w.heap.size := by
  induction vs with
  | nil => intro w g o; exact ⟨World.grownBy.refl w _, rfl⟩
  | cons v vs ih =>
    intro w g o
    obtain ⟨h, hz⟩ := ih (w := w.setCell ⟨g, o, none⟩ v) (g := g) (o + 1)
    have hz0 : (w.setCell ⟨g, o, none⟩ v).heap.size = w.heap.size := by simp [World.setCell]
    refine ⟨⟨h.os, h.tape, h.output, Nat.le_trans (Nat.le_of_eq hz0.symm) h.size, fun i hi hne => ?_⟩, hz.trans hz0⟩
    exact (h.block i (by omega) hne).trans (Below.heap_setCell w _ v i (fun e => hne (by rw [e])))
/-- A STORE OF SEVERAL CELLS into the middle of a block that is known whole. -/
theorem wpList_store_blok {P : Program} {ops : Array Oper} {rest : List Oper} {op : Oper} {a : Act} {w : World} {Q : Exit → Act → World → Prop} (hgd : op.guard = none) (ty : TypeId) (x y : Operand) (ho : op.op = .store ty x y)
    (g o : Nat) (vs : Array Value) (hx : a.eval x = .pointer (some ⟨g, o, none⟩)) (hy : a.eval y = .agg vs) {t : TypeId} {cs : List Value} (hb : Blok w g t cs) (hl : o + vs.size ≤ cs.length)
    (hi : (P.info? ty).map (·.size) = some vs.size) (h1 : vs.toList.all (·.oneCell') = true)
    (h : ∀ w1, Blok w1 g t (cs.take o ++ vs.toList ++ cs.drop (o + vs.size)) → w.grownBy w1 (some g) → w1.heap.size = w.heap.size → wpList P ops Q rest (a.put op.dst undef) w1) : wpList P ops Q (op :: rest) a w := by
  refine wpList_store_mid hgd ty x y ho g o vs hx hy (fun j hj => ⟨?_, hb.frozen _⟩) hi (by rw [← Array.all_toList]; exact h1) ?_
  · rw [hb.cell, List.getElem?_eq_getElem (by omega)]; rfl
  · obtain ⟨h2, h3⟩ := grown_setCells (w := w) (g := g) vs.toList o
    exact h _ (by have := hb.setCells vs.toList o (by simpa using hl); simpa using this) h2 h3
/-- grown, and only old blocks of S written -/
structure GrownS (w w' : World) (S : Nat → Prop) : Prop where
  os : w'.os = w.os
  tape : w'.tape = w.tape
  output : w'.output = w.output
  size : w.heap.size ≤ w'.heap.size
  block : ∀ i, i < w.heap.size → ¬ S i → w'.heap[i]? = w.heap[i]?
section
variable {w w' w1 : World} {S : Nat → Prop}
theorem GrownS.refl (w : World) (S : Nat → Prop) : GrownS w w S := ⟨rfl, rfl, rfl, Nat.le_refl _, fun _ _ _ => rfl⟩
theorem GrownS.drew (w : World) (S : Nat → Prop) : GrownS w w.drew S := ⟨rfl, rfl, rfl, Nat.le_refl _, fun _ _ _ => rfl⟩
theorem GrownS.drewN (w : World) (S : Nat → Prop) (n : Nat) : GrownS w (w.drewN n) S := ⟨rfl, rfl, rfl, Nat.le_refl _, fun _ _ _ => rfl⟩
theorem GrownS.trans (h : GrownS w w' S) (k : GrownS w' w1 S) : GrownS w w1 S :=
  ⟨k.os.trans h.os, k.tape.trans h.tape, k.output.trans h.output, Nat.le_trans h.size k.size, fun i hi hn => (k.block i (Nat.lt_of_lt_of_le hi h.size) hn).trans (h.block i hi hn)⟩
theorem GrownS.ofBelow (k : Below w.heap.size w w') : GrownS w w' S := ⟨k.os, k.tape, k.output, k.size, fun i hi _ => k.block i hi⟩
theorem GrownS.below (h : GrownS w w' S) (k : Below w'.heap.size w' w1) : GrownS w w1 S := h.trans (GrownS.ofBelow k)
theorem GrownS.alloc (h : GrownS w w' S) (o : Obj) : GrownS w (w'.alloc o) S := h.below ((Below.refl _ _).alloc (Nat.le_refl _) o)
theorem GrownS.ofOne {g : Nat} (k : w.grownBy w' (some g)) (hg : S g) : GrownS w w' S := ⟨k.os, k.tape, k.output, k.size, fun i hi hn => k.block i hi (fun e => hn (by have := Option.some.inj e; rw [this]; exact hg))⟩
theorem GrownS.one {g : Nat} (h : GrownS w w' S) (k : w'.grownBy w1 (some g)) (hg : S g) : GrownS w w1 S := h.trans (GrownS.ofOne k hg)
/-- a write into a new block -/
theorem GrownS.new {g : Nat} (h : GrownS w w' S) (k : w'.grownBy w1 (some g)) (hg : w.heap.size ≤ g) : GrownS w w1 S :=
  ⟨k.os.trans h.os, k.tape.trans h.tape, k.output.trans h.output, Nat.le_trans h.size k.size, fun i hi hn => (k.block i (Nat.lt_of_lt_of_le hi h.size) (fun e => by have := Option.some.inj e; omega)).trans (h.block i hi hn)⟩
theorem GrownS.bel {B : Nat} (h : GrownS w w' S) (hB : B ≤ w.heap.size) (hS : ∀ i, S i → B ≤ i) : Below B w w' :=
  ⟨h.os, h.tape, h.output, h.size, fun i hi => h.block i (Nat.lt_of_lt_of_le hi hB) (fun hs => by have := hS i hs; omega)⟩
theorem GrownS.cell (h : GrownS w w' S) {b o : Nat} (hb : b < w.heap.size) (hn : ¬ S b) : w'.cell? ⟨b, o, none⟩ = w.cell? ⟨b, o, none⟩ := World.cell?_of_block (h.block b hb hn)
theorem GrownS.unbox {o : Obj} (k : GrownS (w.alloc o) w1 S) : GrownS w w1 S :=
  ⟨k.os, k.tape, k.output, Nat.le_trans (by simp) k.size, fun i hi hn => (k.block i (by simp; omega) hn).trans (Below.heap_alloc w o i hi)⟩
theorem Blok.gs {g : Nat} {t : TypeId} {cs : List Value} (h : Blok w g t cs) (hb : GrownS w w' S) (hg : ¬ S g) : Blok w' g t cs := (hb.block g h.lt hg).trans h
end
theorem gnext {W w' w1 : World} {r : Option Nat} (h : W.grownBy w' r) (k : Below w'.heap.size w' w1) : W.grownBy w1 r :=
  ⟨k.os.trans h.os, k.tape.trans h.tape, k.output.trans h.output, Nat.le_trans h.size k.size, fun i hi hne => (k.block i (Nat.lt_of_lt_of_le hi h.size)).trans (h.block i hi hne)⟩
theorem gtrans {W w' w1 : World} {r : Option Nat} (h : W.grownBy w' r) (k : w'.grownBy w1 r) : W.grownBy w1 r :=
  ⟨k.os.trans h.os, k.tape.trans h.tape, k.output.trans h.output, Nat.le_trans h.size k.size, fun i hi hne => (k.block i (Nat.lt_of_lt_of_le hi h.size) hne).trans (h.block i hi hne)⟩
theorem galloc {W w' : World} {r : Option Nat} (h : W.grownBy w' r) (o : Obj) : W.grownBy (w'.alloc o) r := gnext h ((Below.refl _ _).alloc (Nat.le_refl _) _)
theorem gcell {W w' : World} {r : Option Nat} (h : W.grownBy w' r) {b o : Nat} (hb : b < W.heap.size) (hr : r ≠ some b) : w'.cell? ⟨b, o, none⟩ = W.cell? ⟨b, o, none⟩ :=
  World.cell?_of_block (h.block b hb (fun e => hr e.symm))
theorem bthen {w w' w1 : World} (h : Below w.heap.size w w') (k : Below w'.heap.size w' w1) : Below w.heap.size w w1 := bnext h k (Nat.le_refl _)
theorem Blok.new (w : World) (t : TypeId) (cs : List Value) : Blok (w.alloc (.cells cs.toArray t)) w.heap.size t cs := heap_alloc_new w _
theorem grown_then {w wr w1 : World} {row : Option Nat} (h : Below w.heap.size w wr) (k : wr.grownBy w1 row) : w.grownBy w1 row :=
  ⟨k.os.trans h.os, k.tape.trans h.tape, k.output.trans h.output, Nat.le_trans h.size k.size, fun i hi hne => (k.block i (Nat.lt_of_lt_of_le hi h.size) hne).trans (h.block i hi)⟩
theorem grown_of {w wr : World} (h : Below w.heap.size w wr) (row : Option Nat) : w.grownBy wr row := grown_then h (World.grownBy.refl _ _)
theorem wp_region_tail {P : Program} {id : Nat} {Q : Exit → Act → World → Prop} {a : Act} {w : World} {l : List Oper} (n : Nat) (hm : P.follows .mixedOrders = true) (hB : Region.lexTailB .any l.toArray n = true)
    (h : wpStill P l.toArray w.drew (fun a' => wpList P l.toArray Q (l.drop n) a' w.drew) (l.take n) a) : (Code.region id l.toArray true).wp P Q a w := wp_region_still_tail n hm hB h
end Go.Proofs.Ytakihcdolpocjaa
