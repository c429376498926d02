/- A store that fills a whole block; what has grown in the newest block alone. -/
import Derived.Test.YtngcpcgioophcaaDoorTlbS
namespace Go.Proofs.YtngcpcgioophcaaDoor
open Go.RowKit
theorem wpList_store_all {P : Program} {ops : Array Oper} {rest : List Oper} {op : Oper} {a : Act} {w : World} {Q : Exit → Act → World → Prop} (hgd : op.guard = none) (ty : TypeId) (x y : Operand) (ho : op.op = .store ty x y)
    (g : Nat) (vs : Array Value) (hx : a.eval x = .pointer (some ⟨g, 0, none⟩)) (hy : a.eval y = .agg vs) {t : TypeId} {cs : List Value} (hb : Blok w g t cs) (hl : vs.size = cs.length)
    (hi : (P.info? ty).map (·.size) = some vs.size) (h1 : vs.toList.all (·.oneCell') = true)
    (h : ∀ w1, Blok w1 g t vs.toList → w.grownBy w1 (some g) → w1.heap.size = w.heap.size → wpList P ops Q rest (a.put op.dst undef) w1) : wpList P ops Q (op :: rest) a w :=
  wpList_store_blok hgd ty x y ho g 0 vs hx hy hb (by omega) hi h1 (fun w1 b1 b2 b3 => h w1 (by simpa [hl] using b1) b2 b3)
theorem below_new {w w' : World} {o : Obj} (g : (w.alloc o).grownBy w' (some w.heap.size)) : Below w.heap.size w w' :=
  ⟨g.os, g.tape, g.output, Nat.le_trans (by simp) g.size, fun i hi => (g.block i (by simp; omega) (fun e => by have := Option.some.inj e; omega)).trans (Below.heap_alloc w o i hi)⟩
end Go.Proofs.YtngcpcgioophcaaDoor
