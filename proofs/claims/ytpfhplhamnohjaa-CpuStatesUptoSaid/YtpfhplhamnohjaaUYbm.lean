/- Layer 20: what the law CpuStates keeps from round to round. -/
import Derived.Test.YtpfhplhamnohjaaG17
import Derived.Test.YtpfhplhamnohjaaUWam
import Derived.Test.YtpfhplhamnohjaaUYam
namespace Go.Proofs.Ytpfhplhamnohjaa
open Go.RowKit

set_option linter.unusedSimpArgs false
/-- as hwalk_one, of an operation that a guard lets in -/
theorem hwalk_on {P : Program} {ops : Array Oper} {Q : Exit → Act → World → Prop} {S : World → Prop} {n m k i : Nat} {oi : Oper} {listed : Array Bool} {a : Act} {w : World} (hi : ops[i]? = some oi) (hr : Region.ready .any ops listed = [i]) (hin : decide (i < n) = true) (hw : Region.wanted oi (yielded ops a.tmps) = true)
    (h : ∀ K : Act → World → Prop, (∀ a w, S w → HWalk P ops Q S n m k (listed.setIfInBounds i true) a w → K a w) → Oper.wp P oi a w K Q) : HWalk P ops Q S n m (k + 1) listed a w := by
  intro h1 h2 h3 hn inv
  have hin' : i < n := of_decide_eq_true hin
  have hr' : i ∈ Region.ready .any ops listed := by rw [hr]; simp
  refine ⟨by rw [hr]; simp, fun j hj => ?_⟩
  rw [hr] at hj
  obtain rfl : j = i := by simpa using hj
  refine ⟨hin', ?_⟩
  unfold wpOp
  simp only [hi]
  rw [if_pos hw]
  exact .inl (h _ (fun a' w' hS' hH => ⟨hS', hH h1 h2 h3 hn (inv.set hr' hin')⟩))
structure Op20 where
  kind : Int
  n : Int
  on : Bool
  v : Int
  st : Sta
def opC (o : Op20) : List Value := [.int .i64 o.kind, .int .i64 o.n, .bool o.on, .int .u32 o.v] ++ staCells o.st
theorem opC_len (o : Op20) : (opC o).length = 34 := rfl
theorem opC_one (o : Op20) : (opC o).toArray.toList.all (·.oneCell') = true := rfl
theorem op_size : (Try.prog.info? 79).map (·.size) = some 34 := by kernel_rfl
theorem opC_sta {w : World} {g : Nat} {t : TypeId} {o : Op20} (h : Blok w g t (opC o)) : w.rangeAt g 4 (staCells o.st) := fun j v hv => by
  rw [h.cell, opC, List.getElem?_append_right (by simp), ← hv]
  congr 1
  simp only [List.length_cons, List.length_nil]; omega
def zOp : Op20 := ⟨0, 0, false, 0, zSta⟩
theorem wpList_store_op {ops : Array Oper} {rest : List Oper} {op : Oper} {a : Act} {w : World} {Q : Exit → Act → World → Prop} (hgd : op.guard = none) (x y : Operand) (ho : op.op = .store 79 x y)
    (g : Nat) (J K : Op20) (hx : a.eval x = .pointer (some ⟨g, 0, none⟩)) (hy : a.eval y = .agg (opC J).toArray) (hb : Blok w g 79 (opC K))
    (h : ∀ w1, Blok w1 g 79 (opC J) → w.grownBy w1 (some g) → wpList Try.prog ops Q rest (a.put op.dst undef) w1) : wpList Try.prog ops Q (op :: rest) a w :=
  wpList_store_all hgd 79 x y ho g (opC J).toArray hx hy hb (by simp [opC_len]) (by rw [op_size]; simp [opC_len]) (opC_one J) (fun w1 b1 b2 _ => h w1 b1 b2)
/-- two processors and one line, which the first one works over -/
structure StI (w : World) (gc gd gl : Nat) (s sd : Sta) (on : Bool) (m : LineM) (wr : World) : Prop where
  c : Blok wr gc 85 (cpuCells s on)
  d : Blok wr gd 85 (cpuCells sd false)
  ne : gc ≠ gd
  lc : w.heap.size ≤ gc
  ld : w.heap.size ≤ gd
  ex : ∃ O : Nat → Prop, IsLine gl m O wr ∧ ∀ j, O j → j ≠ gc ∧ j ≠ gd ∧ w.heap.size ≤ j
  bel : Below w.heap.size w wr
section
variable {w wr w' : World} {gc gd gl : Nat} {m : LineM} {s s' sd sd' : Sta} {on on' : Bool}
theorem StI.keep (h : StI w gc gd gl s sd on m wr) (b : Below wr.heap.size wr w') : StI w gc gd gl s sd on m w' := by
  obtain ⟨O, a, c⟩ := h.ex
  exact ⟨h.c.below b h.c.lt, h.d.below b h.d.lt, h.ne, h.lc, h.ld, ⟨O, a.keep (GrownS.ofBelow (S := fun _ => False) b) (fun _ _ q => q), c⟩, bthen h.bel b⟩
theorem StI.wrote (h : StI w gc gd gl s sd on m wr) (hb : Blok w' gc 85 (cpuCells s' on')) (g : wr.grownBy w' (some gc)) : StI w gc gd gl s' sd on' m w' := by
  obtain ⟨O, a, c⟩ := h.ex
  exact ⟨hb, h.d.grown g (fun e => h.ne (Option.some.inj e).symm), h.ne, h.lc, h.ld, ⟨O, a.keep (GrownS.ofOne (S := fun j => j = gc) g rfl) (fun j o q => (c j o).1 q), c⟩, bgrow h.bel g h.lc⟩
theorem StI.wroteD (h : StI w gc gd gl s sd on m wr) (hb : Blok w' gd 85 (cpuCells sd' false)) (g : wr.grownBy w' (some gd)) : StI w gc gd gl s sd' on m w' := by
  obtain ⟨O, a, c⟩ := h.ex
  exact ⟨h.c.grown g (fun e => h.ne (Option.some.inj e)), hb, h.ne, h.lc, h.ld, ⟨O, a.keep (GrownS.ofOne (S := fun j => j = gd) g rfl) (fun j o q => (c j o).2.1 q), c⟩, bgrow h.bel g h.ld⟩
theorem StI.step (h : StI w gc gd gl s sd on m wr) (hs : OkS s) (hr : 17 ≤ m.room) :
    Calls Try.prog 13 #[.pointer (some ⟨gc, 0, none⟩), .iface 33 (.pointer (some ⟨gl, 0, none⟩))] wr fun e w' => (∃ v, e = .returned v) ∧ StI w gc gd gl (stepO lineF m s on).2.1 sd on (stepO lineF m s on).1 w' := by
  obtain ⟨O, a, c⟩ := h.ex
  refine (lineStep gl m O s on gc 85 hs wr h.c a (fun q => (c _ q).1 rfl) hr).mono ?_
  rintro e w1 ⟨rfl, hC, O', hI, gS, kS⟩
  have nd : ¬ (gd = gc ∨ O gd) := fun q => q.elim (fun e => h.ne e.symm) (fun o => (c _ o).2.1 rfl)
  have lz := h.bel.size
  have h1 := h.c.lt
  have h2 := h.d.lt
  refine ⟨⟨_, rfl⟩, ⟨hC, h.d.gs gS nd, h.ne, h.lc, h.ld, ⟨O', hI, fun j q => ?_⟩, h.bel.trans (gS.bel lz (fun j o => o.elim (fun e => by have := h.lc; omega) (fun o => (c j o).2.2)))⟩⟩
  rcases kS j q with o | o
  · exact c j o
  · exact ⟨by omega, by omega, by omega⟩
end
theorem okS_setV {s : Sta} (h : OkS s) (n v : Int) (hv : 0 ≤ v ∧ v < 4294967296) : OkS (setV s n v) := by
  unfold setV
  split
  · refine okS_set h _ ?_
    split
    · exact bits32 _ _ _
    · exact hv
  · exact h
theorem il_ret {s : Sta} (h : IL s) (v : Int) : IL (retV s v).1 := by
  unfold retV
  split
  · rename_i q; exact il_back h q _
  · exact h
end Go.Proofs.Ytpfhplhamnohjaa
