/- Layer 20: what the law CpuAgain keeps: two processors, the first one over a line. -/
import Derived.Test.YtpfhplhamnohjaaG22
import Derived.Test.YtpfhplhamnohjaaG23
namespace Go.Proofs.Ytpfhplhamnohjaa
set_option maxHeartbeats 25600000
set_option maxRecDepth 100000
open Go.RowKit

set_option linter.unusedSimpArgs false
/-- as hwalk_one, of an operation that a guard lets in -/
theorem hwalk_if {P : Program} {ops : Array Oper} {Q : Exit → Act → World → Prop} {S : World → Prop} {n m k i : Nat} {oi : Oper} {listed : Array Bool} {a : Act} {w : World} (hi : ops[i]? = some oi) (hr : Region.ready .any ops listed = [i]) (hin : decide (i < n) = true) (hw : Region.wanted oi (yielded ops a.tmps) = true)
    (h : ∀ K : Act → World → Prop, (∀ a w, S w → HWalk P ops Q S n m k (listed.setIfInBounds i true) a w → K a w) → Oper.wp P oi a w K Q) : HWalk P ops Q S n m (k + 1) listed a w := by
  intro h1 h2 h3 hn inv
  have hin' : i < n := of_decide_eq_true hin
  have hr' : i ∈ Region.ready .any ops listed := by rw [hr]; simp
  refine ⟨by rw [hr]; simp, fun j hj => ?_⟩
  rw [hr] at hj
  obtain rfl : j = i := by simpa using hj
  refine ⟨hin', ?_⟩
  unfold wpOp
  simp only [hi]
  rw [if_pos hw]
  exact .inl (h _ (fun a' w' hS' hH => ⟨hS', hH h1 h2 h3 hn (inv.set hr' hin')⟩))
def wo (s : Sta) : Sta := set (set s 20 0) 25 0
theorem wo_eq {s s' : Sta} (h : EQ2 s s') : wo s' = wo s := by
  funext j
  unfold wo set
  split
  · rfl
  split
  · rfl
  · rename_i a b; exact (h j b a).symm
theorem without_is (s : Sta) (W : World) :
    Calls Try.prog 16 #[.agg (staCells s).toArray] W fun e w' => e = .returned (.agg (staCells (wo s)).toArray) ∧ Below W.heap.size W w' := by
  have hX := (Blok.new W 26 (staCells s)).alloc (.cells #[.int .u32 0, .int .u32 0, .int .u32 0, .int .u32 0, .int .u32 0, .int .u32 0, .int .u32 0, .int .u32 0, .int .u32 0, .int .u32 0, .int .u32 0, .int .u32 0, .int .u32 0, .int .u32 0, .int .u32 0, .int .u32 0, .int .u32 0, .int .u32 0, .int .u32 0, .int .u32 0, .int .u32 0, .int .u32 0, .int .u32 0, .int .u32 0, .int .u32 0, .int .u32 0, .int .u32 0, .int .u32 0, .int .u32 0, .int .u32 0] 26)
  have hZ : Blok ((W.alloc (.cells (staCells s).toArray 26)).alloc (.cells #[.int .u32 0, .int .u32 0, .int .u32 0, .int .u32 0, .int .u32 0, .int .u32 0, .int .u32 0, .int .u32 0, .int .u32 0, .int .u32 0, .int .u32 0, .int .u32 0, .int .u32 0, .int .u32 0, .int .u32 0, .int .u32 0, .int .u32 0, .int .u32 0, .int .u32 0, .int .u32 0, .int .u32 0, .int .u32 0, .int .u32 0, .int .u32 0, .int .u32 0, .int .u32 0, .int .u32 0, .int .u32 0, .int .u32 0, .int .u32 0] 26)) (W.heap.size + 1) 26 (staCells zSta) := by
    have z := Blok.new (W.alloc (.cells (staCells s).toArray 26)) 26 (staCells zSta)
    rw [show (W.alloc (.cells (staCells s).toArray 26)).heap.size = W.heap.size + 1 by simp] at z
    exact z
  have hB : Below W.heap.size W ((W.alloc (.cells (staCells s).toArray 26)).alloc (.cells #[.int .u32 0, .int .u32 0, .int .u32 0, .int .u32 0, .int .u32 0, .int .u32 0, .int .u32 0, .int .u32 0, .int .u32 0, .int .u32 0, .int .u32 0, .int .u32 0, .int .u32 0, .int .u32 0, .int .u32 0, .int .u32 0, .int .u32 0, .int .u32 0, .int .u32 0, .int .u32 0, .int .u32 0, .int .u32 0, .int .u32 0, .int .u32 0, .int .u32 0, .int .u32 0, .int .u32 0, .int .u32 0, .int .u32 0, .int .u32 0] 26)) := ((Below.refl _ _).alloc (Nat.le_refl _) _).alloc (by simp) _
  change Blok ((W.alloc (.cells (staCells s).toArray 26)).alloc (.cells #[.int .u32 0, .int .u32 0, .int .u32 0, .int .u32 0, .int .u32 0, .int .u32 0, .int .u32 0, .int .u32 0, .int .u32 0, .int .u32 0, .int .u32 0, .int .u32 0, .int .u32 0, .int .u32 0, .int .u32 0, .int .u32 0, .int .u32 0, .int .u32 0, .int .u32 0, .int .u32 0, .int .u32 0, .int .u32 0, .int .u32 0, .int .u32 0, .int .u32 0, .int .u32 0, .int .u32 0, .int .u32 0, .int .u32 0, .int .u32 0] 26)) _ _ _ at hX
  go_enter Try.func16, Try.ntmps16
  go_upto_region 1 with fail
  generalize (W.alloc (.cells (staCells s).toArray 26)).alloc (.cells #[.int .u32 0, .int .u32 0, .int .u32 0, .int .u32 0, .int .u32 0, .int .u32 0, .int .u32 0, .int .u32 0, .int .u32 0, .int .u32 0, .int .u32 0, .int .u32 0, .int .u32 0, .int .u32 0, .int .u32 0, .int .u32 0, .int .u32 0, .int .u32 0, .int .u32 0, .int .u32 0, .int .u32 0, .int .u32 0, .int .u32 0, .int .u32 0, .int .u32 0, .int .u32 0, .int .u32 0, .int .u32 0, .int .u32 0, .int .u32 0] 26) = W2 at hX hZ hB ⊢
  have c20 := sta_cell hX 20 (by omega)
  have f20 := hX.frozen 20
  go_upto_region 2 with fail
  have hX1 := hX.setsta 20 0
  have hZ1 := hZ.far (p := ⟨W.heap.size, 20, none⟩) (by simp) (.int .u32 0)
  have hB1 := bgrow hB (grown_one W2 W.heap.size 20 (.int .u32 0)) (Nat.le_refl _)
  clear c20 f20 hX hZ hB
  generalize W2.setCell ⟨W.heap.size, 20, none⟩ (.int .u32 0) = W3 at hX1 hZ1 hB1 ⊢
  have c25 := sta_cell hX1 25 (by omega)
  have f25 := hX1.frozen 25
  go_upto_region 3 with fail
  have hX2 := hX1.setsta 25 0
  have hZ2 := hZ1.far (p := ⟨W.heap.size, 25, none⟩) (by simp) (.int .u32 0)
  have hB2 := bgrow hB1 (grown_one W3 W.heap.size 25 (.int .u32 0)) (Nat.le_refl _)
  clear c25 f25 hX1 hZ1 hB1
  generalize W3.setCell ⟨W.heap.size, 25, none⟩ (.int .u32 0) = W4 at hX2 hZ2 hB2 ⊢
  have hR := hX2.range
  go_wp2_with (first | (refine wpList_load_sta rfl (.tmp 1) rfl W.heap.size (wo s) rfl hR ?_) | (refine wpList_store_sta rfl (.tmp 2) (.tmp 7) rfl (W.heap.size + 1) (wo s) zSta rfl rfl hZ2 ?_; intro w3 B3 g3))
  refine ret_sta 2 (W.heap.size + 1) (wo s) rfl rfl B3 rfl ⟨rfl, ?_⟩
  exact bgrow hB2 g3 (by omega)
theorem eql_fault (a b c : Int) (w : World) : (binOp .eql 36 (.agg #[.int .i64 a, .int .i64 b, .int .i64 c]) (.agg #[.int .i64 0, .int .i64 0, .int .i64 0])).run Try.prog w = .ok (.bool (a == 0 && (b == 0 && c == 0))) w := by
  simp [go_sem]
  by_cases x : a = 0 <;> by_cases y : b = 0 <;> by_cases z : c = 0 <;> simp [x, y, z]
theorem row_nil {α : Type} (f : α → List Value) (k : Nat) (e : TypeId) (w : World) : IsRow f k e w (.slice none 0 0) [] := by
  unfold IsRow World.ownsRow
  simp
structure Ag (w : World) (gc gd gl : Nat) (s sd : Sta) (m : LineM) (A : Nat → Prop) (wr : World) : Prop where
  c : Blok wr gc 85 (cpuCells s false)
  d : Blok wr gd 85 (cpuCells sd false)
  ne : gc ≠ gd
  lc : w.heap.size ≤ gc
  ld : w.heap.size ≤ gd
  ex : ∃ O : Nat → Prop, IsLine gl m O wr ∧ (∀ j, O j → j ≠ gc ∧ j ≠ gd ∧ w.heap.size ≤ j) ∧ ∀ j, A j → j < wr.heap.size ∧ j ≠ gc ∧ j ≠ gd ∧ ¬ O j
  bel : Below w.heap.size w wr
section
variable {w wr w' : World} {gc gd gl : Nat} {m : LineM} {s s' sd : Sta} {A B : Nat → Prop}
theorem Ag.keep (h : Ag w gc gd gl s sd m A wr) (b : Below wr.heap.size wr w') (hB : ∀ j, B j → A j ∨ (wr.heap.size ≤ j ∧ j < w'.heap.size)) : Ag w gc gd gl s sd m B w' := by
  obtain ⟨O, a, c, f⟩ := h.ex
  refine ⟨h.c.below b h.c.lt, h.d.below b h.d.lt, h.ne, h.lc, h.ld, ⟨O, a.keep (GrownS.ofBelow (S := fun _ => False) b) (fun _ _ q => q), c, fun j q => ?_⟩, bthen h.bel b⟩
  rcases hB j q with p | ⟨p, p2⟩
  · exact ⟨Nat.lt_of_lt_of_le (f j p).1 b.size, (f j p).2⟩
  · have h1 := h.c.lt
    have h2 := h.d.lt
    exact ⟨p2, by omega, by omega, fun o => by have := a.old j o; omega⟩
theorem Ag.wrote (h : Ag w gc gd gl s sd m A wr) (hb : Blok w' gc 85 (cpuCells s' false)) (g : wr.grownBy w' (some gc)) : Ag w gc gd gl s' sd m A w' := by
  obtain ⟨O, a, c, f⟩ := h.ex
  exact ⟨hb, h.d.grown g (fun e => h.ne (Option.some.inj e).symm), h.ne, h.lc, h.ld, ⟨O, a.keep (GrownS.ofOne (S := fun j => j = gc) g rfl) (fun j o q => (c j o).1 q), c, fun j q => ⟨Nat.lt_of_lt_of_le (f j q).1 (GrownS.ofOne (S := fun j => j = gc) g rfl).size, (f j q).2⟩⟩, bgrow h.bel g h.lc⟩
theorem Ag.step (h : Ag w gc gd gl s sd m A wr) (hs : OkS s) (hr : 17 ≤ m.room) :
    Calls Try.prog 13 #[.pointer (some ⟨gc, 0, none⟩), .iface 33 (.pointer (some ⟨gl, 0, none⟩))] wr fun e w' => e = .returned (tkV (stepO lineF m s false).2.2) ∧ Ag w gc gd gl (stepO lineF m s false).2.1 sd (stepO lineF m s false).1 A w' ∧ ∀ j, A j → w'.heap[j]? = wr.heap[j]? := by
  obtain ⟨O, a, c, f⟩ := h.ex
  refine (lineStep gl m O s false gc 85 hs wr h.c a (fun q => (c _ q).1 rfl) hr).mono ?_
  rintro e w1 ⟨rfl, hC, O', hI, gS, kS⟩
  have nd : ¬ (gd = gc ∨ O gd) := fun q => q.elim (fun e => h.ne e.symm) (fun o => (c _ o).2.1 rfl)
  have lz := h.bel.size
  have h1 := h.c.lt
  have h2 := h.d.lt
  refine ⟨rfl, ⟨hC, h.d.gs gS nd, h.ne, h.lc, h.ld, ⟨O', hI, fun j q => ?_, fun j q => ⟨Nat.lt_of_lt_of_le (f j q).1 gS.size, (f j q).2.1, (f j q).2.2.1, fun o => ?_⟩⟩, h.bel.trans (gS.bel lz (fun j o => o.elim (fun e => by have := h.lc; omega) (fun o => (c j o).2.2)))⟩, fun j q => gS.block j (f j q).1 (fun o => o.elim (f j q).2.1 (f j q).2.2.2)⟩
  · rcases kS j q with o | o
    · exact c j o
    · exact ⟨by omega, by omega, by omega⟩
  · rcases kS j o with p | p
    · exact (f j q).2.2.2 p
    · have := (f j q).1; omega
/-- the line's holes are forgotten -/
theorem Ag.free (h : Ag w gc gd gl s sd m A wr) : Ag w gc gd gl s sd { m with holes := [] } A (wr.setCell ⟨gl, 1, none⟩ (.slice none 0 0)) ∧ ∀ j, A j → (wr.setCell ⟨gl, 1, none⟩ (.slice none 0 0)).heap[j]? = wr.heap[j]? := by
  obtain ⟨O, a, c, f⟩ := h.ex
  obtain ⟨vp, vh, va, hb, h1, h2, h3, hO, n1, n2, n3, n4, n5⟩ := a.ex
  have og : O gl := (hO gl).2 (.inl rfl)
  have g := grown_one wr gl 1 (.slice none 0 0)
  have G : GrownS wr (wr.setCell ⟨gl, 1, none⟩ (.slice none 0 0)) (fun j => j = gl) := GrownS.ofOne g rfl
  have A' : IsLine gl { m with holes := [] } (fun j => j = gl ∨ vp.ownBlock = some j ∨ va.ownBlock = some j) (wr.setCell ⟨gl, 1, none⟩ (.slice none 0 0)) := by
    refine ⟨⟨a.ok.puts, fun h q => (by cases q), a.ok.cop, a.ok.asks, a.ok.putn⟩, vp, .slice none 0 0, va, ?_, ?_, row_nil _ _ _ _, ?_, fun j => ⟨?_, ?_⟩, n1, by simp [Value.ownBlock], n3, fun j q => ⟨by simp [Value.ownBlock], (n4 j q).2⟩, fun j q => by simp [Value.ownBlock] at q⟩
    · exact hb.set_ 1 (.slice none 0 0)
    · exact h1.same (fun j q => G.block j (h1.lt j q) (fun e => n1 (e ▸ q)))
    · exact h3.same (fun j q => G.block j (h3.lt j q) (fun e => n3 (e ▸ q)))
    · rintro (q | q | q)
      · exact .inl q
      · exact .inr (.inl q)
      · exact .inr (.inr (.inr q))
    · rintro (q | q | q | q)
      · exact .inl q
      · exact .inr (.inl q)
      · simp [Value.ownBlock] at q
      · exact .inr (.inr q)
  have sub : ∀ j, (j = gl ∨ vp.ownBlock = some j ∨ va.ownBlock = some j) → O j := fun j q => (hO j).2 (by rcases q with q | q | q; exact .inl q; exact .inr (.inl q); exact .inr (.inr (.inr q)))
  have nc : gc ≠ gl := fun e => (c _ og).1 e.symm
  have nd : gd ≠ gl := fun e => (c _ og).2.1 e.symm
  exact ⟨⟨h.c.gs G nc, h.d.gs G nd, h.ne, h.lc, h.ld, ⟨_, A', fun j q => c j (sub j q), fun j q => ⟨Nat.lt_of_lt_of_le (f j q).1 G.size, (f j q).2.1, (f j q).2.2.1, fun o => (f j q).2.2.2 (sub j o)⟩⟩, bgrow h.bel g ((c _ og).2.2)⟩, fun j q => G.block j (f j q).1 (fun e => (f j q).2.2.2 (e ▸ og))⟩
/-- a second line -/
theorem Ag.two {g2 : Nat} {mb : LineM} {O2 : Nat → Prop} (h : Ag w gc gd gl s sd m A wr) (b : Below wr.heap.size wr w') (hI : IsLine g2 mb O2 w') (nO : ∀ j, O2 j → wr.heap.size ≤ j) : Two w gc gd gl g2 m s mb sd A w' := by
  obtain ⟨O, a, c, f⟩ := h.ex
  have h1 := h.c.lt
  have h2 := h.d.lt
  have h3 := h.bel.size
  exact ⟨h.c.below b h1, h.d.below b h2, h.ne, h.lc, h.ld, ⟨O, O2, a.keep (GrownS.ofBelow (S := fun _ => False) b) (fun _ _ q => q), hI, fun j q => ⟨(c j q).1, (c j q).2.1, fun o => by have := nO j o; have := a.old j q; omega, (c j q).2.2⟩, fun j q => by have := nO j q; exact ⟨by omega, by omega, by omega⟩, fun j q => ⟨Nat.lt_of_lt_of_le (f j q).1 b.size, (f j q).2.1, (f j q).2.2.1, (f j q).2.2.2, fun o => by have := nO j o; have := (f j q).1; omega⟩⟩, bthen h.bel b⟩
theorem Two.wroteA {ga gb : Nat} {mc md : LineM} {sc : Sta} (h : Two w gc gd ga gb mc sc md sd A wr) {i : Nat} (g : wr.grownBy w' (some i)) (hi : A i) (hw : w.heap.size ≤ i) : Two w gc gd ga gb mc sc md sd A w' := by
  obtain ⟨O1, O2, a, b, c, d, f⟩ := h.ex
  have G : GrownS wr w' (fun j => j = i) := GrownS.ofOne g rfl
  have q := f i hi
  exact ⟨h.c.gs G (fun e => q.2.1 e.symm), h.d.gs G (fun e => q.2.2.1 e.symm), h.ne, h.lc, h.ld, ⟨O1, O2, a.keep G (fun j o e => q.2.2.2.1 (e ▸ o)), b.keep G (fun j o e => q.2.2.2.2 (e ▸ o)), c, d, fun j p => ⟨Nat.lt_of_lt_of_le (f j p).1 G.size, (f j p).2⟩⟩, bgrow h.bel g hw⟩
theorem wpList_store_tk {ops : Array Oper} {rest : List Oper} {op : Oper} {a : Act} {w : World} {Q : Exit → Act → World → Prop} (hgd : op.guard = none) (x y : Operand) (ho : op.op = .store 38 x y)
    (g : Nat) (J K : Tk) (hx : a.eval x = .pointer (some ⟨g, 0, none⟩)) (hy : a.eval y = .agg (tkCells J).toArray) (hb : Blok w g 38 (tkCells K))
    (h : ∀ w1, Blok w1 g 38 (tkCells J) → w.grownBy w1 (some g) → wpList Try.prog ops Q rest (a.put op.dst undef) w1) : wpList Try.prog ops Q (op :: rest) a w :=
  wpList_store_all hgd 38 x y ho g (tkCells J).toArray hx hy hb (by simp [tkCells_len]) (by rw [took_size]; simp [tkCells_len]) (tkCells_one J) (fun w1 b1 b2 _ => h w1 b1 b2)
end
end Go.Proofs.Ytpfhplhamnohjaa
