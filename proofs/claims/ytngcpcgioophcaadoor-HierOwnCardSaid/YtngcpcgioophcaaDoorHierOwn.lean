/- How an argument that is a slice of flat elements reads: each element's cells lie one behind the other; blocks, ints. HierOwn: an append that tells where the new list of lists lies; lists that are held, the first of which are marked; the code's parts. The loops of HierOwn, one by one. The loops of HierOwn that fill the lists, hold them against the document's, and mark them. The walk of HierOwn; how its script reads, with its length for the reach. For all sizes and every script the law HierOwn answers true, and its arguments read as they did. -/
import Derived.Test.YtngcpcgioophcaaDoorRead
import Derived.SizedLaws
import Derived.Test.YtngcpcgioophcaaDoorPlay11
import Derived.Deep.AppendLies
import Derived.Deep.DeepAppendWide
import Derived.Deep.DeepCutAuto
import Derived.Deep.CutBlock
import Derived.Deep.RegionHeld3
import Derived.IntWalk
import Derived.Test.YtngcpcgioophcaaDoorTie
import Derived.Deep.DeepHandedRow
import Derived.ChangeOld
import Derived.Below
namespace Go.Proofs.YtngcpcgioophcaaDoor
open Go.ChangeShapes Go.WideShapes Go.RowKit Go.Deep Flat

theorem choose_lt2 {α : Type} [Inhabited α] {n : Nat} {p : Nat → α → Prop} (h : ∀ i, i < n → ∃ o, p i o) : ∃ O : Nat → α, ∀ i, i < n → p i (O i) := by
  classical
  exact ⟨fun i => if hi : i < n then Classical.choose (h i hi) else default, fun i hi => by dsimp only; rw [dif_pos hi]; exact Classical.choose_spec (h i hi)⟩
section
set_option maxRecDepth 100000
variable {H : Type} {enc : TypeId × Value → H} {W : World} {spare : Nat → Bool} {held : Bool} {r : Reach} {b0 : Nat} {v : Value} {d : DataW H} {p : List MemPlace}
theorem open_rows {t e : TypeId} {K : List (Option IntKind)} (hu : Tryd.prog.underlying t = some (.slice e)) (hfl : flatT Tryd.prog 5 e = some K) (hC : Tryd.prog.cellsOf e = K.length) (hp : 0 < K.length)
    (hv : Value.okWide Tryd.prog W r b0 t v) (h : DataW.Trod enc Tryd.prog W 0 spare held t v d p) :
    ∃ (q : Option Addr) (len cap : Nat) (R : Nat → List Value), v = .slice q len cap ∧ len ≤ maxLen ∧ (len = 0 ∨ ∃ es sp, d = .slice es sp ∧ es.length = len) ∧
      ∀ i, i < len → fitsAll K (R i) ∧ ∃ g k0, q = some ⟨g, k0, none⟩ ∧ g < W.heap.size ∧ ∀ j u, (R i)[j]? = some u → W.cell? ⟨g, k0 + i * K.length + j, none⟩ = some u := by
  obtain ⟨q, len, cap, rfl⟩ := okWide_slice hu hv
  obtain ⟨fuel, hf⟩ := h
  rcases open_slice hu hf with ⟨hc, _⟩ | ⟨a, len', cap', m, n, D, Pl, hc, hb, hl, hm, hmm, hx, hall⟩
  · simp only [Value.cells, List.cons.injEq, Value.slice.injEq, and_true] at hc
    obtain ⟨rfl, rfl, rfl⟩ := hc
    exact ⟨none, 0, 0, fun _ => [], rfl, Nat.zero_le _, .inl rfl, fun i hi => by omega⟩
  · simp only [Value.cells, List.cons.injEq, Value.slice.injEq, and_true] at hc
    obtain ⟨rfl, rfl, rfl⟩ := hc
    have hlm : len ≤ m := by rw [hmm]; split <;> omega
    have hd : ∃ es sp, d = .slice es sp ∧ es.length = len := by
      obtain ⟨rfl, _⟩ := Prod.mk.inj hx
      exact ⟨_, _, rfl, by simp⟩
    by_cases h0 : len = 0
    · subst h0
      exact ⟨some a, 0, cap, fun _ => [], rfl, Nat.zero_le _, .inl rfl, fun i hi => by omega⟩
    have first : ∃ u, W.cell? a = some u := by
      obtain ⟨cs0, g1, g2⟩ := hall 0 (by omega)
      rw [hC] at g1
      obtain ⟨_, hlen0, hcell0⟩ := World.cells?_some g1
      have hq := hcell0 0 hp
      simp only [Nat.zero_mul, Addr.add, if_pos] at hq
      rw [List.getElem?_eq_getElem (by rw [hlen0]; exact hp)] at hq
      exact ⟨_, hq⟩
    have hsp : a.spot = none := by
      obtain ⟨u, hu'⟩ := first
      unfold World.cell? at hu'
      split at hu'
      · split at hu'
        · cases hu'
        · rename_i hh; simpa using hh
      · cases hu'
    obtain ⟨ab, ao, sp⟩ := a
    simp only at hsp
    subst hsp
    have hbl : ab < W.heap.size := by
      obtain ⟨u, hu'⟩ := first
      have := World.block_lt_of_cell? W _ hu'
      exact this
    have hadd : ∀ i j, ((⟨ab, ao, none⟩ : Addr).add (i * K.length)).add j = ⟨ab, ao + i * K.length + j, none⟩ := by
      intro i j
      unfold Addr.add
      by_cases e : i * K.length = 0 <;> by_cases f : j = 0 <;> simp [e, f]
    have each : ∀ i, i < len → ∃ R : List Value, fitsAll K R ∧ ∀ j u, R[j]? = some u → W.cell? ⟨ab, ao + i * K.length + j, none⟩ = some u := by
      intro i hi
      obtain ⟨cs', h1, h2⟩ := hall i (by omega)
      rw [hC] at h1
      obtain ⟨_, hlen, hcell⟩ := World.cells?_some h1
      refine ⟨cs', flatT_fits (P := Tryd.prog) 5 n e K _ _ hfl h2 hC, fun j u hj => ?_⟩
      have hjl : j < K.length := by have := (List.getElem?_eq_some_iff.1 hj).1; omega
      rw [← hadd]
      exact (hcell j hjl).trans hj
    obtain ⟨R, hR⟩ := choose_lt2 each
    exact ⟨some ⟨ab, ao, none⟩, len, cap, R, rfl, by omega, .inr hd, fun i hi => ⟨(hR i hi).1, ab, ao, rfl, hbl, (hR i hi).2⟩⟩
end
end Go.Proofs.YtngcpcgioophcaaDoor

namespace Go.Proofs.YtngcpcgioophcaaDoor
open Go.RowKit

/-- append of one element of one cell onto a row that is owned: the wide bound, and where the new row lies -/
theorem run_append_hold {P : Program} (w : World) (N : Nat) (t ty e : TypeId) (i : TypeInfo) (z : Value) (bytes : Nat) (ht : P.underlying t = some (.slice e)) (hi : P.info? e = some i) (hz : i.zero = some z)
    (hsize : i.size = 1) (hby : i.bytes = bytes) (hzs : z.cells.size = 1) (v : Value) (n : Nat) (xs : List Value) (hown : w.ownsRow N e 1 v n xs)
    (ad : Addr) (u : Value) (hnews : ∀ j y, [u][j]? = some y → w.cell? (ad.add j) = some y) (h1 : ∀ y ∈ [u], y.oneCell' = true)
    (h63 : n + 1 ≤ maxLen) (hbytes : ((n + 1) + (n + 1) / 4 + 192) * bytes ≤ 281474976710656) (hbase : N ≤ w.heap.size) :
    ∃ g cap w', (Builtin.append_ #[t, t] ty #[v, .slice (some ad) 1 1]).run P w = .ok (.slice (some ⟨g, 0, none⟩) (n + 1) cap) w' ∧ w'.ownsRow N e 1 (.slice (some ⟨g, 0, none⟩) (n + 1) cap) (n + 1) (xs ++ [u]) ∧ w.grownBy w' v.ownBlock ∧ (v.ownBlock = some g ∨ g = w.heap.size) ∧ g < w'.heap.size := by
  obtain ⟨v', w', hr, h2, h3, _⟩ := run_append_own_wide (P := P) w N t ty e i z 1 bytes ht hi hz hsize hby hzs (by omega) v n xs hown ad 1 1 [u] rfl hnews h1 h63 hbytes hbase
  obtain ⟨g, cap, rfl, _, hlt⟩ := h2.form (by omega)
  refine ⟨g, cap, w', hr, h2, h3, ?_, hlt⟩
  have hm63 : ((n + 1 : Nat) : Int) ≤ 9223372036854775807 := by unfold maxLen at h63; omega
  subst hby
  rcases hown.2 with ⟨rfl, rfl⟩ | ⟨g0, cap0, cur, rfl, _, hg, hnc, hcm, hcs, htake⟩
  · have hq := run_append_nil (P := P) w t ty e i z ht hi hz ad 1 1 [u] (by rw [hsize]; rfl) hnews (by omega) (by omega) (by have : (0 + 1 + (0 + 1) / 4 + 192) * i.bytes ≤ 281474976710656 := hbytes; omega)
    rw [hr] at hq
    simp only [Result.ok.injEq, Value.slice.injEq, Option.some.injEq, Addr.mk.injEq] at hq
    exact .inr hq.1.1.1
  · by_cases hroom : n + 1 ≤ cap0
    · have hq := run_append_room (P := P) w t ty e i ht hi g0 n cap0 cur hg ad 1 1 [u] (by rw [hsize]; rfl) hnews h1 hroom (by rw [hsize, hcs]; simp; omega)
      rw [hr] at hq
      simp only [Result.ok.injEq, Value.slice.injEq, Option.some.injEq, Addr.mk.injEq] at hq
      exact .inl (by simp [Value.ownBlock, hq.1.1.1])
    · have hq := run_append_grow (P := P) w t ty e i z ht hi hz ⟨g0, 0, none⟩ n cap0 xs (by rw [hsize]; exact hown.1) (hown.cells (g := g0) rfl) ad 1 1 [u] (by rw [hsize]; rfl) hnews (by omega) hm63 (growslice_fits_wide (by omega) hbytes)
      rw [hr] at hq
      simp only [Result.ok.injEq, Value.slice.injEq, Option.some.injEq, Addr.mk.injEq] at hq
      exact .inr hq.1.1.1
theorem wpList_append_hold {P : Program} {w : World} {ops : Array Oper} {rest : List Oper} {o : Oper} {a : Act} {Q : Exit → Act → World → Prop} (hgd : o.guard = none) (s x : Operand) (t : TypeId)
    (ho : o.op = .call { callee := .builtin .append, args := #[s, x], argTypes := #[t, t] }) (N : Nat) (e : TypeId) (i : TypeInfo) (z : Value) (bytes : Nat) (ht : P.underlying t = some (.slice e)) (hi : P.info? e = some i) (hz : i.zero = some z)
    (hsize : i.size = 1) (hby : i.bytes = bytes) (hzs : z.cells.size = 1) (v : Value) (n : Nat) (xs : List Value) (hs : a.eval s = v) (hown : w.ownsRow N e 1 v n xs)
    (ad : Addr) (u : Value) (hx : a.eval x = .slice (some ad) 1 1) (hnews : ∀ j y, [u][j]? = some y → w.cell? (ad.add j) = some y) (h1 : ∀ y ∈ [u], y.oneCell' = true)
    (h63 : n + 1 ≤ maxLen) (hbytes : ((n + 1) + (n + 1) / 4 + 192) * bytes ≤ 281474976710656) (hbase : N ≤ w.heap.size)
    (h : ∀ g cap w', w'.ownsRow N e 1 (.slice (some ⟨g, 0, none⟩) (n + 1) cap) (n + 1) (xs ++ [u]) → w.grownBy w' v.ownBlock → (v.ownBlock = some g ∨ g = w.heap.size) → g < w'.heap.size → wpList P ops Q rest (a.put o.dst (.slice (some ⟨g, 0, none⟩) (n + 1) cap)) w') : wpList P ops Q (o :: rest) a w := by
  obtain ⟨g, cap, w', hr, h2, h3, h4, h5⟩ := run_append_hold (P := P) w N t o.type e i z bytes ht hi hz hsize hby hzs v n xs hown ad u hnews h1 h63 hbytes hbase
  refine wpList_plain hgd fun K hK => ?_
  unfold Oper.wp execOp
  simp only [ho, resolve, invoke, builtin, Sem.run_bind, Sem.run_pure, Result.andThen_ok, List.map_toArray, List.map_cons, List.map_nil, hs, hx, hr]
  exact hK _ _ (h _ _ _ h2 h3 h4 h5)
/-- append onto a slice without spare room: a new row -/
theorem wpList_append_new {P : Program} {w : World} {ops : Array Oper} {rest : List Oper} {o : Oper} {a : Act} {Q : Exit → Act → World → Prop} (hgd : o.guard = none) (s x : Operand) (t : TypeId)
    (ho : o.op = .call { callee := .builtin .append, args := #[s, x], argTypes := #[t, t] })
    (e : TypeId) (i : TypeInfo) (z : Value) (size bytes : Nat) (ht : P.underlying t = some (.slice e)) (hi : P.info? e = some i) (hz : i.zero = some z)
    (hsize : i.size = size) (hby : i.bytes = bytes) (hzs : z.cells.size = size)
    (g n : Nat) (xs : List Value) (hlo : xs.length = n * size) (holds : ∀ j v, xs[j]? = some v → w.cell? ((⟨g, 0, none⟩ : Addr).add j) = some v) (hs : a.eval s = .slice (some ⟨g, 0, none⟩) n n)
    (ad : Addr) (m c : Nat) (news : List Value) (hx : a.eval x = .slice (some ad) m c) (hl : news.length = m * size) (hnews : ∀ j u, news[j]? = some u → w.cell? (ad.add j) = some u)
    (hm : 0 < m) (hs1 : n + m ≤ 1000) (hb1 : bytes ≤ 1000)
    (h : ∀ cap w', w'.ownsRow w.heap.size e size (.slice (some ⟨w.heap.size, 0, none⟩) (n + m) cap) (n + m) (xs ++ news) → Below w.heap.size w w' → wpList P ops Q rest (a.put o.dst (.slice (some ⟨w.heap.size, 0, none⟩) (n + m) cap)) w') : wpList P ops Q (o :: rest) a w := by
  subst hsize
  subst hby
  have hfit : Builtin.nextslicecap (n + m) n * i.bytes ≤ 281474976710656 := growslice_fits (by omega) (by
    have : (n + m) * i.bytes ≤ 1000 * 1000 := Nat.mul_le_mul hs1 hb1
    omega)
  have hr := run_append_grow (P := P) w t o.type e i z ht hi hz ⟨g, 0, none⟩ n n xs hlo holds ad m c news hl hnews (by omega) (by omega) hfit
  refine wpList_plain hgd fun K hK => ?_
  unfold Oper.wp execOp
  simp only [ho, resolve, invoke, builtin, Sem.run_bind, Sem.run_pure, Result.andThen_ok, List.map_toArray, List.map_cons, List.map_nil, hs, hx, hr]
  have hlen : (xs ++ news).length = (n + m) * i.size := by rw [List.length_append, hlo, hl, Nat.add_mul]
  have hge := grownCap_ge w (n + m) n e
  have hcm : grownCap w (n + m) n e ≤ maxLen := grownCap_le_maxLen w (n + m) n e (by unfold maxLen; omega)
  refine hK _ _ (h _ _ ⟨hlen, .inr ⟨w.heap.size, _, _, rfl, Nat.le_refl _, heap_alloc_new w.drew _, hge, hcm, ?_, ?_⟩⟩ ?_)
  · simp only [Array.size_append, List.size_toArray, size_zeroCells, hzs, hlo, hl, ← Nat.add_mul]
    congr 1
    omega
  · simp only [Array.toList_append, List.append_assoc]
    rw [← List.append_assoc, ← hlen]
    exact List.take_left
  · exact (bdrew (Below.refl _ _)).alloc (Nat.le_refl _) _
theorem add_at {w : World} {g : Nat} {cs : List Value} (h : ∀ j u, cs[j]? = some u → w.cell? ⟨g, j, none⟩ = some u) : ∀ j u, cs[j]? = some u → w.cell? ((⟨g, 0, none⟩ : Addr).add j) = some u := fun j u hu => by
  have hadd : (⟨g, 0, none⟩ : Addr).add j = ⟨g, j, none⟩ := by unfold Addr.add; split <;> simp_all
  rw [hadd]; exact h j u hu
/-- the first i places are marks -/
def mixTo (s : Slot) (i : Nat) (xs : List Slot) : List Slot := List.replicate i s ++ xs.drop i
theorem mixTo_len (s : Slot) (i : Nat) (xs : List Slot) (h : i ≤ xs.length) : (mixTo s i xs).length = xs.length := by simp [mixTo]; omega
theorem mixTo_next (s : Slot) (i : Nat) (xs : List Slot) (h : i < xs.length) : mixTo s (i + 1) xs = (mixTo s i xs).set i s := by
  unfold mixTo
  rw [List.set_append_right _ _ (by simp), List.drop_eq_getElem_cons h]
  have : i - (List.replicate i s).length = 0 := by simp
  rw [this, List.set_cons_zero]
  simp [List.replicate_succ', List.append_assoc]
theorem mixTo_all (s : Slot) (xs : List Slot) : mixTo s xs.length xs = List.replicate xs.length s := by simp [mixTo]
/-- the mark of a list by its number; what is appended behind it -/
def markS (n : Nat) : Slot := ⟨true, ⟨-9 - (n : Int), 0, 0, 0, 0, 0, 0, false, false⟩⟩
def padS : Slot := ⟨false, ⟨-5, 0, 0, 0, 0, 0, 0, false, false⟩⟩
def heldV (p : Nat × Nat) : Value := .slice (some ⟨p.1, 0, none⟩) p.2 p.2
/-- lists that are held: their blocks, each made behind N and behind those ahead of it; the first m are marked -/
structure HeldAt (w : World) (N : Nat) (v : Value) (hs : List (Nat × Nat)) (m : Nat) : Prop where
  row : w.ownsRow N 45 1 v hs.length (hs.map heldV)
  far : ∀ p ∈ hs, N ≤ p.1 ∧ p.1 < w.heap.size ∧ v.ownBlock ≠ some p.1 ∧ 0 < p.2 ∧ p.2 ≤ 64
  ord : hs.Pairwise (fun p q => p.1 < q.1)
  mark : ∀ i p, i < m → hs[i]? = some p → RowAt w p.1 (List.replicate p.2 (markS i))
/-- the newest lists hold what the three TLBs hold -/
def FreshAt (w : World) (hs : List (Nat × Nat)) (f m : Nat) (ys : Nat → List Slot) : Prop :=
  ∀ i p, m ≤ f + i → hs[f + i]? = some p → p.2 = (ys (i % 3 + 1)).length ∧ Blok w p.1 50 (rowCells (ys (i % 3 + 1)))
section
variable {w w' : World} {N : Nat} {v : Value} {hs : List (Nat × Nat)} {f m : Nat} {ys : Nat → List Slot}
theorem RowAt.same {g : Nat} {xs : List Slot} (h : RowAt w g xs) (hz : w.heap.size ≤ w'.heap.size) (hb : w'.heap[g]? = w.heap[g]?) : RowAt w' g xs :=
  ⟨Nat.lt_of_lt_of_le h.1 hz, fun j v hv => (World.cell?_of_block hb).trans (h.2 j v hv)⟩
theorem HeldAt.keep (h : HeldAt w N v hs m) (hz : w.heap.size ≤ w'.heap.size) (k : ∀ g, N ≤ g → g < w.heap.size → w'.heap[g]? = w.heap[g]?) : HeldAt w' N v hs m := by
  refine ⟨⟨h.row.1, ?_⟩, fun p hp => ?_, h.ord, fun i p hi hp => ?_⟩
  · rcases h.row.2 with a | ⟨g, cap, cur, e, hb, hg, rest⟩
    · exact .inl a
    · exact .inr ⟨g, cap, cur, e, hb, by rw [k g hb (Array.getElem?_eq_some_iff.1 hg).1]; exact hg, rest⟩
  · obtain ⟨a, b, c⟩ := h.far p hp
    exact ⟨a, Nat.lt_of_lt_of_le b hz, c⟩
  · obtain ⟨a, b, _⟩ := h.far p (List.mem_of_getElem? hp)
    exact (h.mark i p hi hp).same hz (k _ a b)
theorem HeldAt.below (h : HeldAt w N v hs m) (b : Below w.heap.size w w') : HeldAt w' N v hs m := h.keep b.size (fun g _ hg => b.block g hg)
theorem FreshAt.keep (h : FreshAt w hs f m ys) (k : ∀ p ∈ hs, w'.heap[p.1]? = w.heap[p.1]?) : FreshAt w' hs f m ys := fun i p hi hp => by
  obtain ⟨a, b⟩ := h i p hi hp
  exact ⟨a, (k p (List.mem_of_getElem? hp)).trans b⟩
theorem FreshAt.below (h : FreshAt w hs f m ys) (H : HeldAt w N v hs m) (b : Below w.heap.size w w') : FreshAt w' hs f m ys := h.keep (fun p hp => b.block _ (H.far p hp).2.1)
/-- a list more -/
theorem HeldAt.push {w1 w2 : World} {g cap n : Nat} {o : Obj} (h : HeldAt w N v hs m) (hm : m ≤ hs.length) (F : FreshAt w hs f m ys) (hN : N ≤ w.heap.size) (b1 : Below w.heap.size w w1) (hz : w.heap.size < w1.heap.size) (hn : 0 < n ∧ n ≤ 64)
    (B1 : Blok w1 w.heap.size 50 (rowCells (ys ((hs.length - f) % 3 + 1)))) (hl : n = (ys ((hs.length - f) % 3 + 1)).length) (hf : f ≤ hs.length)
    (own : w2.ownsRow N 45 1 (.slice (some ⟨g, 0, none⟩) (hs.length + 1) cap) (hs.length + 1) (hs.map heldV ++ [heldV (w.heap.size, n)])) (gr : (w1.alloc o).grownBy w2 v.ownBlock) (hat : v.ownBlock = some g ∨ g = (w1.alloc o).heap.size) :
    HeldAt w2 N (.slice (some ⟨g, 0, none⟩) (hs.length + 1) cap) (hs ++ [(w.heap.size, n)]) m ∧ FreshAt w2 (hs ++ [(w.heap.size, n)]) f m ys := by
  have hlt : ∀ b, v.ownBlock = some b → b < w.heap.size := fun b hb => (h.row.lt b hb).2
  have hone : ∀ i, i < w1.heap.size → v.ownBlock ≠ some i → w2.heap[i]? = w1.heap[i]? := fun i hi hne => (gr.block i (by simp; omega) (fun e => hne e.symm)).trans (Below.heap_alloc w1 o i hi)
  have hz2 : w1.heap.size + 1 ≤ w2.heap.size := by have := gr.size; simpa using this
  have hsame : ∀ p ∈ hs, w2.heap[p.1]? = w.heap[p.1]? := fun p hp => by
    obtain ⟨a, b, c, _⟩ := h.far p hp
    exact (hone p.1 (by omega) c).trans (b1.block _ b)
  have hgne : ∀ p ∈ hs, g ≠ p.1 := fun p hp e => by
    obtain ⟨a, b, c, _⟩ := h.far p hp
    rcases hat with hat | hat
    · exact c (by rw [hat, e])
    · simp at hat; omega
  have hgn : g ≠ w.heap.size := fun e => by
    rcases hat with hat | hat
    · have := hlt g hat; omega
    · simp at hat; omega
  refine ⟨⟨by simpa using own, fun p hp => ?_, ?_, fun i p hi hp => ?_⟩, fun i p hi hp => ?_⟩
  · rcases List.mem_append.1 hp with hp | hp
    · obtain ⟨a, b, c, d⟩ := h.far p hp
      exact ⟨a, by omega, by simp [Value.ownBlock]; exact hgne p hp, d⟩
    · obtain rfl : p = (w.heap.size, n) := by simpa using hp
      exact ⟨hN, by simp; omega, by simp [Value.ownBlock]; exact hgn, hn⟩
  · refine List.pairwise_append.2 ⟨h.ord, by simp, fun p hp q hq => ?_⟩
    obtain rfl : q = (w.heap.size, n) := by simpa using hq
    exact (h.far p hp).2.1
  · rw [List.getElem?_append_left (by omega)] at hp
    exact (h.mark i p hi hp).same (by omega) (hsame p (List.mem_of_getElem? hp))
  · by_cases hi2 : f + i < hs.length
    · rw [List.getElem?_append_left hi2] at hp
      obtain ⟨a, b⟩ := F i p hi hp
      exact ⟨a, (hsame p (List.mem_of_getElem? hp)).trans b⟩
    · rw [List.getElem?_append_right (by omega)] at hp
      have e0 : f + i - hs.length = 0 := by
        by_cases e : f + i - hs.length = 0
        · exact e
        · rw [List.getElem?_cons, if_neg e] at hp; simp at hp
      rw [e0] at hp
      obtain rfl : (w.heap.size, n) = p := by simpa using hp
      have e1 : hs.length - f = i := by omega
      rw [e1] at hl B1
      have hne : v.ownBlock ≠ some w.heap.size := fun e => by have := hlt _ e; omega
      exact ⟨hl, (hone _ hz hne).trans B1⟩
/-- a list is marked -/
theorem HeldAt.step {p : Nat × Nat} (h : HeldAt w N v hs m) (F : FreshAt w hs f m ys) (hp : hs[m]? = some p) (hg : GrownS w w' (· = p.1)) (hB : Blok w' p.1 50 (rowCells (List.replicate p.2 (markS m)))) :
    HeldAt w' N v hs (m + 1) ∧ FreshAt w' hs f (m + 1) ys := by
  have hml : m < hs.length := (List.getElem?_eq_some_iff.1 hp).1
  have hother : ∀ i q, hs[i]? = some q → i ≠ m → q.1 ≠ p.1 := fun i q hq hne e => by
    have hil : i < hs.length := (List.getElem?_eq_some_iff.1 hq).1
    have hqe := (List.getElem?_eq_some_iff.1 hq).2
    have hpe := (List.getElem?_eq_some_iff.1 hp).2
    rcases Nat.lt_or_gt_of_ne hne with hlt | hlt
    · have := List.pairwise_iff_getElem.1 h.ord i m hil hml hlt
      rw [hqe, hpe] at this; omega
    · have := List.pairwise_iff_getElem.1 h.ord m i hml hil hlt
      rw [hqe, hpe] at this; omega
  refine ⟨⟨⟨h.row.1, ?_⟩, fun q hq => ?_, h.ord, fun i q hi hq => ?_⟩, fun i q hi hq => ?_⟩
  · rcases h.row.2 with a | ⟨g, cap, cur, e, hb, hgg, rest⟩
    · exact .inl a
    · have hne : g ≠ p.1 := fun e' => (h.far p (List.mem_of_getElem? hp)).2.2.1 (by rw [e]; simp [Value.ownBlock, e'])
      exact .inr ⟨g, cap, cur, e, hb, by rw [hg.block g (Array.getElem?_eq_some_iff.1 hgg).1 hne]; exact hgg, rest⟩
  · obtain ⟨a, b, c⟩ := h.far q hq
    exact ⟨a, Nat.lt_of_lt_of_le b hg.size, c⟩
  · by_cases e : i = m
    · subst e
      rw [hp] at hq
      cases hq
      exact RowAt.of hB
    · have h1 := h.mark i q (by omega) hq
      exact h1.same hg.size (hg.block _ h1.1 (hother i q hq e))
  · obtain ⟨a, b⟩ := F i q (by omega) hq
    exact ⟨a, (hg.block _ b.lt (hother _ q hq (by omega))).trans b⟩
end
/-- both lie below N -/
structure OLow (B N hb : Nat) (tb gb : Nat → Nat) (rb : Nat) (rtb rgb : Nat → Nat) : Prop where
  b : B ≤ N
  h : hb < N ∧ ∀ k, 1 ≤ k → k ≤ 3 → tb k < N ∧ gb k < N
  r : rb < N ∧ ∀ k, 1 ≤ k → k ≤ 3 → rgb k < N ∧ rtb k < N
/-- what holds in HierOwn, but for the lists that are held -/
structure OSt (w0 : World) (N hb : Nat) (tb gb : Nat → Nat) (rb : Nat) (rtb rgb : Nat → Nat) (ys : Nat → List Slot) (w : World) : Prop where
  h : IsHier w hb tb gb ys
  r : IsRef w rb rtb rgb ys
  s : Shf w
  b : Below w0.heap.size w0 w
  n : N ≤ w.heap.size
section
variable {w0 w w' : World} {N hb rb : Nat} {tb gb rtb rgb : Nat → Nat} {ys : Nat → List Slot}
theorem OSt.below (I : OSt w0 N hb tb gb rb rtb rgb ys w) (k : Below w.heap.size w w') : OSt w0 N hb tb gb rb rtb rgb ys w' :=
  ⟨I.h.below k, I.r.below k, I.s.below I.s.pos k, bthen I.b k, Nat.le_trans I.n k.size⟩
theorem OSt.one {g : Nat} (I : OSt w0 N hb tb gb rb rtb rgb ys w) (L : OLow w0.heap.size N hb tb gb rb rtb rgb) (hz : 0 < w0.heap.size) (k : GrownS w w' (· = g)) (hg : N ≤ g) : OSt w0 N hb tb gb rb rtb rgb ys w' := by
  have hn : ∀ i, i < N → ¬ (i = g) := fun i hi => by omega
  have hbb := L.b
  refine ⟨⟨I.h.b.gs k (hn _ L.h.1), I.h.th.gs k (fun j a c => hn _ (L.h.2 j a c).1) (fun j a c => hn _ (L.h.2 j a c).2), I.h.ne⟩, ⟨I.r.b.gs k (hn _ L.r.1), I.r.th.gs k (fun j a c => hn _ (L.r.2 j a c).2) (fun j a c => hn _ (L.r.2 j a c).1), I.r.ne⟩, I.s.gs k (hn _ (by omega)), I.b.trans (k.bel I.b.size (fun i hi => by omega)), Nat.le_trans I.n k.size⟩
end
theorem slots_info : (Tryd.prog.info? 45).map (fun i => (i.zero, i.size, i.bytes)) = some (some (.slice none 0 0), 1, 24) := by kernel_rfl
def findBlock (n : Nat) : Code → Option Code
  | .block k c => if k = n then some c else findBlock n c
  | .seq a b => match findBlock n a with
    | some c => some c
    | none => findBlock n b
  | .loop c => findBlock n c
  | .cond _ a b => match findBlock n a with
    | some c => some c
    | none => findBlock n b
  | _ => none
noncomputable def ownB (n : Nat) : Code := (Tryd.f15.body.bind (findBlock n)).getD .skip
end Go.Proofs.YtngcpcgioophcaaDoor

namespace Go.Proofs.YtngcpcgioophcaaDoor
open Go.RowKit

set_option maxHeartbeats 12800000 in
set_option maxRecDepth 100000 in
theorem own_14 (c hl hcap n g q : Nat) (hn : n < hl) (hh : hl ≤ 9000000000000) (hq : q ≤ 64) (wa : World) (d0 : wa.cell? ⟨c, n, none⟩ = some (.slice (some ⟨g, 0, none⟩) q q)) (R : RowAt wa g (List.replicate q (markS n)))
    {U0 U1 U2 U3 U4 U5 U6 U7 U8 U9 Ua Ub Ud Ue Uf Ug Uh Ui Uj Uk Un Uo Up Uq Ur Us Ut Uu Uv Uw Ux Uy Uz UA UB UC UD UE UF UG UH UI UJ UK UL UM UN UO UP UQ UR US UT UU UV UW UX UY UZ V0 V1 V2 V3 V4 V5 V6 V7 V8 V9 Va Vb Vc Vd Ve Vf Vg Vh Vi Vj Vk Vl Vm Vn Vo Vp Vq Vr Vs Vt Vu Vv Vw Vx Vy Vz VA VB VC VD VE VF VG VH VI VJ VK VL VM VN VO VP VQ VR VS VT VU VV VW VX VY VZ W0 W1 W2 W3 W4 W5 W6 W7 W8 W9 Wa Wb Wc Wd We Wf Wg Wh Wi Wj Wk Wl Wm Wn Wo Wp Wq Wr Ws Wt Wu Wv : Value} {Q : Exit → Act → World → Prop}
    (hex : ∀ (U8 Um Wb Wc Wd We Wf Wg Wh Wi Wj Wk Wl Wm Wn Wo Wp Wq Wr Ws Wt Wu Wv : Value) (w' : World), Below wa.heap.size wa w' → Q (.exit 14) ⟨#[U0, U1, U2, U3, U4, U5, U6, U7, U8, U9, Ua, Ub, .slice (some ⟨c, 0, none⟩) hl hcap, Ud, Ue, Uf, Ug, Uh, Ui, Uj, Uk, .int .i64 n, Um, Un, Uo, Up, Uq, Ur, Us, Ut, Uu, Uv, Uw, Ux, Uy, Uz, UA, UB, UC, UD, UE, UF, UG, UH, UI, UJ, UK, UL, UM, UN, UO, UP, UQ, UR, US, UT, UU, UV, UW, UX, UY, UZ, V0, V1, V2, V3, V4, V5, V6, V7, V8, V9, Va, Vb, Vc, Vd, Ve, Vf, Vg, Vh, Vi, Vj, Vk, Vl, Vm, Vn, Vo, Vp, Vq, Vr, Vs, Vt, Vu, Vv, Vw, Vx, Vy, Vz, VA, VB, VC, VD, VE, VF, VG, VH, VI, VJ, VK, VL, VM, VN, VO, VP, VQ, VR, VS, VT, VU, VV, VW, VX, VY, VZ, W0, W1, W2, W3, W4, W5, W6, W7, W8, W9, Wa, Wb, Wc, Wd, We, Wf, Wg, Wh, Wi, Wj, Wk, Wl, Wm, Wn, Wo, Wp, Wq, Wr, Ws, Wt, Wu, Wv], []⟩ w') :
    Code.wp Tryd.prog (ownB 14) Q ⟨#[U0, U1, U2, U3, U4, U5, U6, U7, U8, U9, Ua, Ub, .slice (some ⟨c, 0, none⟩) hl hcap, Ud, Ue, Uf, Ug, Uh, Ui, Uj, Uk, .int .i64 n, .int .i64 0, Un, Uo, Up, Uq, Ur, Us, Ut, Uu, Uv, Uw, Ux, Uy, Uz, UA, UB, UC, UD, UE, UF, UG, UH, UI, UJ, UK, UL, UM, UN, UO, UP, UQ, UR, US, UT, UU, UV, UW, UX, UY, UZ, V0, V1, V2, V3, V4, V5, V6, V7, V8, V9, Va, Vb, Vc, Vd, Ve, Vf, Vg, Vh, Vi, Vj, Vk, Vl, Vm, Vn, Vo, Vp, Vq, Vr, Vs, Vt, Vu, Vv, Vw, Vx, Vy, Vz, VA, VB, VC, VD, VE, VF, VG, VH, VI, VJ, VK, VL, VM, VN, VO, VP, VQ, VR, VS, VT, VU, VV, VW, VX, VY, VZ, W0, W1, W2, W3, W4, W5, W6, W7, W8, W9, Wa, Wb, Wc, Wd, We, Wf, Wg, Wh, Wi, Wj, Wk, Wl, Wm, Wn, Wo, Wp, Wq, Wr, Ws, Wt, Wu, Wv], []⟩ wa := by
  dsimp only at hex ⊢
  conv => arg 2; whnf
  have hne : ∀ W, (binOp .neq 50 (.agg #[.bool true, .int .i64 (-9 - (n : Int)), .int .i64 0, .int .u32 0, .int .u64 0, .int .i64 0, .int .i64 0, .int .u32 0, .bool false, .bool false]) (.agg #[.bool true, .int .i64 (-9 - (n : Int)), .int .i64 0, .int .u32 0, .int .u64 0, .int .i64 0, .int .i64 0, .int .u32 0, .bool false, .bool false])).run Tryd.prog W = .ok (.bool false) W := fun W => neq_slot_self true ⟨-9 - (n : Int), 0, 0, 0, 0, 0, 0, false, false⟩ W
  have i0 : (0 : Int) ≤ ↑n := by omega
  have i1 : (↑n : Int) < ↑hl := by omega
  have hc0 : c < wa.heap.size := World.block_lt_of_cell? wa _ d0
  go_loopw [22] (fun v22 wq => ∃ j : Nat, j ≤ q ∧ v22 = .int .i64 j ∧ Below wa.heap.size wa wq) (fun v22 _ => q - (intOf v22).toNat)
  case atStart => exact ⟨0, Nat.zero_le _, rfl, Below.refl _ _⟩
  case round =>
    obtain ⟨j, hj, rfl, hB⟩ := hrel
    have e0 : wr.cell? ⟨c, n, none⟩ = some (.slice (some ⟨g, 0, none⟩) q q) := (hB.cell hc0).trans d0
    by_cases hlt : j < q
    · have R1 := R.below hB
      have hrg : wr.rangeAt g (j * 10) [.bool true, .int .i64 (-9 - (n : Int)), .int .i64 0, .int .u32 0, .int .u64 0, .int .i64 0, .int .i64 0, .int .u32 0, .bool false, .bool false] := fun x v hv => by
        have hx : x < 10 := (List.getElem?_eq_some_iff.1 hv).1
        have := R1.cells j (markS n) (by simp [hlt]) x hx
        rw [this]; exact hv
      have j0 : (0 : Int) ≤ ↑j := by omega
      have j1 : (↑j : Int) < ↑q := by omega
      clear R1
      go_wp2_with (refine wpList_load_mid rfl 50 (.tmp 149) rfl g (j * 10) rfl [.bool true, .int .i64 (-9 - (n : Int)), .int .i64 0, .int .u32 0, .int .u64 0, .int .i64 0, .int .i64 0, .int .u32 0, .bool false, .bool false] _ hrg Tryd.underlying50 rfl (by kernel_rfl) ?_)
      go_roundw
      case rel => exact ⟨j + 1, by omega, by go_num, hB⟩
      case measure => simp [intOf]; omega
    · go_wp2_with fail
      exact hB
theorem HeldAt.at_ {w : World} {N c n hcap m i : Nat} {hs : List (Nat × Nat)} {p : Nat × Nat} (h : HeldAt w N (.slice (some ⟨c, 0, none⟩) n hcap) hs m) (hp : hs[i]? = some p) : w.cell? ⟨c, i, none⟩ = some (.slice (some ⟨p.1, 0, none⟩) p.2 p.2) := by
  have := h.row.cells (g := c) rfl i (heldV p) (by simp [hp])
  have hadd : (⟨c, 0, none⟩ : Addr).add i = ⟨c, i, none⟩ := by unfold Addr.add; split <;> simp_all
  rw [hadd] at this
  exact this
set_option maxHeartbeats 12800000 in
set_option maxRecDepth 100000 in
theorem own_12 (p : Option Addr) (ol ocap c hl hcap k N : Nat) (b1 b2 : Bool) (hb1 : decide ((k : Int) < 20) = b1) (hb2 : ((k : Int) == (ol : Int) - 1) = b2) (hol : 1 ≤ ol) (hol2 : ol ≤ 9000000000000) (hh : hl ≤ 9000000000000) (hs : List (Nat × Nat)) (HL : Hid (hs.length = hl)) (wa : World) (HA : Hid (HeldAt wa N (.slice (some ⟨c, 0, none⟩) hl hcap) hs hl))
    {U0 U1 U2 U4 U5 U6 U7 U8 U9 Ua Ub Ue Uf Ug Uh Ui Uj Uk Um Un Uo Up Uq Ur Us Ut Uu Uv Uw Ux Uy Uz UA UB UC UD UE UF UG UH UI UJ UK UL UM UN UO UP UQ UR US UT UU UV UW UX UY UZ V0 V1 V2 V3 V4 V5 V6 V7 V8 V9 Va Vb Vc Vd Ve Vf Vg Vh Vi Vj Vk Vl Vm Vn Vo Vp Vq Vr Vs Vt Vu Vv Vw Vx Vy Vz VA VB VC VD VE VF VG VH VI VJ VK VL VM VN VO VP VQ VR VS VT VU VV VW VX VY VZ W0 W1 W2 W3 W4 W5 W6 W7 W8 W9 Wa Wb Wc Wd We Wf Wg Wh Wi Wj Wk Wl Wm Wn Wo Wp Wq Wr Ws Wt Wu Wv : Value} {Q : Exit → Act → World → Prop}
    (hex : ∀ (U8 Ul Um VU VV VW VX VY VZ W0 W1 W2 W3 W4 W5 W6 W7 W8 W9 Wa Wb Wc Wd We Wf Wg Wh Wi Wj Wk Wl Wm Wn Wo Wp Wq Wr Ws Wt Wu Wv : Value) (w' : World), Below wa.heap.size wa w' → Q (.exit 12) ⟨#[U0, U1, U2, .slice p ol ocap, U4, U5, U6, U7, U8, U9, Ua, Ub, .slice (some ⟨c, 0, none⟩) hl hcap, .int .i64 k, Ue, Uf, Ug, Uh, Ui, Uj, Uk, Ul, Um, Un, Uo, Up, Uq, Ur, Us, Ut, Uu, Uv, Uw, Ux, Uy, Uz, UA, UB, UC, UD, UE, UF, UG, UH, UI, UJ, UK, UL, UM, UN, UO, UP, UQ, UR, US, UT, UU, UV, UW, UX, UY, UZ, V0, V1, V2, V3, V4, V5, V6, V7, V8, V9, Va, Vb, Vc, Vd, Ve, Vf, Vg, Vh, Vi, Vj, Vk, Vl, Vm, Vn, Vo, Vp, Vq, Vr, Vs, Vt, Vu, Vv, Vw, Vx, Vy, Vz, VA, VB, VC, VD, VE, VF, VG, VH, VI, VJ, VK, VL, VM, VN, VO, VP, VQ, VR, VS, VT, VU, VV, VW, VX, VY, VZ, W0, W1, W2, W3, W4, W5, W6, W7, W8, W9, Wa, Wb, Wc, Wd, We, Wf, Wg, Wh, Wi, Wj, Wk, Wl, Wm, Wn, Wo, Wp, Wq, Wr, Ws, Wt, Wu, Wv], []⟩ w') :
    Code.wp Tryd.prog (ownB 12) Q ⟨#[U0, U1, U2, .slice p ol ocap, U4, U5, U6, U7, U8, U9, Ua, Ub, .slice (some ⟨c, 0, none⟩) hl hcap, .int .i64 k, Ue, Uf, Ug, Uh, Ui, Uj, Uk, .int .i64 0, Um, Un, Uo, Up, Uq, Ur, Us, Ut, Uu, Uv, Uw, Ux, Uy, Uz, UA, UB, UC, UD, UE, UF, UG, UH, UI, UJ, UK, UL, UM, UN, UO, UP, UQ, UR, US, UT, UU, UV, UW, UX, UY, UZ, V0, V1, V2, V3, V4, V5, V6, V7, V8, V9, Va, Vb, Vc, Vd, Ve, Vf, Vg, Vh, Vi, Vj, Vk, Vl, Vm, Vn, Vo, Vp, Vq, Vr, Vs, Vt, Vu, Vv, Vw, Vx, Vy, Vz, VA, VB, VC, VD, VE, VF, VG, VH, VI, VJ, VK, VL, VM, VN, VO, VP, VQ, VR, VS, VT, VU, VV, VW, VX, VY, VZ, W0, W1, W2, W3, W4, W5, W6, W7, W8, W9, Wa, Wb, Wc, Wd, We, Wf, Wg, Wh, Wi, Wj, Wk, Wl, Wm, Wn, Wo, Wp, Wq, Wr, Ws, Wt, Wu, Wv], []⟩ wa := by
  dsimp only at hex ⊢
  conv => arg 2; whnf
  go_loopw [21] (fun v21 wq => ∃ n : Nat, n ≤ hl ∧ v21 = .int .i64 n ∧ Below wa.heap.size wa wq) (fun v21 _ => hl - (intOf v21).toNat)
  case atStart => exact ⟨0, Nat.zero_le _, rfl, Below.refl _ _⟩
  case round =>
    obtain ⟨n, hn, rfl, hB⟩ := hrel
    have Ha := HA.out.below hB
    by_cases hlt : n < hl
    · obtain ⟨pp, hpp⟩ : ∃ pp, hs[n]? = some pp := ⟨_, List.getElem?_eq_getElem (by have := HL.out; omega)⟩
      have d0 := Ha.at_ hpp
      have R := Ha.mark n pp (by have := HL.out; omega) hpp
      have hq := (Ha.far pp (List.mem_of_getElem? hpp)).2.2.2.2
      clear Ha hpp
      cases b1 <;> cases b2
      · go_wp2_with fail
        exact hB
      all_goals
        go_upto_block 14 with fail
        refine wp_block ?_
        refine own_14 c hl hcap n pp.1 pp.2 hlt hh hq wr d0 R ?_
        clear d0 R
        intros
        rename_i w8 b8
        go_wp2_with fail
        go_roundw
        case rel => exact ⟨n + 1, by omega, by go_num, bthen hB b8⟩
        case measure => simp [intOf]; omega
    · clear Ha
      cases b1 <;> cases b2
      all_goals
        go_wp2_with fail
        exact hB
set_option maxHeartbeats 12800000 in
set_option maxRecDepth 100000 in
theorem own_8 (c hl hcap n g : Nat) (xs : List Slot) (hn : n < hl) (hh : hl ≤ 9000000000000) (hq : xs.length ≤ 64) (wa : World) (d0 : wa.cell? ⟨c, n, none⟩ = some (.slice (some ⟨g, 0, none⟩) xs.length xs.length)) (hcg : ¬ (c = g)) (B : Blok wa g 50 (rowCells xs))
    {U0 U1 U2 U3 U4 U5 U6 U7 U8 U9 Ua Ub Ud Ue Uf Ug Uj Uk Ul Um Un Uo Up Uq Ur Us Ut Uu Uv Uw Ux Uy Uz UA UB UC UD UE UF UG UH UI UJ UK UL UM UN UO UP UQ UR US UT UU UV UW UX UY UZ V0 V1 V2 V3 V4 V5 V6 V7 V8 V9 Va Vb Vc Vd Ve Vf Vg Vh Vi Vj Vk Vl Vm Vn Vo Vp Vq Vr Vs Vt Vu Vv Vw Vx Vy Vz VA VB VC VD VE VF VG VH VI VJ VK VL VM VN VO VP VQ VR VS VT VU VV VW VX VY VZ W0 W1 W2 W3 W4 W5 W6 W7 W8 W9 Wa Wb Wc Wd We Wf Wg Wh Wi Wj Wk Wl Wm Wn Wo Wp Wq Wr Ws Wt Wu Wv : Value} {Q : Exit → Act → World → Prop}
    (hex : ∀ (Ui Vo Vp Vq Vr Vs Vt Vu Vv Vw Vx Vy Vz VA VB VC VD VE VF VG : Value) (w' : World), GrownS wa w' (· = g) ∧ Blok w' g 50 (rowCells (List.replicate xs.length (markS n))) → Q (.exit 8) ⟨#[U0, U1, U2, U3, U4, U5, U6, U7, U8, U9, Ua, Ub, .slice (some ⟨c, 0, none⟩) hl hcap, Ud, Ue, Uf, Ug, .int .i64 n, Ui, Uj, Uk, Ul, Um, Un, Uo, Up, Uq, Ur, Us, Ut, Uu, Uv, Uw, Ux, Uy, Uz, UA, UB, UC, UD, UE, UF, UG, UH, UI, UJ, UK, UL, UM, UN, UO, UP, UQ, UR, US, UT, UU, UV, UW, UX, UY, UZ, V0, V1, V2, V3, V4, V5, V6, V7, V8, V9, Va, Vb, Vc, Vd, Ve, Vf, Vg, Vh, Vi, Vj, Vk, Vl, Vm, Vn, Vo, Vp, Vq, Vr, Vs, Vt, Vu, Vv, Vw, Vx, Vy, Vz, VA, VB, VC, VD, VE, VF, VG, VH, VI, VJ, VK, VL, VM, VN, VO, VP, VQ, VR, VS, VT, VU, VV, VW, VX, VY, VZ, W0, W1, W2, W3, W4, W5, W6, W7, W8, W9, Wa, Wb, Wc, Wd, We, Wf, Wg, Wh, Wi, Wj, Wk, Wl, Wm, Wn, Wo, Wp, Wq, Wr, Ws, Wt, Wu, Wv], []⟩ w') :
    Code.wp Tryd.prog (ownB 8) Q ⟨#[U0, U1, U2, U3, U4, U5, U6, U7, U8, U9, Ua, Ub, .slice (some ⟨c, 0, none⟩) hl hcap, Ud, Ue, Uf, Ug, .int .i64 n, .int .i64 0, Uj, Uk, Ul, Um, Un, Uo, Up, Uq, Ur, Us, Ut, Uu, Uv, Uw, Ux, Uy, Uz, UA, UB, UC, UD, UE, UF, UG, UH, UI, UJ, UK, UL, UM, UN, UO, UP, UQ, UR, US, UT, UU, UV, UW, UX, UY, UZ, V0, V1, V2, V3, V4, V5, V6, V7, V8, V9, Va, Vb, Vc, Vd, Ve, Vf, Vg, Vh, Vi, Vj, Vk, Vl, Vm, Vn, Vo, Vp, Vq, Vr, Vs, Vt, Vu, Vv, Vw, Vx, Vy, Vz, VA, VB, VC, VD, VE, VF, VG, VH, VI, VJ, VK, VL, VM, VN, VO, VP, VQ, VR, VS, VT, VU, VV, VW, VX, VY, VZ, W0, W1, W2, W3, W4, W5, W6, W7, W8, W9, Wa, Wb, Wc, Wd, We, Wf, Wg, Wh, Wi, Wj, Wk, Wl, Wm, Wn, Wo, Wp, Wq, Wr, Ws, Wt, Wu, Wv], []⟩ wa := by
  dsimp only at hex ⊢
  conv => arg 2; whnf
  have i0 : (0 : Int) ≤ ↑n := by omega
  have i1 : (↑n : Int) < ↑hl := by omega
  have hc0 : c < wa.heap.size := World.block_lt_of_cell? wa _ d0
  go_loopw [18] (fun v18 wq => ∃ j : Nat, j ≤ xs.length ∧ v18 = .int .i64 j ∧ GrownS wa wq (· = g) ∧ Blok wq g 50 (rowCells (mixTo (markS n) j xs))) (fun v18 _ => xs.length - (intOf v18).toNat)
  case atStart => exact ⟨0, Nat.zero_le _, rfl, GrownS.refl _ _, B⟩
  case round =>
    clear B
    obtain ⟨j, hj, rfl, hG, B⟩ := hrel
    have e0 : wr.cell? ⟨c, n, none⟩ = some (.slice (some ⟨g, 0, none⟩) xs.length xs.length) := (hG.cell hc0 hcg).trans d0
    by_cases hlt : j < xs.length
    · have hlen := rowCells_len (mixTo (markS n) j xs)
      rw [mixTo_len _ _ _ hj] at hlen
      have HLEN := Lib.hid hlen
      have SB := Lib.hid (rowCells_set (mixTo (markS n) j xs) j (markS n) (by rw [mixTo_len _ _ _ hj]; exact hlt))
      have NB := Lib.hid (mixTo_next (markS n) j xs hlt)
      have j0 : (0 : Int) ≤ ↑j := by omega
      have j1 : (↑j : Int) < ↑xs.length := by omega
      clear hlen
      go_wp2_with (refine wpList_store_blok rfl _ (.tmp 104) (.tmp 103) rfl g (j * 10) #[.bool true, .int .i64 (-9 - (n : Int)), .int .i64 0, .int .u32 0, .int .u64 0, .int .i64 0, .int .i64 0, .int .u32 0, .bool false, .bool false] rfl rfl B (by rw [HLEN.out]; simp; omega) (by kernel_rfl) rfl ?_; intro w8 B8 g8 z8)
      have B9 : Blok w8 g 50 (rowCells (mixTo (markS n) (j + 1) xs)) := by rw [NB.out, SB.out]; exact B8
      go_roundw
      case rel => exact ⟨j + 1, by omega, by go_num, hG.one g8 rfl, B9⟩
      case measure => simp [intOf]; omega
    · have he : j = xs.length := by omega
      rw [he, mixTo_all] at B
      clear he
      go_wp2_with fail
      exact ⟨hG, B⟩
theorem own_bel {w w1 w2 : World} {B : Nat} {v : Value} (h : Below B w w1) (k : w1.grownBy w2 v.ownBlock) (hB : B ≤ w1.heap.size) (hv : ∀ x, v.ownBlock = some x → B ≤ x ∧ x < w1.heap.size) : Below B w w2 :=
  h.trans ⟨k.os, k.tape, k.output, k.size, fun i hi => k.block i (Nat.lt_of_lt_of_le hi hB) (fun e => by have := (hv i e.symm).1; omega)⟩
theorem own_lower {w : World} {B B' : Nat} {e : TypeId} {size : Nat} {v : Value} {n : Nat} {xs : List Value} (h : w.ownsRow B e size v n xs) (hb : B' ≤ B) : w.ownsRow B' e size v n xs := by
  refine ⟨h.1, ?_⟩
  rcases h.2 with a | ⟨g, cap, cur, e, hb', rest⟩
  · exact .inl a
  · exact .inr ⟨g, cap, cur, e, Nat.le_trans hb hb', rest⟩
set_option maxHeartbeats 12800000 in
set_option maxRecDepth 100000 in
theorem own_10 (g q : Nat) (xs : List Slot) (HX : Hid (xs.length = q)) (hp : 0 < q) (hq : q ≤ 64) (wa : World) (R : RowAt wa g xs)
    {U0 U1 U2 U3 U4 U5 U6 U7 U8 U9 Ua Ub Uc Ud Ue Uf Ug Uh Ui Ul Um Un Uo Up Uq Ur Us Ut Uu Uv Uw Ux Uy Uz UA UB UC UD UE UF UG UH UI UJ UK UL UM UN UO UP UQ UR US UT UU UV UW UX UY UZ V0 V1 V2 V3 V4 V5 V6 V7 V8 V9 Va Vb Vc Vd Ve Vf Vg Vh Vi Vj Vk Vl Vm Vn Vo Vp Vq Vr Vs Vt Vu Vv Vw Vx Vy Vz VA VB VC VD VE VF VG VH VI VJ VK VL VM VN VO VP VQ VR VS VT VU VV VW VX VY VZ W0 W1 W2 W3 W4 W5 W6 W7 W8 W9 Wa Wb Wc Wd We Wf Wg Wh Wi Wj Wk Wl Wm Wn Wo Wp Wq Wr Ws Wt Wu Wv : Value} {Q : Exit → Act → World → Prop}
    (hex : ∀ (Uj Uk VL VM VN VO VP VQ VR VS VT : Value) (w' : World), Below wa.heap.size wa w' → Q (.exit 10) ⟨#[U0, U1, U2, U3, U4, U5, U6, U7, U8, U9, Ua, Ub, Uc, Ud, Ue, Uf, Ug, Uh, Ui, Uj, Uk, Ul, Um, Un, Uo, Up, Uq, Ur, Us, Ut, Uu, Uv, Uw, Ux, Uy, Uz, UA, UB, UC, UD, UE, UF, UG, UH, UI, UJ, UK, UL, UM, UN, UO, UP, UQ, UR, US, UT, UU, UV, UW, UX, UY, UZ, V0, V1, V2, V3, V4, V5, V6, V7, V8, V9, Va, Vb, Vc, Vd, Ve, Vf, Vg, Vh, Vi, Vj, Vk, Vl, Vm, Vn, Vo, Vp, Vq, Vr, Vs, Vt, Vu, Vv, Vw, Vx, Vy, Vz, VA, VB, VC, VD, VE, VF, VG, VH, VI, VJ, VK, VL, VM, VN, VO, VP, VQ, VR, VS, VT, VU, VV, VW, VX, VY, VZ, W0, W1, W2, W3, W4, W5, W6, W7, W8, W9, Wa, Wb, Wc, Wd, We, Wf, Wg, Wh, Wi, Wj, Wk, Wl, Wm, Wn, Wo, Wp, Wq, Wr, Ws, Wt, Wu, Wv], []⟩ w') :
    Code.wp Tryd.prog (ownB 10) Q ⟨#[U0, U1, U2, U3, U4, U5, U6, U7, U8, U9, Ua, Ub, Uc, Ud, Ue, Uf, Ug, Uh, Ui, .slice (some ⟨g, 0, none⟩) q q, .int .i64 0, Ul, Um, Un, Uo, Up, Uq, Ur, Us, Ut, Uu, Uv, Uw, Ux, Uy, Uz, UA, UB, UC, UD, UE, UF, UG, UH, UI, UJ, UK, UL, UM, UN, UO, UP, UQ, UR, US, UT, UU, UV, UW, UX, UY, UZ, V0, V1, V2, V3, V4, V5, V6, V7, V8, V9, Va, Vb, Vc, Vd, Ve, Vf, Vg, Vh, Vi, Vj, Vk, Vl, Vm, Vn, Vo, Vp, Vq, Vr, Vs, Vt, Vu, Vv, Vw, Vx, Vy, Vz, VA, VB, VC, VD, VE, VF, VG, VH, VI, VJ, VK, VL, VM, VN, VO, VP, VQ, VR, VS, VT, VU, VV, VW, VX, VY, VZ, W0, W1, W2, W3, W4, W5, W6, W7, W8, W9, Wa, Wb, Wc, Wd, We, Wf, Wg, Wh, Wi, Wj, Wk, Wl, Wm, Wn, Wo, Wp, Wq, Wr, Ws, Wt, Wu, Wv], []⟩ wa := by
  dsimp only at hex ⊢
  conv => arg 2; whnf
  obtain ⟨ii, hii, hz0, hz1, hz2⟩ := info_parts slot_info
  have HII := Lib.hid (And.intro hii (And.intro hz0 (And.intro hz1 hz2)))
  have HRL : Hid ((rowCells xs).length = q * 10) := Lib.hid (by rw [rowCells_len, HX.out])
  clear hii hz0 hz1 hz2
  go_loopw [19, 20] (fun v19 v20 wq => ∃ j : Nat, j ≤ 64 ∧ v20 = .int .i64 j ∧ Below wa.heap.size wa wq ∧ ((j = 0 ∧ v19 = .slice (some ⟨g, 0, none⟩) q q) ∨ (1 ≤ j ∧ ∃ zs, wq.ownsRow wa.heap.size 50 10 v19 (q + j) zs))) (fun _ v20 _ => 64 - (intOf v20).toNat)
  case atStart => exact ⟨0, Nat.zero_le _, rfl, Below.refl _ _, .inl ⟨rfl, rfl⟩⟩
  case round =>
    obtain ⟨j, hj, rfl, hB, hv⟩ := hrel
    by_cases hlt : j < 64
    · have NM : Hid (∀ x u, [.bool false, .int .i64 (-5), .int .i64 0, .int .u32 0, .int .u64 0, .int .i64 0, .int .i64 0, .int .u32 0, .bool false, .bool false][x]? = some u → (wr.alloc (.cells #[.bool false, .int .i64 (-5), .int .i64 0, .int .u32 0, .int .u64 0, .int .i64 0, .int .i64 0, .int .u32 0, .bool false, .bool false] 50)).cell? ((⟨wr.heap.size, 0, none⟩ : Addr).add x) = some u) := Lib.hid (World.news_of_block (cs := #[.bool false, .int .i64 (-5), .int .i64 0, .int .u32 0, .int .u64 0, .int .i64 0, .int .i64 0, .int .u32 0, .bool false, .bool false]) (heap_alloc_new wr _))
      have hsz := hB.size
      have bA : Below wr.heap.size wr (wr.alloc (.cells #[.bool false, .int .i64 (-5), .int .i64 0, .int .u32 0, .int .u64 0, .int .i64 0, .int .i64 0, .int .u32 0, .bool false, .bool false] 50)) := (Below.refl _ _).alloc (Nat.le_refl _) _
      rcases hv with ⟨rfl, rfl⟩ | ⟨h1, zs, own⟩
      · have NA := Lib.hid (add_at (RowAt.below (RowAt.below R hB) bA).2)
        go_wp2_with (refine wpList_append_new rfl (.tmp 113) (.tmp 116) 45 rfl 50 ii _ 10 64 Tryd.underlying45 HII.out.1 HII.out.2.1 HII.out.2.2.1 HII.out.2.2.2 rfl g q (rowCells xs) HRL.out NA.out rfl ⟨wr.heap.size, 0, none⟩ 1 1 [.bool false, .int .i64 (-5), .int .i64 0, .int .u32 0, .int .u64 0, .int .i64 0, .int .i64 0, .int .u32 0, .bool false, .bool false] rfl rfl NM.out (by omega) (by omega) (by omega) ?_; intro cap8 w8 own8 b8)
        have own9 : w8.ownsRow wa.heap.size 50 10 (.slice (some ⟨wr.heap.size + 1, 0, none⟩) (q + 1) cap8) (q + 1) (rowCells xs ++ [.bool false, .int .i64 (-5), .int .i64 0, .int .u32 0, .int .u64 0, .int .i64 0, .int .i64 0, .int .u32 0, .bool false, .bool false]) := by
          have h := own_lower own8 (B' := wa.heap.size) (by simp; omega)
          have e : (wr.alloc (.cells #[.bool false, .int .i64 (-5), .int .i64 0, .int .u32 0, .int .u64 0, .int .i64 0, .int .i64 0, .int .u32 0, .bool false, .bool false] 50)).heap.size = wr.heap.size + 1 := by simp
          rwa [e] at h
        have B9 : Below wa.heap.size wa w8 := bthen (bthen hB bA) b8
        clear own8 b8
        go_roundw
        case rel => exact ⟨1, by omega, by go_num, B9, .inr ⟨by omega, _, own9⟩⟩
        case measure => simp [intOf]
      · have own' := own.alloc (.cells #[.bool false, .int .i64 (-5), .int .i64 0, .int .u32 0, .int .u64 0, .int .i64 0, .int .i64 0, .int .u32 0, .bool false, .bool false] 50)
        have OWN := Lib.hid own'
        have hnb := own.lt
        have HNB := Lib.hid hnb
        clear own own' hnb
        go_wp2_with (refine wpList_append_lies _ rfl (.tmp 113) (.tmp 116) 45 rfl wa.heap.size 50 ii _ 10 64 Tryd.underlying45 HII.out.1 HII.out.2.1 HII.out.2.2.1 HII.out.2.2.2 rfl (by omega) _ (q + j) zs rfl OWN.out ⟨wr.heap.size, 0, none⟩ 1 1 [.bool false, .int .i64 (-5), .int .i64 0, .int .u32 0, .int .u64 0, .int .i64 0, .int .i64 0, .int .u32 0, .bool false, .bool false] rfl rfl NM.out (by intro u hu; simp only [List.mem_cons, List.not_mem_nil, or_false] at hu; rcases hu with rfl | rfl | rfl | rfl | rfl | rfl | rfl | rfl | rfl | rfl <;> rfl) (by omega) (by unfold maxLen; omega) (by omega) (by simp; omega) _ rfl ?_; intro g8 cap8 w8 own8 gr8 hat8 hlt8)
        have B9 : Below wa.heap.size wa w8 := own_bel (bthen hB bA) gr8 (by simp; omega) (fun x hx => by have := HNB.out x hx; simp; omega)
        clear hat8 hlt8 gr8
        go_roundw
        case rel => exact ⟨j + 1, by omega, by go_num, B9, .inr ⟨by omega, _, own8⟩⟩
        case measure => simp [intOf]; omega
    · go_wp2_with fail
      exact hB
end Go.Proofs.YtngcpcgioophcaaDoor

namespace Go.Proofs.YtngcpcgioophcaaDoor
open Go.RowKit

set_option maxHeartbeats 12800000 in
set_option maxRecDepth 100000 in
theorem own_6 (c hl hcap m N hb rb : Nat) (tb gb rtb rgb : Nat → Nat) (ys : Nat → List Slot) (w0 : World) (L : OLow w0.heap.size N hb tb gb rb rtb rgb) (hz : 0 < w0.heap.size) (hh : hl ≤ 9000000000000) (h1 : hl ≤ m + 6) (h2 : m + 6 ≤ hl) (hs : List (Nat × Nat)) (HL : Hid (hs.length = hl)) (wa : World) (HA : HeldAt wa N (.slice (some ⟨c, 0, none⟩) hl hcap) hs m) (FA : FreshAt wa hs m m ys) (I : OSt w0 N hb tb gb rb rtb rgb ys wa)
    {U0 U1 U2 U3 U4 U5 U6 U7 U8 U9 Ua Ub Ud Uf Ug Ui Uj Uk Ul Um Un Uo Up Uq Ur Us Ut Uu Uv Uw Ux Uy Uz UA UB UC UD UE UF UG UH UI UJ UK UL UM UN UO UP UQ UR US UT UU UV UW UX UY UZ V0 V1 V2 V3 V4 V5 V6 V7 V8 V9 Va Vb Vc Vd Ve Vf Vg Vh Vi Vj Vk Vl Vm Vn Vo Vp Vq Vr Vs Vt Vu Vv Vw Vx Vy Vz VA VB VC VD VE VF VG VH VI VJ VK VL VM VN VO VP VQ VR VS VT VU VV VW VX VY VZ W0 W1 W2 W3 W4 W5 W6 W7 W8 W9 Wa Wb Wc Wd We Wf Wg Wh Wi Wj Wk Wl Wm Wn Wo Wp Wq Wr Ws Wt Wu Wv : Value} {Q : Exit → Act → World → Prop}
    (hex : ∀ (Uh Ui Uj Uk Vi Vj Vk Vl Vm Vn Vo Vp Vq Vr Vs Vt Vu Vv Vw Vx Vy Vz VA VB VC VD VE VF VG VH VI VJ VK VL VM VN VO VP VQ VR VS VT : Value) (w' : World), HeldAt w' N (.slice (some ⟨c, 0, none⟩) hl hcap) hs (m + 6) ∧ OSt w0 N hb tb gb rb rtb rgb ys w' → Q (.exit 6) ⟨#[U0, U1, U2, U3, U4, U5, U6, U7, U8, U9, Ua, Ub, .slice (some ⟨c, 0, none⟩) hl hcap, Ud, .int .i64 m, Uf, Ug, Uh, Ui, Uj, Uk, Ul, Um, Un, Uo, Up, Uq, Ur, Us, Ut, Uu, Uv, Uw, Ux, Uy, Uz, UA, UB, UC, UD, UE, UF, UG, UH, UI, UJ, UK, UL, UM, UN, UO, UP, UQ, UR, US, UT, UU, UV, UW, UX, UY, UZ, V0, V1, V2, V3, V4, V5, V6, V7, V8, V9, Va, Vb, Vc, Vd, Ve, Vf, Vg, Vh, Vi, Vj, Vk, Vl, Vm, Vn, Vo, Vp, Vq, Vr, Vs, Vt, Vu, Vv, Vw, Vx, Vy, Vz, VA, VB, VC, VD, VE, VF, VG, VH, VI, VJ, VK, VL, VM, VN, VO, VP, VQ, VR, VS, VT, VU, VV, VW, VX, VY, VZ, W0, W1, W2, W3, W4, W5, W6, W7, W8, W9, Wa, Wb, Wc, Wd, We, Wf, Wg, Wh, Wi, Wj, Wk, Wl, Wm, Wn, Wo, Wp, Wq, Wr, Ws, Wt, Wu, Wv], []⟩ w') :
    Code.wp Tryd.prog (ownB 6) Q ⟨#[U0, U1, U2, U3, U4, U5, U6, U7, U8, U9, Ua, Ub, .slice (some ⟨c, 0, none⟩) hl hcap, Ud, .int .i64 m, Uf, Ug, .int .i64 m, Ui, Uj, Uk, Ul, Um, Un, Uo, Up, Uq, Ur, Us, Ut, Uu, Uv, Uw, Ux, Uy, Uz, UA, UB, UC, UD, UE, UF, UG, UH, UI, UJ, UK, UL, UM, UN, UO, UP, UQ, UR, US, UT, UU, UV, UW, UX, UY, UZ, V0, V1, V2, V3, V4, V5, V6, V7, V8, V9, Va, Vb, Vc, Vd, Ve, Vf, Vg, Vh, Vi, Vj, Vk, Vl, Vm, Vn, Vo, Vp, Vq, Vr, Vs, Vt, Vu, Vv, Vw, Vx, Vy, Vz, VA, VB, VC, VD, VE, VF, VG, VH, VI, VJ, VK, VL, VM, VN, VO, VP, VQ, VR, VS, VT, VU, VV, VW, VX, VY, VZ, W0, W1, W2, W3, W4, W5, W6, W7, W8, W9, Wa, Wb, Wc, Wd, We, Wf, Wg, Wh, Wi, Wj, Wk, Wl, Wm, Wn, Wo, Wp, Wq, Wr, Ws, Wt, Wu, Wv], []⟩ wa := by
  dsimp only at hex ⊢
  conv => arg 2; whnf
  go_loopw [17] (fun v17 wq => ∃ i : Nat, i ≤ 6 ∧ v17 = .int .i64 ↑(m + i) ∧ HeldAt wq N (.slice (some ⟨c, 0, none⟩) hl hcap) hs (m + i) ∧ FreshAt wq hs m (m + i) ys ∧ OSt w0 N hb tb gb rb rtb rgb ys wq) (fun v17 _ => m + 6 - (intOf v17).toNat)
  case atStart => exact ⟨0, Nat.zero_le _, rfl, HA, FA, I⟩
  case round =>
    clear HA FA I
    obtain ⟨i, hi, rfl, HA, FA, I⟩ := hrel
    obtain ⟨n, hn⟩ : ∃ n, m + i = n := ⟨_, rfl⟩
    rw [hn] at HA FA ⊢
    have hn1 : n ≤ m + i := by omega
    have hn2 : m + i ≤ n := by omega
    clear hn
    by_cases hlt : i < 6
    · obtain ⟨pp, hpp⟩ : ∃ pp, hs[n]? = some pp := ⟨_, List.getElem?_eq_getElem (by have := HL.out; omega)⟩
      have d0 := HA.at_ hpp
      obtain ⟨f1, f2, f3, f4, f5⟩ := HA.far pp (List.mem_of_getElem? hpp)
      have hcg : ¬ (c = pp.1) := fun e => f3 (by simp [Value.ownBlock, e])
      obtain ⟨xs, hxl, B⟩ : ∃ xs : List Slot, pp.2 = xs.length ∧ Blok wr pp.1 50 (rowCells xs) := by
        obtain ⟨a, b⟩ := FA (n - m) pp (by omega) (by rw [show m + (n - m) = n by omega]; exact hpp)
        exact ⟨_, a, b⟩
      have ST := fun (w' : World) (hG : GrownS wr w' (· = pp.1)) (hB : Blok w' pp.1 50 (rowCells (List.replicate pp.2 (markS n)))) => HA.step FA hpp hG hB
      have ST := Lib.hid ST
      rw [hxl] at d0 f4 f5 ST
      obtain ⟨g, q⟩ := pp
      dsimp only at *
      have DD := Lib.hid (fun w' (H : HeldAt w' N (.slice (some ⟨c, 0, none⟩) hl hcap) hs (n + 1)) => H.at_ hpp)
      have RR := Lib.hid (fun w' (H : HeldAt w' N (.slice (some ⟨c, 0, none⟩) hl hcap) hs (n + 1)) => H.mark n _ (by omega) hpp)
      dsimp only at DD RR
      rw [hxl] at DD RR
      clear hpp hxl HA FA
      go_upto_block 8 with fail
      refine wp_block ?_
      refine own_8 c hl hcap n g xs (by omega) hh f5 wr d0 hcg B ?_
      clear d0 B
      intros
      rename_i w8 hGB
      obtain ⟨hG, hB⟩ := hGB
      obtain ⟨HA8, FA8⟩ := ST.out w8 hG hB
      have I8 := I.one L hz hG f1
      have d8 := DD.out w8 HA8
      have R8 := RR.out w8 HA8
      have i0 : (0 : Int) ≤ ↑n := by omega
      have i1 : (↑n : Int) < ↑hl := by omega
      clear I hG hB ST DD RR f1 f2 f3
      go_upto_block 10 with fail
      refine wp_block ?_
      refine own_10 g xs.length (List.replicate xs.length (markS n)) (Lib.hid (by simp)) f4 f5 w8 R8 ?_
      intros
      rename_i w9 b9
      go_wp2_with fail
      go_roundw
      case rel => exact ⟨i + 1, by omega, by rw [show m + (i + 1) = n + 1 by omega]; go_num, by rw [show m + (i + 1) = n + 1 by omega]; exact HA8.below b9, by rw [show m + (i + 1) = n + 1 by omega]; exact FA8.below HA8 b9, I8.below b9⟩
      case measure => simp [intOf]; omega
    · have e6 : n = m + 6 := by omega
      rw [e6] at HA
      clear FA
      go_wp2_with fail
      exact ⟨HA, I⟩
set_option maxHeartbeats 12800000 in
set_option maxRecDepth 100000 in
theorem own_4 (c hl hcap m N hb rb : Nat) (tb gb rtb rgb : Nat → Nat) (ys : Nat → List Slot) (w0 : World) (hh : hl ≤ 9000000000000) (h1 : hl ≤ m + 6) (h2 : m + 6 ≤ hl) (hs : List (Nat × Nat)) (HL : Hid (hs.length = hl)) (wa : World) (HA : Hid (HeldAt wa N (.slice (some ⟨c, 0, none⟩) hl hcap) hs m)) (FA : Hid (FreshAt wa hs m m ys)) (I : Hid (OSt w0 N hb tb gb rb rtb rgb ys wa))
    {U0 U1 U2 U3 U4 U5 U6 U7 U8 U9 Ub Ud Uf Uh Ui Uj Uk Ul Um Un Uo Up Uq Ur Us Ut Uu Uv Uw Ux Uy Uz UA UB UC UD UE UF UG UH UI UJ UK UL UM UN UO UP UQ UR US UT UU UV UW UX UY UZ V0 V1 V2 V3 V4 V5 V6 V7 V8 V9 Va Vb Vc Vd Ve Vf Vg Vh Vi Vj Vk Vl Vm Vn Vo Vp Vq Vr Vs Vt Vu Vv Vw Vx Vy Vz VA VB VC VD VE VF VG VH VI VJ VK VL VM VN VO VP VQ VR VS VT VU VV VW VX VY VZ W0 W1 W2 W3 W4 W5 W6 W7 W8 W9 Wa Wb Wc Wd We Wf Wg Wh Wi Wj Wk Wl Wm Wn Wo Wp Wq Wr Ws Wt Wu Wv : Value} {Q : Exit → Act → World → Prop}
    (hex : ∀ (U8 Ug V0 V1 V2 V3 V4 V5 V6 V7 V8 V9 Va Vb Vc Vd Ve Vf Vg : Value) (w' : World), Below wa.heap.size wa w' → Q (.exit 4) ⟨#[U0, U1, U2, U3, U4, U5, U6, U7, U8, U9, .pointer (some ⟨rb, 0, none⟩), Ub, .slice (some ⟨c, 0, none⟩) hl hcap, Ud, .int .i64 m, Uf, Ug, Uh, Ui, Uj, Uk, Ul, Um, Un, Uo, Up, Uq, Ur, Us, Ut, Uu, Uv, Uw, Ux, Uy, Uz, UA, UB, UC, UD, UE, UF, UG, UH, UI, UJ, UK, UL, UM, UN, UO, UP, UQ, UR, US, UT, UU, UV, UW, UX, UY, UZ, V0, V1, V2, V3, V4, V5, V6, V7, V8, V9, Va, Vb, Vc, Vd, Ve, Vf, Vg, Vh, Vi, Vj, Vk, Vl, Vm, Vn, Vo, Vp, Vq, Vr, Vs, Vt, Vu, Vv, Vw, Vx, Vy, Vz, VA, VB, VC, VD, VE, VF, VG, VH, VI, VJ, VK, VL, VM, VN, VO, VP, VQ, VR, VS, VT, VU, VV, VW, VX, VY, VZ, W0, W1, W2, W3, W4, W5, W6, W7, W8, W9, Wa, Wb, Wc, Wd, We, Wf, Wg, Wh, Wi, Wj, Wk, Wl, Wm, Wn, Wo, Wp, Wq, Wr, Ws, Wt, Wu, Wv], []⟩ w') :
    Code.wp Tryd.prog (ownB 4) Q ⟨#[U0, U1, U2, U3, U4, U5, U6, U7, U8, U9, .pointer (some ⟨rb, 0, none⟩), Ub, .slice (some ⟨c, 0, none⟩) hl hcap, Ud, .int .i64 m, Uf, .int .i64 0, Uh, Ui, Uj, Uk, Ul, Um, Un, Uo, Up, Uq, Ur, Us, Ut, Uu, Uv, Uw, Ux, Uy, Uz, UA, UB, UC, UD, UE, UF, UG, UH, UI, UJ, UK, UL, UM, UN, UO, UP, UQ, UR, US, UT, UU, UV, UW, UX, UY, UZ, V0, V1, V2, V3, V4, V5, V6, V7, V8, V9, Va, Vb, Vc, Vd, Ve, Vf, Vg, Vh, Vi, Vj, Vk, Vl, Vm, Vn, Vo, Vp, Vq, Vr, Vs, Vt, Vu, Vv, Vw, Vx, Vy, Vz, VA, VB, VC, VD, VE, VF, VG, VH, VI, VJ, VK, VL, VM, VN, VO, VP, VQ, VR, VS, VT, VU, VV, VW, VX, VY, VZ, W0, W1, W2, W3, W4, W5, W6, W7, W8, W9, Wa, Wb, Wc, Wd, We, Wf, Wg, Wh, Wi, Wj, Wk, Wl, Wm, Wn, Wo, Wp, Wq, Wr, Ws, Wt, Wu, Wv], []⟩ wa := by
  dsimp only at hex ⊢
  conv => arg 2; whnf
  go_loopw [16] (fun v16 wq => ∃ i : Nat, i ≤ 6 ∧ v16 = .int .i64 i ∧ Below wa.heap.size wa wq) (fun v16 _ => 6 - (intOf v16).toNat)
  case atStart => exact ⟨0, Nat.zero_le _, rfl, Below.refl _ _⟩
  case round =>
    obtain ⟨i, hi, rfl, hB⟩ := hrel
    by_cases hlt : i < 6
    · obtain ⟨pp, hpp⟩ : ∃ pp, hs[m + i]? = some pp := ⟨_, List.getElem?_eq_getElem (by have := HL.out; omega)⟩
      have d0 := HA.out.at_ hpp
      obtain ⟨hl1, B0⟩ := FA.out i pp (by omega) hpp
      obtain ⟨g, q⟩ := pp
      dsimp only at hl1 B0 d0
      have Ir := I.out.below hB
      have hrm : IntKind.i64.wrap (1 + (↑i : Int).tmod 3) = ((i % 3 + 1 : Nat) : Int) ∧ i % 3 + 1 ≤ 3 := by
        have : ∀ i : Nat, i < 6 → IntKind.i64.wrap (1 + (↑i : Int).tmod 3) = ((i % 3 + 1 : Nat) : Int) ∧ i % 3 + 1 ≤ 3 := by decide
        exact this i hlt
      obtain ⟨hr2, hk3⟩ := hrm
      have hk1 : 1 ≤ i % 3 + 1 := by omega
      obtain ⟨j, hjj⟩ : ∃ j, i % 3 + 1 = j := ⟨_, rfl⟩
      rw [hjj] at hr2 hk1 hk3 hl1 B0
      clear hjj
      subst hl1
      have RF := Lib.hid (ref11_Places_yes j hk1 hk3 rb rtb rgb ys wr.drew Ir.r.drew)
      have hle := (Ir.h.th.t j hk1 hk3).le
      have Br := B0.below hB B0.lt
      have hcl : c < wa.heap.size := World.block_lt_of_cell? wa _ d0
      have d1 : wr.cell? ⟨c, m + i, none⟩ = some (.slice (some ⟨g, 0, none⟩) (ys j).length (ys j).length) := (hB.cell hcl).trans d0
      have hclr : c < wr.heap.size := World.block_lt_of_cell? wr _ d1
      clear d0 B0 hpp Ir
      obtain ⟨xs, hxs⟩ : ∃ xs, ys j = xs := ⟨_, rfl⟩
      rw [hxs] at RF hle Br d1
      clear hxs
      have SF := Lib.hid (fun ga gb ca cb W ha hb => slots_is ga gb xs.length ca cb xs rfl hle W ha hb)
      have BR := Lib.hid Br
      clear Br
      have dW : ∀ w', Below wr.heap.size wr w' → w'.cell? ⟨c, m + i, none⟩ = some (.slice (some ⟨g, 0, none⟩) xs.length xs.length) := fun w' h => (h.cell hclr).trans d1
      have bD : Below wr.heap.size wr wr.drew := bdrew (Below.refl _ _)
      clear d1
      have hsum : IntKind.i64.wrap ((m : Int) + (i : Int)) = ((m + i : Nat) : Int) := by rw [IntWalk.i64_in _ (by omega)]; omega
      obtain ⟨n, hn⟩ : ∃ n, m + i = n := ⟨_, rfl⟩
      rw [hn] at hsum dW
      have n0 : (0 : Int) ≤ ↑n := by omega
      have n1 : (↑n : Int) < ↑hl := by omega
      clear hn
      go_wp2_with fail
      go_region_held3 (fun w' => Below wr.heap.size wr w') (first | with_reducible assumption | exact bdrew (Below.refl _ _))
        (first | (go_at_call 46; with_reducible refine (SF.out _ _ _ _ _ (RowAt.of (BR.out.below hB5 BR.out.lt)) hA5).mono ?_; rintro e w6 ⟨rfl, hB6⟩; have hB7 := bthen hB5 hB6)
               | (go_at_call 48; with_reducible refine RF.out.mono ?_; rintro e w5 ⟨g5, cap5, rfl, hA5, hg5, hB5'⟩; have hB5 := bthen bD hB5'))
      all_goals
        go_wp2_with fail
        go_roundw
        case rel => exact ⟨i + 1, by omega, by go_num, bthen hB hB7⟩
        case measure => simp [intOf]; omega
    · go_wp2_with fail
      exact hB
theorem OSt.own {w0 w w' : World} {N hb rb : Nat} {tb gb rtb rgb : Nat → Nat} {ys : Nat → List Slot} {v : Value} (I : OSt w0 N hb tb gb rb rtb rgb ys w) (L : OLow w0.heap.size N hb tb gb rb rtb rgb) (hz : 0 < w0.heap.size) (k : w.grownBy w' v.ownBlock) (hv : ∀ x, v.ownBlock = some x → N ≤ x) : OSt w0 N hb tb gb rb rtb rgb ys w' := by
  cases e : v.ownBlock with
  | none => rw [e] at k; exact I.below ⟨k.os, k.tape, k.output, k.size, fun i hi => k.block i hi (by simp)⟩
  | some g => rw [e] at k; exact I.one L hz (GrownS.ofOne k rfl) (hv g e)
theorem ownsRow_bel {w w1 : World} {N : Nat} {e : TypeId} {s : Nat} {v : Value} {n : Nat} {xs : List Value} (h : w.ownsRow N e s v n xs) (b : Below w.heap.size w w1) : w1.ownsRow N e s v n xs :=
  h.kept (row := none) ⟨b.os, b.tape, b.output, b.size, fun k hk _ => b.block k hk⟩ (by cases hv : v.ownBlock <;> simp)
set_option maxHeartbeats 12800000 in
set_option maxRecDepth 100000 in
theorem own_2 (m N hb rb : Nat) (tb gb rtb rgb : Nat → Nat) (ys : Nat → List Slot) (w0 : World) (L : OLow w0.heap.size N hb tb gb rb rtb rgb) (hz : 0 < w0.heap.size) (hh : m + 6 ≤ 9000000000000) (hs : List (Nat × Nat)) (HL : Hid (hs.length = m)) (v : Value) (wa : World) (HA : HeldAt wa N v hs m) (I : OSt w0 N hb tb gb rb rtb rgb ys wa)
    {U0 U1 U2 U3 U4 U5 U6 U7 U8 Ua Ub Ud Ug Uh Ui Uj Uk Ul Um Un Uo Up Uq Ur Us Ut Uu Uv Uw Ux Uy Uz UA UB UC UD UE UF UG UH UI UJ UK UL UM UN UO UP UQ UR US UT UU UV UW UX UY UZ V0 V1 V2 V3 V4 V5 V6 V7 V8 V9 Va Vb Vc Vd Ve Vf Vg Vh Vi Vj Vk Vl Vm Vn Vo Vp Vq Vr Vs Vt Vu Vv Vw Vx Vy Vz VA VB VC VD VE VF VG VH VI VJ VK VL VM VN VO VP VQ VR VS VT VU VV VW VX VY VZ W0 W1 W2 W3 W4 W5 W6 W7 W8 W9 Wa Wb Wc Wd We Wf Wg Wh Wi Wj Wk Wl Wm Wn Wo Wp Wq Wr Ws Wt Wu Wv : Value} {Q : Exit → Act → World → Prop}
    (hex : ∀ (Uf UO UP UQ UR US UT UU UV UW UX UY UZ : Value) (c hl hcap : Nat) (hs' : List (Nat × Nat)) (w' : World), (hs'.length = m + 6 ∧ hs'.length = hl ∧ HeldAt w' N (.slice (some ⟨c, 0, none⟩) hl hcap) hs' m ∧ FreshAt w' hs' m m ys ∧ OSt w0 N hb tb gb rb rtb rgb ys w') → Q (.exit 2) ⟨#[U0, U1, U2, U3, U4, U5, U6, U7, U8, .pointer (some ⟨hb, 0, none⟩), Ua, Ub, .slice (some ⟨c, 0, none⟩) hl hcap, Ud, .int .i64 m, Uf, Ug, Uh, Ui, Uj, Uk, Ul, Um, Un, Uo, Up, Uq, Ur, Us, Ut, Uu, Uv, Uw, Ux, Uy, Uz, UA, UB, UC, UD, UE, UF, UG, UH, UI, UJ, UK, UL, UM, UN, UO, UP, UQ, UR, US, UT, UU, UV, UW, UX, UY, UZ, V0, V1, V2, V3, V4, V5, V6, V7, V8, V9, Va, Vb, Vc, Vd, Ve, Vf, Vg, Vh, Vi, Vj, Vk, Vl, Vm, Vn, Vo, Vp, Vq, Vr, Vs, Vt, Vu, Vv, Vw, Vx, Vy, Vz, VA, VB, VC, VD, VE, VF, VG, VH, VI, VJ, VK, VL, VM, VN, VO, VP, VQ, VR, VS, VT, VU, VV, VW, VX, VY, VZ, W0, W1, W2, W3, W4, W5, W6, W7, W8, W9, Wa, Wb, Wc, Wd, We, Wf, Wg, Wh, Wi, Wj, Wk, Wl, Wm, Wn, Wo, Wp, Wq, Wr, Ws, Wt, Wu, Wv], []⟩ w') :
    Code.wp Tryd.prog (ownB 2) Q ⟨#[U0, U1, U2, U3, U4, U5, U6, U7, U8, .pointer (some ⟨hb, 0, none⟩), Ua, Ub, v, Ud, .int .i64 m, .int .i64 0, Ug, Uh, Ui, Uj, Uk, Ul, Um, Un, Uo, Up, Uq, Ur, Us, Ut, Uu, Uv, Uw, Ux, Uy, Uz, UA, UB, UC, UD, UE, UF, UG, UH, UI, UJ, UK, UL, UM, UN, UO, UP, UQ, UR, US, UT, UU, UV, UW, UX, UY, UZ, V0, V1, V2, V3, V4, V5, V6, V7, V8, V9, Va, Vb, Vc, Vd, Ve, Vf, Vg, Vh, Vi, Vj, Vk, Vl, Vm, Vn, Vo, Vp, Vq, Vr, Vs, Vt, Vu, Vv, Vw, Vx, Vy, Vz, VA, VB, VC, VD, VE, VF, VG, VH, VI, VJ, VK, VL, VM, VN, VO, VP, VQ, VR, VS, VT, VU, VV, VW, VX, VY, VZ, W0, W1, W2, W3, W4, W5, W6, W7, W8, W9, Wa, Wb, Wc, Wd, We, Wf, Wg, Wh, Wi, Wj, Wk, Wl, Wm, Wn, Wo, Wp, Wq, Wr, Ws, Wt, Wu, Wv], []⟩ wa := by
  dsimp only at hex ⊢
  conv => arg 2; whnf
  obtain ⟨ii, hii, hz0, hz1, hz2⟩ := info_parts slots_info
  have HII := Lib.hid (And.intro hii (And.intro hz0 (And.intro hz1 hz2)))
  clear hii hz0 hz1 hz2
  go_loopw [12, 15] (fun v12 v15 wq => ∃ (i : Nat) (hs : List (Nat × Nat)), i ≤ 6 ∧ v15 = .int .i64 i ∧ hs.length = m + i ∧ HeldAt wq N v12 hs m ∧ FreshAt wq hs m m ys ∧ OSt w0 N hb tb gb rb rtb rgb ys wq) (fun _ v15 _ => 6 - (intOf v15).toNat)
  case atStart => exact ⟨0, hs, Nat.zero_le _, rfl, HL.out, HA, fun i p _ hp => by (have := (List.getElem?_eq_some_iff.1 hp).1; have := HL.out; omega), I⟩
  case round =>
    clear HA I HL hs
    obtain ⟨i, hs, hi, rfl, hl, HA, FA, I⟩ := hrel
    by_cases hlt : i < 6
    · have hr2 : 1 + (↑i : Int) % 3 = ((i % 3 + 1 : Nat) : Int) := by omega
      have hk3 : i % 3 + 1 ≤ 3 := by omega
      have hk1 : 1 ≤ i % 3 + 1 := by omega
      have hpos := (I.h.th.t (i % 3 + 1) hk1 hk3).pos
      have hle := (I.h.th.t (i % 3 + 1) hk1 hk3).le
      have hN := I.n
      have HF := hier_Places_yes (i % 3 + 1) hk1 hk3 hb tb gb ys wr I.h
      have hli : hs.length - m = i := by omega
      have PU := Lib.hid (fun (w1 w2 : World) (g cap : Nat) (o : Obj) (b1 : Below wr.heap.size wr w1) (z1 : wr.heap.size < w1.heap.size) (B1 : Blok w1 wr.heap.size 50 (rowCells (ys (i % 3 + 1)))) own gr hat => HA.push (n := (ys (i % 3 + 1)).length) (g := g) (cap := cap) (o := o) (w2 := w2) (by omega) FA hN b1 z1 ⟨hpos, hle⟩ (by rw [hli]; exact B1) (by rw [hli]) (by omega) own gr hat)
      obtain ⟨j, hj⟩ : ∃ j, i % 3 + 1 = j := ⟨_, rfl⟩
      rw [hj] at hr2 hk1 hk3 hpos hle HF PU
      obtain ⟨q, hq⟩ : ∃ q, (ys j).length = q := ⟨_, rfl⟩
      rw [hq] at hpos hle HF PU
      have HQ := Lib.hid hq
      have OWN := Lib.hid HA.row
      have HLL := Lib.hid hl
      have HF1 := Lib.hid HF
      clear hj hq hli HA FA hl HF
      go_wp2_with fail
      with_reducible refine HF1.out.mono ?_
      rintro e w8 ⟨rfl, B8, z8, b8⟩
      have OWN1 := Lib.hid ((ownsRow_bel OWN.out b8).alloc (.cells #[.slice (some ⟨wr.heap.size, 0, none⟩) q q] 45))
      have NM : Hid (∀ x u, [.slice (some ⟨wr.heap.size, 0, none⟩) q q][x]? = some u → (w8.alloc (.cells #[.slice (some ⟨wr.heap.size, 0, none⟩) q q] 45)).cell? ((⟨w8.heap.size, 0, none⟩ : Addr).add x) = some u) := Lib.hid (World.news_of_block (cs := #[.slice (some ⟨wr.heap.size, 0, none⟩) q q]) (heap_alloc_new w8 _))
      have hN8 : N ≤ w8.heap.size + 1 := by have := b8.size; omega
      have Z8 := Lib.hid z8
      clear z8
      go_wp2_with (refine wpList_append_hold rfl (.tmp 54) (.tmp 60) 90 rfl N 45 ii _ 24 Tryd.underlying90 HII.out.1 HII.out.2.1 HII.out.2.2.1 HII.out.2.2.2 rfl _ hs.length (hs.map heldV) rfl OWN1.out ⟨w8.heap.size, 0, none⟩ (.slice (some ⟨wr.heap.size, 0, none⟩) q q) rfl NM.out (by intro y hy; obtain rfl := List.mem_singleton.1 hy; rfl) (by unfold maxLen; have := HLL.out; omega) (by have := HLL.out; omega) (by simp; omega) ?_; intro g cap w9 own9 gr9 hat9 hlt9)
      obtain ⟨H9, F9⟩ := PU.out w8 w9 g cap _ b8 (by rw [Z8.out]; omega) B8 own9 gr9 hat9
      have I9 : OSt w0 N hb tb gb rb rtb rgb ys w9 := (I.below (b8.alloc b8.size _)).own L hz gr9 (fun x hx => (OWN.out.lt x hx).1)
      clear PU own9 gr9 hat9 hlt9 OWN1 NM HF1 B8 b8
      go_roundw
      case rel => exact ⟨i + 1, hs ++ [(wr.heap.size, q)], by omega, by go_num, by simp; have := HLL.out; omega, H9, F9, I9⟩
      case measure => simp [intOf]; omega
    · have e6 : hs.length = m + 6 := by omega
      obtain ⟨c, cap, rfl, _, _⟩ := HA.row.form (by omega)
      go_wp2_with fail
      refine hex _ _ _ _ _ _ _ _ _ _ _ _ _ c _ cap hs _ ⟨e6, rfl, HA, FA, I⟩
end Go.Proofs.YtngcpcgioophcaaDoor

namespace Go.Proofs.YtngcpcgioophcaaDoor
open Go.ChangeShapes Go.WideShapes Go.RowKit Go.Deep Flat

section
set_option maxRecDepth 100000
variable {H : Type} {enc : TypeId × Value → H} {W : World} {spare : Nat → Bool} {held : Bool} {r : Reach} {b0 : Nat} {v : Value} {d : DataW H} {p : List MemPlace}
theorem of_op11Kv {cs : List Value} (h : fitsAll op11K cs) : ∃ o : Op11, cs = op11Cells o ∧ o.Ok ∧ 0 ≤ o.va ∧ o.va ≤ 4294967295 := by
  have hl := fitsAll_len h
  match cs, hl with
  | [u0, u1, u2, u3, u4, u5, u6, v0, v1, v2, v3, v4, v5, v6, v7, v8, d0, d1, d2], _ =>
    obtain ⟨⟨m0, rfl, g0⟩, ⟨m1, rfl, g1⟩, ⟨m2, rfl, g2⟩, ⟨m3, rfl, g3⟩, ⟨m4, rfl, g4⟩, ⟨m5, rfl⟩, ⟨m6, rfl⟩, ⟨n0, rfl, h0⟩, ⟨n1, rfl, h1⟩, ⟨n2, rfl, h2⟩, ⟨n3, rfl, h3⟩, ⟨n4, rfl, h4⟩, ⟨n5, rfl, h5⟩, ⟨n6, rfl, h6⟩, ⟨n7, rfl⟩, ⟨n8, rfl⟩, ⟨e0, rfl, f0⟩, ⟨e1, rfl, f1⟩, ⟨e2, rfl, f2⟩, _⟩ := h
    exact ⟨⟨m0, m1, m2, m3, m4, m5, m6, ⟨n0, n1, n2, n3, n4, n5, n6, n7, n8⟩, ⟨e0, e1, e2⟩⟩, rfl, ⟨(bnd_i64 g2).1, (bnd_i64 g2).2, ⟨(bnd_i64 h0).1, (bnd_i64 h0).2, (bnd_i64 h1).1, (bnd_i64 h1).2, (bnd_u32 h2).1, (bnd_u32 h2).2, (bnd_u64 h3).1, (bnd_u64 h3).2, (bnd_i64 h4).1, (bnd_i64 h4).2, (bnd_i64 h5).1, (bnd_i64 h5).2, (bnd_u32 h6).1, (bnd_u32 h6).2⟩⟩, (bnd_u32 g4).1, (bnd_u32 g4).2⟩
theorem cells_op11' : Tryd.prog.cellsOf 79 = op11K.length := by kernel_rfl
theorem open_ops11v (hv : Value.okWide Tryd.prog W r b0 70 v) (h : DataW.Trod enc Tryd.prog W 0 spare held 70 v d p) :
    ∃ (q : Option Addr) (cap : Nat) (os : List Op11), v = .slice q os.length cap ∧ OpsIn11 W.heap.size W q os ∧ (∀ o ∈ os, o.Ok ∧ 0 ≤ o.va ∧ o.va ≤ 4294967295) ∧ os.length ≤ maxLen ∧ (os.length = 0 ∨ ∃ es sp, d = .slice es sp ∧ es.length = os.length) := by
  obtain ⟨q, len, cap, R, rfl, hm, hd, hR⟩ := open_rows Tryd.underlying70 flat_op11 cells_op11' (by decide) hv h
  have each : ∀ i, i < len → ∃ o : Op11, (o.Ok ∧ 0 ≤ o.va ∧ o.va ≤ 4294967295) ∧ R i = op11Cells o := fun i hi => by
    obtain ⟨b, hb, ho⟩ := of_op11Kv (hR i hi).1
    exact ⟨b, ho, hb⟩
  obtain ⟨O, hO⟩ := choose_lt2 each
  have hlen : ((List.range len).map O).length = len := by simp
  refine ⟨q, cap, (List.range len).map O, by rw [hlen], ?_, ?_, by rw [hlen]; exact hm, by rw [hlen]; exact hd⟩
  · intro i b hi
    have hil : i < len := by have := (List.getElem?_eq_some_iff.1 hi).1; simpa using this
    have e : b = O i := by simpa [hil] using hi.symm
    subst e
    obtain ⟨_, g, k0, hq, hg, hc⟩ := hR i hil
    refine ⟨g, k0, hq, hg, fun j u hj => ?_⟩
    rw [← (hO i hil).2] at hj
    exact hc j u hj
  · intro b hb
    obtain ⟨i, hi, rfl⟩ := List.mem_map.1 hb
    exact (hO i (List.mem_range.1 hi)).1
end
end Go.Proofs.YtngcpcgioophcaaDoor
namespace Go.Proofs.YtngcpcgioophcaaDoor
open Go.RowKit

theorem ownsRow_slice {w : World} {N : Nat} {e : TypeId} {s n : Nat} {v : Value} {xs : List Value} (h : w.ownsRow N e s v n xs) : ∃ A cap, v = .slice A n cap := by
  rcases h.2 with ⟨rfl, rfl⟩ | ⟨g, cap, cur, rfl, _⟩
  · exact ⟨_, _, rfl⟩
  · exact ⟨_, _, rfl⟩
theorem OLow.in6 {B N hb rb : Nat} {tb gb rtb rgb : Nat → Nat} (L : OLow B N hb tb gb rb rtb rgb) : ∀ i, In6 gb rgb i → i < N := by
  rintro i (⟨k, a, c, rfl⟩ | ⟨k, a, c, rfl⟩)
  · exact (L.h.2 k a c).2
  · exact (L.r.2 k a c).1
set_option maxHeartbeats 12800000 in
set_option maxRecDepth 100000 in
theorem own_yes (n1 n2 n3 : Nat) (a1 : 1 ≤ n1) (b1 : n1 ≤ 64) (a2 : 1 ≤ n2) (b2 : n2 ≤ 64) (a3 : 1 ≤ n3) (b3 : n3 ≤ 64) (p : Option Addr) (cap : Nat) (os : List Op11) (hos : ∀ o ∈ os, o.Ok) (hsz : os.length * 120 ≤ 140737488351232) (w : World) (hs : Shf w) (hO : OpsIn11 w.heap.size w p os) :
    Calls Tryd.prog 15 #[.int .i64 n1, .int .i64 n2, .int .i64 n3, .slice p os.length cap] w fun e w' => e = .returned (.bool true) ∧ Below w.heap.size w w' := by
  have hml : os.length ≤ 1200000000000 := by omega
  clear hsz
  have hz0 := hs.pos
  have BY := Lib.hid (both_yes n1 n2 n3 a1 b1 a2 b2 a3 b3 w hs)
  have hro := rows3_ok n1 n2 n3
  obtain ⟨xs0, hxs0⟩ : ∃ xs0, rows3 n1 n2 n3 = xs0 := ⟨_, rfl⟩
  rw [hxs0] at BY hro
  clear hxs0
  go_enter Tryd.func15, Tryd.ntmps15
  go_wp2_with (go_at_call 44; refine BY.out.mono ?_; rintro e w1 ⟨M, hb, tb, gb, rb, rtb, rgb, rfl, hH1, hR1, ap, hf, hM, hs1, hB1⟩)
  have LO : OLow w.heap.size w1.heap.size hb tb gb rb rtb rgb := ⟨hB1.size, ⟨hH1.b.lt, fun k a c => ⟨(hH1.th.t k a c).hd.lt, (hH1.th.t k a c).sl.lt⟩⟩, ⟨hR1.b.lt, fun k a c => ⟨(hR1.th.t k a c).sl.lt, (hR1.th.t k a c).hd.lt⟩⟩⟩
  have far := In6.far ap hf hM
  have in6 := LO.in6
  obtain ⟨N, hN⟩ : ∃ N, w1.heap.size = N := ⟨_, rfl⟩
  rw [hN] at LO in6
  have I1 : OSt w N hb tb gb rb rtb rgb (stepsR (os.take 0) xs0) w1 := ⟨hH1, hR1, hs1, hB1, Nat.le_of_eq hN.symm⟩
  have H1 : HeldAt w1 N (.slice none 0 0) [] 0 := ⟨⟨rfl, .inl ⟨rfl, rfl⟩⟩, (fun p hp => by cases hp), List.Pairwise.nil, (fun i p hi => by omega)⟩
  clear BY hf hM hN hH1 hR1 hs1 hB1
  go_loopw [12, 13] (fun v12 v13 wr => ∃ (k : Nat) (hs : List (Nat × Nat)), k ≤ os.length ∧ v13 = .int .i64 k ∧ hs.length = 6 * k ∧ HeldAt wr N v12 hs (6 * k) ∧ OSt w N hb tb gb rb rtb rgb (stepsR (os.take k) xs0) wr) (fun _ v13 _ => os.length - (intOf v13).toNat)
  case atStart => exact ⟨0, [], Nat.zero_le _, rfl, rfl, H1, I1⟩
  case round =>
    clear H1 I1
    obtain ⟨k, hs, hk, rfl, hl, HA, I⟩ := hrel
    by_cases hlt : k < os.length
    · obtain ⟨o, hok⟩ : ∃ o, os[k]? = some o := ⟨_, List.getElem?_eq_getElem hlt⟩
      obtain ⟨b, k0, hp, hbl, hc⟩ := hO k o hok
      subst hp
      have hrg : wr.rangeAt b (k0 + k * 19) (op11Cells o) := fun j v hv => (I.b.cell hbl).trans (hc j v hv)
      have hoo := hos o (List.mem_of_getElem? hok)
      have hrow := stepsR_ok (os.take k) (fun o ho => hos o (List.mem_of_mem_take ho)) _ hro
      have hst : stepsR (os.take (k + 1)) xs0 = stepR o (stepsR (os.take k) xs0) := by rw [take_snoc os k o hok, stepsR_snoc]
      have ST : Hid (Calls Tryd.prog 45 #[.pointer (some ⟨hb, 0, none⟩), .pointer (some ⟨rb, 0, none⟩), .agg (op11Cells o).toArray] wr (StepPost hb tb gb rb rtb rgb (stepR o (stepsR (os.take k) xs0)) wr)) := Lib.hid (step_is o hoo 0 M hb rb tb gb rtb rgb _ hrow wr I.s I.h I.r ap)
      have hzz := I.h.zz I.r
      rw [← hst] at ST
      obtain ⟨ys, hys⟩ : ∃ ys, stepsR (os.take (k + 1)) xs0 = ys := ⟨_, rfl⟩
      rw [hys] at ST
      have HYS := Lib.hid hys
      obtain ⟨A, ca, rfl⟩ := ownsRow_slice HA.row
      obtain ⟨m, hm⟩ : ∃ m, hs.length = m := ⟨_, rfl⟩
      rw [hm] at HA
      have hm6 : m = 6 * k := by omega
      rw [← hm6] at HA
      have HM := Lib.hid hm6
      have hmb : m + 6 ≤ 9000000000000 := by omega
      have HL := Lib.hid hm
      clear hc hok hrow hst hys hl hm6
      rw [hm]
      clear hm
      go_upto_block 2 with (first | (refine wpList_load_mid rfl 79 (.tmp 44) rfl b (k0 + k * 19) rfl (op11Cells o) _ hrg Tryd.underlying79 rfl (by kernel_rfl) ?_) | (go_at_call 45; refine ST.out.mono ?_; rintro e w3 ⟨rfl, hH3, hR3, hG3⟩))
      have I3 : OSt w N hb tb gb rb rtb rgb ys w3 := ⟨hH3, hR3, I.s.gs hG3 hzz, I.b.trans (hG3.bel I.b.size far), Nat.le_trans I.n hG3.size⟩
      have HA3 := HA.keep hG3.size (fun g h1 h2 => hG3.block g h2 (fun c => by have := in6 g c; omega))
      clear hH3 hR3 hG3 HA I ST hrg
      refine wp_block ?_
      refine own_2 m N hb rb tb gb rtb rgb ys w LO hz0 hmb hs HL _ w3 HA3 I3 ?_
      clear I3 HA3 HL hs
      intros
      rename_i c hl hcap hs w4 H4
      obtain ⟨h6, HL, HA, FA, I⟩ := H4
      have l1 : hl ≤ m + 6 := by omega
      have l2 : m + 6 ≤ hl := by omega
      have hh : hl ≤ 9000000000000 := by omega
      have HL := Lib.hid HL
      have H6 := Lib.hid h6
      clear h6
      go_upto_block 4 with fail
      refine wp_block ?_
      refine own_4 c hl hcap m N hb rb tb gb rtb rgb ys w hh l1 l2 hs HL w4 (Lib.hid HA) (Lib.hid FA) (Lib.hid I) ?_
      intros
      rename_i w5 b5
      have FA5 := FA.below HA b5
      have HA5 := HA.below b5
      have I5 := I.below b5
      clear FA HA I b5
      go_upto_block 6 with fail
      refine wp_block ?_
      refine own_6 c hl hcap m N hb rb tb gb rtb rgb ys w LO hz0 hh l1 l2 hs HL w5 HA5 FA5 I5 ?_
      clear FA5 HA5 I5
      intros
      rename_i w6 H6'
      obtain ⟨HA6, I6⟩ := H6'
      have e6 : m + 6 = hl := by omega
      rw [e6] at HA6
      clear e6
      go_upto_block 12 with fail
      refine wp_block ?_
      refine own_12 _ os.length cap c hl hcap k N _ _ rfl rfl (by omega) (by omega) hh hs HL w6 (Lib.hid HA6) ?_
      intros
      rename_i w7 b7
      have HA7 := HA6.below b7
      have I7 := I6.below b7
      have e7 : hl = 6 * (k + 1) := by have := HM.out; omega
      have E7 := Lib.hid e7
      clear HA6 I6 e7
      go_wp2_with fail
      go_roundw
      case rel => exact ⟨k + 1, hs, by omega, by go_num, by rw [HL.out, E7.out], by rw [← E7.out]; exact HA7, by rw [HYS.out]; exact I7⟩
      case measure => simp [intOf]; omega
    · go_wp2_with fail
      go_ret
      exact ⟨rfl, I.b⟩
theorem HierOwn_walk (n1 n2 n3 : Int) (p : Option Addr) (cap : Nat) (os : List Op11) (hos : ∀ o ∈ os, o.Ok ∧ 0 ≤ o.va ∧ o.va ≤ 4294967295) (hsz : os.length * 120 ≤ 140737488351232) (w : World) (hs : Shf w) (hO : OpsIn11 w.heap.size w p os) :
    Calls Tryd.prog 15 #[.int .i64 n1, .int .i64 n2, .int .i64 n3, .slice p os.length cap] w fun e w' => e = .returned (.bool true) ∧ Below w.heap.size w w' := by
  by_cases h : Ok1 n1 ∧ Ok1 n2 ∧ Ok1 n3
  · obtain ⟨⟨a1, b1⟩, ⟨a2, b2⟩, ⟨a3, b3⟩⟩ := h
    obtain ⟨m1, rfl⟩ := Int.eq_ofNat_of_zero_le (show 0 ≤ n1 by omega)
    obtain ⟨m2, rfl⟩ := Int.eq_ofNat_of_zero_le (show 0 ≤ n2 by omega)
    obtain ⟨m3, rfl⟩ := Int.eq_ofNat_of_zero_le (show 0 ≤ n3 by omega)
    exact own_yes m1 m2 m3 (by omega) (by omega) (by omega) (by omega) (by omega) (by omega) p cap os (fun o ho => (hos o ho).1) hsz w hs hO
  · have BN := Lib.hid (both_no n1 n2 n3 h w)
    clear h
    go_enter Tryd.func15, Tryd.ntmps15
    go_wp2_with (go_at_call 44; refine BN.out.mono ?_; rintro e w1 ⟨rfl, hB1⟩)
    go_ret
    exact ⟨rfl, hB1⟩
end Go.Proofs.YtngcpcgioophcaaDoor

namespace Go.Proofs.YtngcpcgioophcaaDoor.hierOwn
open Go.ChangeShapes Go.WideShapes Go.ChangeAt Go.RowKit
set_option maxRecDepth 100000

theorem contract (H : Type) (enc : TypeId × Value → H) (W : World) (base : Nat) (args : Array Value) (ds gs : List (DataW H)) (before : List MemPlace)
    (hval : ∀ (j : Nat) t v, Tryd.f15.params[j]? = some t → args[j]? = some v → Value.okWide Tryd.prog W .any base t v)
    (hW : DataW.Whole enc Tryd.prog Tryd.f15.params.toList Rows.hierOwnSpec.vars false W args.toList ds gs before) (hL : laidMetH Tryd.prog Rows.hierOwnRow.laid W) (hsz0 : (DataW.weightsEach Tryd.prog (Tryd.f15.params.toList ++ (OpenSpec.ofChange Rows.hierOwnSpec).bare.plain.varTypes Tryd.prog) (ds ++ gs)).all (· ≤ reachBytes) = true) :
    Calls Tryd.prog 15 args W fun e W' => ∃ v, e = .returned v ∧ Rows.hierOwnSpec.post enc Tryd.prog Tryd.f15 false true false false W args v W' := by
  have hW' := hW
  obtain ⟨p, q, hA0, hV, rfl, hfz, hnd⟩ := hW
  have hA : DataW.TrodAll enc Tryd.prog W 0 (fun _ => true) true Tryd.f15.params.toList args.toList ds p := hA0
  rw [Tryd.params15] at hA hval
  rw [Tryd.params15] at hsz0
  obtain ⟨v0, vs0, d0, ds0, p0, q0, hargs, rfl, rfl, h0, r0⟩ := trodAll_cons hA
  obtain ⟨v1, vs1, d1, ds1, p1, q1, rfl, rfl, rfl, h1, r1⟩ := trodAll_cons r0
  obtain ⟨v2, vs2, d2, ds2, p2, q2, rfl, rfl, rfl, h2, r2⟩ := trodAll_cons r1
  obtain ⟨v3, vs3, d3, ds3, p3, q3, rfl, rfl, rfl, h3, r3⟩ := trodAll_cons r2
  obtain ⟨rfl, rfl, rfl⟩ := trodAll_nil r3
  obtain rfl : args = #[v0, v1, v2, v3] := by cases args; simp_all
  obtain ⟨rfl, rfl⟩ := trodVars_none hV
  have k0 := h0
  have lt0 : ∀ x ∈ p0, x.block < W.heap.size := by obtain ⟨m, hm⟩ := k0; exact DataW.trod_lt m _ _ _ hm
  obtain ⟨a0, rfl, _, _, w0⟩ := open_int Tryd.underlying3 (hval 0 3 v0 rfl rfl) h0
  have k1 := h1
  have lt1 : ∀ x ∈ p1, x.block < W.heap.size := by obtain ⟨m, hm⟩ := k1; exact DataW.trod_lt m _ _ _ hm
  obtain ⟨a1, rfl, _, _, w1⟩ := open_int Tryd.underlying3 (hval 1 3 v1 rfl rfl) h1
  have k2 := h2
  have lt2 : ∀ x ∈ p2, x.block < W.heap.size := by obtain ⟨m, hm⟩ := k2; exact DataW.trod_lt m _ _ _ hm
  obtain ⟨a2, rfl, _, _, w2⟩ := open_int Tryd.underlying3 (hval 2 3 v2 rfl rfl) h2
  have k3 := h3
  have lt3 : ∀ x ∈ p3, x.block < W.heap.size := by obtain ⟨m, hm⟩ := k3; exact DataW.trod_lt m _ _ _ hm
  obtain ⟨q_3, c3, a3, rfl, e3, o3, x3, y3⟩ := open_ops11v (hval 3 70 v3 rfl rfl) h3
  clear hA0
  have z3 : a3.length * 120 ≤ 140737488351232 := by
    rcases y3 with h | ⟨es, sp, hd, hl⟩
    · rw [h]; omega
    · have hb : Tryd.prog.bytesOf 79 = 120 := by kernel_rfl
      have := sized_slice hsz0 (j := 3) (t := 70) (e := 79) rfl (by rw [hd]; rfl) Tryd.underlying70
      rw [hb] at this
      unfold reachBytes at this
      omega
  have hT := table hL
  refine (HierOwn_walk a0 a1 a2 q_3 c3 a3 o3 z3 W hT e3).mono fun e W' ⟨he, bel⟩ => ?_
  subst he
  exact ⟨_, rfl, _, _, _, [], _, [], hW', trodAll_mk1 (shut_bool Tryd.underlying4 _), (trodAll_cons_mk (Below.trod laidOut (by kernel_rfl) (of_decide_eq_true (by kernel_rfl)) k0 bel lt0) (trodAll_cons_mk (Below.trod laidOut (by kernel_rfl) (of_decide_eq_true (by kernel_rfl)) k1 bel lt1) (trodAll_cons_mk (Below.trod laidOut (by kernel_rfl) (of_decide_eq_true (by kernel_rfl)) k2 bel lt2) (trodAll_cons_mk (Below.trod laidOut (by kernel_rfl) (of_decide_eq_true (by kernel_rfl)) k3 bel lt3) trodAll_mk0)))), rfl, bel.frame _, fun h => by cases h⟩

/-- A world for the witness: the settled one, the table holding what its initialiser lays. -/
noncomputable def laidWorld (os : Os) : World :=
  { World.holding Tryd.prog os ⟨#[], #[], []⟩ with heap := (World.holding Tryd.prog os ⟨#[], #[], []⟩).heap.modify 0 fun
      | .cells _ t frozen => .cells #[.int .u64 0, .int .u64 12, .int .u64 16, .int .u64 20, .int .u64 24] t frozen
      | o => o }
theorem laid_met (os : Os) : laidMet Tryd.prog Rows.hierOwnRow.laid ((laidWorld os).forCall (fun _ _ => 0) ⟨#[], #[.int .i64 0, .int .i64 0, .int .i64 0, .slice none 0 0], []⟩).memory :=
  laidMet_of_run' 8 (by kernel_rfl) (by kernel_rfl)
theorem reads (os : Os) {H : Type} (enc : TypeId × Value → H) : ∃ places, DataW.whole enc Tryd.prog ((laidWorld os).forCall (fun _ _ => 0) ⟨#[], #[.int .i64 0, .int .i64 0, .int .i64 0, .slice none 0 0], []⟩).memory Tryd.f15.params.toList Rows.hierOwnSpec.vars false (#[.int .i64 0, .int .i64 0, .int .i64 0, .slice none 0 0] : Array Value).toList 8 = some ([.lit (.int .i64 0), .lit (.int .i64 0), .lit (.int .i64 0), .nil], [], places) :=
  ⟨[], by kernel_rfl⟩
theorem lifted (os : Os) (started : os.Started) (H : Type) (enc : TypeId × Value → H) (F : Stop.Interp) :
    ReturnsInHanded {} Tryd.checked os 15 .any ((OpenSpec.ofChange Rows.hierOwnSpec).preRow enc Tryd.prog Tryd.f15 Rows.hierOwnRow.domain false Rows.hierOwnRow.laid) (((OpenSpec.ofChange Rows.hierOwnSpec).at F).post enc Tryd.prog Tryd.f15 false true false false) := by
  obtain ⟨places, hx⟩ := reads os enc
  refine returnsInHanded_of_row (C := Tryd.checked) (s := OpenSpec.ofChange Rows.hierOwnSpec) own started (by kernel_rfl) Tryd.func15
    (witness_row_at (enc := enc) (C := Tryd.checked) false (laidWorld os) #[.int .i64 0, .int .i64 0, .int .i64 0, .slice none 0 0] rfl (by kernel_rfl) (by kernel_rfl) (by kernel_rfl)
      (OpenSpec.preRow_of_cond 8 hx (by kernel_rfl) (fun k hk => by cases hk) (by kernel_rfl) (laid_met os))) ?_
  intro W base args ds gs before hval hW _ _ hsz hL _ _
  exact contract H enc W base args ds gs before hval hW hL hsz
theorem said : Rows.HierOwnSaid :=
  OpenClaim.holds_of_cond 15 Tryd.f15 rfl rfl rfl rfl rfl rfl rfl ⟨rfl, rfl, rfl, rfl, rfl⟩ rfl rfl rfl rfl rfl (by kernel_rfl) Tryd.func15 (by kernel_rfl)
    (of_decide_eq_true (by kernel_rfl)) (by unfold Func.isWrapper; first | (rw [if_pos (by decide +kernel)]; kernel_rfl) | (rw [if_neg (by decide +kernel)]; exact ⟨rfl, rfl⟩))
    (fun os started H enc _ F => by rw [OpenClaim.pre_eq_preRow]; exact lifted os started H enc F)
theorem plain (f : FuncId) (fn : Func) (hf : Tryd.pinned.checked.prog.funcNamed "atlas/atlaslaw11.HierOwn" = some f) (hfn : Tryd.pinned.checked.prog.funcs[f]? = some fn) :
    false = Tryd.pinned.checked.prog.looks [] ∧ ∀ (j : Nat) t, fn.params[j]? = some t → Tryd.pinned.checked.prog.wantsStandIn t = false := by
  obtain rfl : f = 15 := Option.some.inj ((show Tryd.prog.funcNamed "atlas/atlaslaw11.HierOwn" = some 15 by kernel_rfl).symm.trans hf) |>.symm
  obtain rfl : fn = Tryd.f15 := (Option.some.inj (Tryd.func15.symm.trans hfn)).symm
  refine ⟨by kernel_rfl, fun j t ht => ?_⟩
  rw [Tryd.params15] at ht
  have hm := Array.mem_of_getElem? ht
  simp only [List.mem_toArray, List.mem_cons, List.not_mem_nil, or_false] at hm
  rcases hm with rfl | rfl | rfl | rfl
  all_goals first | exact (show Tryd.prog.wantsStandIn _ = false by kernel_rfl)
theorem card : Rows.HierOwnCardSaid :=
  Claim7.holds_tied_plain_at .later [] _ _ _ _ said (fun _ h => by cases h) (by kernel_rfl) (fun _ h => by cases h) hierOwn_row_tie rfl ⟨rfl, rfl⟩ (by kernel_rfl) rfl plain (by kernel_rfl)
#print axioms card
end Go.Proofs.YtngcpcgioophcaaDoor.hierOwn
