/- A script of layer 8 in memory: a slice of calls, each of 8 cells; and how it reads. -/
import Derived.Test.YtakihcdolpocjaaDoorCRead
import Derived.Deep.Slices
import Derived.Deep.WholeRow
import Derived.Below
namespace Go.Proofs.YtakihcdolpocjaaDoor
open Go.ChangeShapes Go.WideShapes Go.RowKit Go.Deep Go.Proofs.YtakihcdolpocjaaDoor.Flat
set_option maxRecDepth 100000

structure Op8 where
  kind : Int
  t : Tup
  priv : Bool
  word : Int
  reg : Int
def op8Cells (o : Op8) : List Value := [.int .i64 o.kind, .int .i64 o.t.crn, .int .i64 o.t.op1, .int .i64 o.t.crm, .int .i64 o.t.op2, .bool o.priv, .int .u32 o.word, .int .i64 o.reg]
structure Op8.Ok (o : Op8) : Prop where
  w0 : 0 ≤ o.word
  w1 : o.word ≤ 4294967295
instance : Inhabited Op8 := ⟨⟨0, ⟨0, 0, 0, 0⟩, false, 0, 0⟩⟩
/-- the calls os lie behind p, in a block below B -/
def OpsIn8 (B : Nat) (w : World) (p : Option Addr) (os : List Op8) : Prop :=
  ∀ i o, os[i]? = some o → ∃ b k, p = some ⟨b, k, none⟩ ∧ b < B ∧ ∀ j v, (op8Cells o)[j]? = some v → w.cell? ⟨b, k + i * 8 + j, none⟩ = some v
theorem OpsIn8.below {B : Nat} {w w' : World} {p : Option Addr} {os : List Op8} (h : OpsIn8 B w p os) (hb : Below B w w') : OpsIn8 B w' p os := by
  intro i o hi
  obtain ⟨b, k, hp, hb', hc⟩ := h i o hi
  exact ⟨b, k, hp, hb', fun j v hv => (hb.cell hb').trans (hc j v hv)⟩
def op8K : List (Option IntKind) := [some .i64] ++ tupK ++ [none, some .u32, some .i64]
theorem of_op8K {cs : List Value} (h : fitsAll op8K cs) : ∃ o : Op8, cs = op8Cells o ∧ o.Ok := by
  have hl := fitsAll_len h
  match cs, hl with
  | [v0, v1, v2, v3, v4, v5, v6, v7], _ =>
    obtain ⟨⟨n0, rfl, _⟩, ⟨n1, rfl, _⟩, ⟨n2, rfl, _⟩, ⟨n3, rfl, _⟩, ⟨n4, rfl, _⟩, ⟨n5, rfl⟩, ⟨n6, rfl, h6⟩, ⟨n7, rfl, _⟩, _⟩ := h
    exact ⟨⟨n0, ⟨n1, n2, n3, n4⟩, n5, n6, n7⟩, rfl, ⟨(bnd_u32 h6).1, (bnd_u32 h6).2⟩⟩
theorem flat_op8 : flatT Tryd.prog 5 34 = some op8K := by kernel_rfl
theorem cells_op8 : Tryd.prog.cellsOf 34 = op8K.length := by kernel_rfl
section
variable {H : Type} {enc : TypeId × Value → H} {W : World} {spare : Nat → Bool} {held : Bool} {r : Reach} {b0 : Nat} {v : Value} {d : DataW H} {p : List MemPlace}
theorem open_ops8 (hv : Value.okWide Tryd.prog W r b0 22 v) (h : DataW.Trod enc Tryd.prog W 0 spare held 22 v d p) :
    ∃ (q : Option Addr) (cap : Nat) (os : List Op8), v = .slice q os.length cap ∧ OpsIn8 W.heap.size W q os ∧ (∀ o ∈ os, o.Ok) ∧ os.length ≤ maxLen := by
  obtain ⟨q, len, cap, rfl⟩ := okWide_slice Tryd.underlying22 hv
  obtain ⟨fuel, hf⟩ := h
  rcases open_slice Tryd.underlying22 hf with ⟨hc, _⟩ | ⟨a, len', cap', m, n, D, Pl, hc, hb, hl, hm, hmm, hx, hall⟩
  · simp only [Value.cells, List.cons.injEq, Value.slice.injEq, and_true] at hc
    obtain ⟨rfl, rfl, rfl⟩ := hc
    exact ⟨none, 0, [], rfl, fun i o hi => by simp at hi, fun o ho => (by cases ho), Nat.zero_le _⟩
  · simp only [Value.cells, List.cons.injEq, Value.slice.injEq, and_true] at hc
    obtain ⟨rfl, rfl, rfl⟩ := hc
    have hlm : len ≤ m := by rw [hmm]; split <;> omega
    have each : ∀ i, i < len → ∃ o : Op8, o.Ok ∧ a.spot = none ∧ a.block < W.heap.size ∧ ∀ j v, (op8Cells o)[j]? = some v → W.cell? ⟨a.block, a.off + i * 8 + j, none⟩ = some v := by
      intro i hi
      obtain ⟨cs', h1, h2⟩ := hall i (by omega)
      rw [cells_op8] at h1
      obtain ⟨_, hlen, hcell⟩ := World.cells?_some h1
      obtain ⟨o, rfl, ho⟩ := of_op8K (flatT_fits (P := Tryd.prog) 5 n 34 op8K _ _ flat_op8 h2 cells_op8)
      have hc : ∀ j v, (op8Cells o)[j]? = some v → W.cell? ((a.add (i * 8)).add j) = some v := by
        intro j v hjv
        have hj : j < 8 := (List.getElem?_eq_some_iff.1 hjv).1
        exact (hcell j hj).trans hjv
      have h0 := hc 1 _ rfl
      have hs : (a.add (i * 8)).add 1 = ⟨a.block, a.off + i * 8 + 1, none⟩ := by
        unfold Addr.add; by_cases e : i * 8 = 0 <;> simp [e]
      have hz := hc 0 _ rfl
      have hspot : a.spot = none ∨ 0 < i := by
        by_cases e : i = 0
        · left
          subst e
          simp only [Nat.zero_mul, Addr.add, if_pos] at hz
          unfold World.cell? at hz
          split at hz
          · split at hz
            · cases hz
            · rename_i hh; simpa using hh
          · cases hz
        · right; omega
      have hadd : ∀ j, (a.spot = none ∨ 0 < i) → (a.add (i * 8)).add j = ⟨a.block, a.off + i * 8 + j, none⟩ := by
        intro j hd
        obtain ⟨ab, ao, sp⟩ := a
        unfold Addr.add
        by_cases e : i * 8 = 0
        · have : i = 0 := by omega
          subst this
          rcases hd with hd | hd
          · simp only at hd; subst hd
            by_cases f : j = 0 <;> simp [f]
          · omega
        · by_cases f : j = 0 <;> simp [e, f]
      have hbl : a.block < W.heap.size := by
        have := World.block_lt_of_cell? W _ h0
        rw [hs] at this
        exact this
      have hcc : ∀ j v, (op8Cells o)[j]? = some v → W.cell? ⟨a.block, a.off + i * 8 + j, none⟩ = some v := fun j v hjv => by rw [← hadd j hspot]; exact hc j v hjv
      refine ⟨o, ho, ?_, hbl, hcc⟩
      by_cases e : a.spot = none
      · exact e
      · exfalso
        obtain ⟨cs0, g1, g2⟩ := hall 0 (by omega)
        rw [cells_op8] at g1
        obtain ⟨_, hlen0, hcell0⟩ := World.cells?_some g1
        have hq := hcell0 0 (by decide)
        simp only [Nat.zero_mul, Addr.add, if_pos] at hq
        rw [List.getElem?_eq_getElem (by rw [hlen0]; decide)] at hq
        unfold World.cell? at hq
        split at hq
        · split at hq
          · cases hq
          · rename_i hh; exact e (by simpa using hh)
        · cases hq
    obtain ⟨O, hO⟩ := choose_lt each
    have hlen : ((List.range len).map O).length = len := by simp
    refine ⟨some a, cap, (List.range len).map O, by rw [hlen], ?_, ?_, by rw [hlen]; omega⟩
    · intro i o hi
      have hil : i < len := by have := (List.getElem?_eq_some_iff.1 hi).1; simpa using this
      have e : o = O i := by simpa [hil] using hi.symm
      subst e
      obtain ⟨_, hsp, hbl, hcc⟩ := hO i hil
      refine ⟨a.block, a.off, ?_, hbl, hcc⟩
      obtain ⟨ab, ao, sp⟩ := a
      simp only at hsp
      rw [hsp]
    · intro o ho
      obtain ⟨i, hi, rfl⟩ := List.mem_map.1 ho
      exact (hO i (List.mem_range.1 hi)).1
end
end Go.Proofs.YtakihcdolpocjaaDoor
