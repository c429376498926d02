/- A script of layer 11 in memory: a slice of calls, each of 19 cells; and how it reads.  -/
import Derived.Test.YtngcpcgioophcaaDoorStepO
import Derived.Test.YtngcpcgioophcaaDoorScript
namespace Go.Proofs.YtngcpcgioophcaaDoor
open Go.ChangeShapes Go.WideShapes Go.RowKit Go.Deep Go.Proofs.YtngcpcgioophcaaDoor.Flat
set_option maxRecDepth 100000

/-- the calls os lie behind p, in a block below B -/
def OpsIn11 (B : Nat) (w : World) (p : Option Addr) (os : List Op11) : Prop :=
  ∀ i o, os[i]? = some o → ∃ b k, p = some ⟨b, k, none⟩ ∧ b < B ∧ ∀ j v, (op11Cells o)[j]? = some v → w.cell? ⟨b, k + i * 19 + j, none⟩ = some v
instance : Inhabited Op11 := ⟨⟨0, 0, 0, 0, 0, false, false, zblk, ⟨0, 0, 0⟩⟩⟩
def op11K : List (Option IntKind) := [some .i64, some .i64, some .i64, some .i64, some .u32, none, none] ++ blkK ++ tlbiK
theorem of_op11K {cs : List Value} (h : fitsAll op11K cs) : ∃ o : Op11, cs = op11Cells o ∧ o.Ok := by
  have hl := fitsAll_len h
  match cs, hl with
  | [u0, u1, u2, u3, u4, u5, u6, v0, v1, v2, v3, v4, v5, v6, v7, v8, d0, d1, d2], _ =>
    obtain ⟨⟨m0, rfl, g0⟩, ⟨m1, rfl, g1⟩, ⟨m2, rfl, g2⟩, ⟨m3, rfl, g3⟩, ⟨m4, rfl, g4⟩, ⟨m5, rfl⟩, ⟨m6, rfl⟩, ⟨n0, rfl, h0⟩, ⟨n1, rfl, h1⟩, ⟨n2, rfl, h2⟩, ⟨n3, rfl, h3⟩, ⟨n4, rfl, h4⟩, ⟨n5, rfl, h5⟩, ⟨n6, rfl, h6⟩, ⟨n7, rfl⟩, ⟨n8, rfl⟩, ⟨e0, rfl, f0⟩, ⟨e1, rfl, f1⟩, ⟨e2, rfl, f2⟩, _⟩ := h
    exact ⟨⟨m0, m1, m2, m3, m4, m5, m6, ⟨n0, n1, n2, n3, n4, n5, n6, n7, n8⟩, ⟨e0, e1, e2⟩⟩, rfl, ⟨(bnd_i64 g2).1, (bnd_i64 g2).2, ⟨(bnd_i64 h0).1, (bnd_i64 h0).2, (bnd_i64 h1).1, (bnd_i64 h1).2, (bnd_u32 h2).1, (bnd_u32 h2).2, (bnd_u64 h3).1, (bnd_u64 h3).2, (bnd_i64 h4).1, (bnd_i64 h4).2, (bnd_i64 h5).1, (bnd_i64 h5).2, (bnd_u32 h6).1, (bnd_u32 h6).2⟩⟩⟩
theorem flat_op11 : flatT Tryd.prog 5 79 = some op11K := by kernel_rfl
theorem cells_op11 : Tryd.prog.cellsOf 79 = op11K.length := by kernel_rfl
section
variable {H : Type} {enc : TypeId × Value → H} {W : World} {spare : Nat → Bool} {held : Bool} {r : Reach} {b0 : Nat} {v : Value} {d : DataW H} {p : List MemPlace}
theorem open_ops11 (hv : Value.okWide Tryd.prog W r b0 70 v) (h : DataW.Trod enc Tryd.prog W 0 spare held 70 v d p) :
    ∃ (q : Option Addr) (cap : Nat) (os : List Op11), v = .slice q os.length cap ∧ OpsIn11 W.heap.size W q os ∧ (∀ o ∈ os, o.Ok) ∧ os.length ≤ maxLen := by
  obtain ⟨q, len, cap, rfl⟩ := okWide_slice Tryd.underlying70 hv
  obtain ⟨fuel, hf⟩ := h
  rcases open_slice Tryd.underlying70 hf with ⟨hc, _⟩ | ⟨a, len', cap', m, n, D, Pl, hc, hb, hl, hm, hmm, hx, hall⟩
  · simp only [Value.cells, List.cons.injEq, Value.slice.injEq, and_true] at hc
    obtain ⟨rfl, rfl, rfl⟩ := hc
    exact ⟨none, 0, [], rfl, fun i o hi => by simp at hi, fun o ho => (by cases ho), Nat.zero_le _⟩
  · simp only [Value.cells, List.cons.injEq, Value.slice.injEq, and_true] at hc
    obtain ⟨rfl, rfl, rfl⟩ := hc
    have hlm : len ≤ m := by rw [hmm]; split <;> omega
    have each : ∀ i, i < len → ∃ o : Op11, o.Ok ∧ a.spot = none ∧ a.block < W.heap.size ∧ ∀ j v, (op11Cells o)[j]? = some v → W.cell? ⟨a.block, a.off + i * 19 + j, none⟩ = some v := by
      intro i hi
      obtain ⟨cs', h1, h2⟩ := hall i (by omega)
      rw [cells_op11] at h1
      obtain ⟨_, hlen, hcell⟩ := World.cells?_some h1
      obtain ⟨o, rfl, ho⟩ := of_op11K (flatT_fits (P := Tryd.prog) 5 n 79 op11K _ _ flat_op11 h2 cells_op11)
      have hc : ∀ j v, (op11Cells o)[j]? = some v → W.cell? ((a.add (i * 19)).add j) = some v := by
        intro j v hjv
        have hj : j < 19 := (List.getElem?_eq_some_iff.1 hjv).1
        exact (hcell j hj).trans hjv
      have h0 := hc 1 _ rfl
      have hs : (a.add (i * 19)).add 1 = ⟨a.block, a.off + i * 19 + 1, none⟩ := by
        unfold Addr.add; by_cases e : i * 19 = 0 <;> simp [e]
      have hz := hc 0 _ rfl
      have hspot : a.spot = none ∨ 0 < i := by
        by_cases e : i = 0
        · left
          subst e
          simp only [Nat.zero_mul, Addr.add, if_pos] at hz
          unfold World.cell? at hz
          split at hz
          · split at hz
            · cases hz
            · rename_i hh; simpa using hh
          · cases hz
        · right; omega
      have hadd : ∀ j, (a.spot = none ∨ 0 < i) → (a.add (i * 19)).add j = ⟨a.block, a.off + i * 19 + j, none⟩ := by
        intro j hd
        obtain ⟨ab, ao, sp⟩ := a
        unfold Addr.add
        by_cases e : i * 19 = 0
        · have : i = 0 := by omega
          subst this
          rcases hd with hd | hd
          · simp only at hd; subst hd
            by_cases f : j = 0 <;> simp [f]
          · omega
        · by_cases f : j = 0 <;> simp [e, f]
      have hbl : a.block < W.heap.size := by
        have := World.block_lt_of_cell? W _ h0
        rw [hs] at this
        exact this
      have hcc : ∀ j v, (op11Cells o)[j]? = some v → W.cell? ⟨a.block, a.off + i * 19 + j, none⟩ = some v := fun j v hjv => by rw [← hadd j hspot]; exact hc j v hjv
      refine ⟨o, ho, ?_, hbl, hcc⟩
      by_cases e : a.spot = none
      · exact e
      · exfalso
        obtain ⟨cs0, g1, g2⟩ := hall 0 (by omega)
        rw [cells_op11] at g1
        obtain ⟨_, hlen0, hcell0⟩ := World.cells?_some g1
        have hq := hcell0 0 (by decide)
        simp only [Nat.zero_mul, Addr.add, if_pos] at hq
        rw [List.getElem?_eq_getElem (by rw [hlen0]; decide)] at hq
        unfold World.cell? at hq
        split at hq
        · split at hq
          · cases hq
          · rename_i hh; exact e (by simpa using hh)
        · cases hq
    obtain ⟨O, hO⟩ := choose_lt each
    have hlen : ((List.range len).map O).length = len := by simp
    refine ⟨some a, cap, (List.range len).map O, by rw [hlen], ?_, ?_, by rw [hlen]; omega⟩
    · intro i o hi
      have hil : i < len := by have := (List.getElem?_eq_some_iff.1 hi).1; simpa using this
      have e : o = O i := by simpa [hil] using hi.symm
      subst e
      obtain ⟨_, hsp, hbl, hcc⟩ := hO i hil
      refine ⟨a.block, a.off, ?_, hbl, hcc⟩
      obtain ⟨ab, ao, sp⟩ := a
      simp only at hsp
      rw [hsp]
    · intro o ho
      obtain ⟨i, hi, rfl⟩ := List.mem_map.1 ho
      exact (hO i (List.mem_range.1 hi)).1
end
end Go.Proofs.YtngcpcgioophcaaDoor

namespace Go.Proofs.YtngcpcgioophcaaDoor
open Go.RowKit

def Ok1 (n : Int) : Prop := 1 ≤ n ∧ n ≤ 64
theorem rows3_ok (n1 n2 n3 : Nat) : Ok3 (rows3 n1 n2 n3) := fun k _ _ => by unfold rows3 sel3; split; exact newRow_ok _; split; exact newRow_ok _; exact newRow_ok _
end Go.Proofs.YtngcpcgioophcaaDoor
