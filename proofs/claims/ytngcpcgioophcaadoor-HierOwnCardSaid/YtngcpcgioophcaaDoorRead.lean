/- How the arguments of the laws of layers 10 and 11 read: a block, a dropping, out of their cells; and what the row's list says of the table of layer 5. -/
import Derived.Test.YtngcpcgioophcaaDoorFlat
import Derived.Test.YtngcpcgioophcaaDoorFlush
import Derived.Test.YtngcpcgioophcaaDoorCards
import Derived.Lib.LaidTab
namespace Go.Proofs.YtngcpcgioophcaaDoor
open Go.ChangeShapes Go.WideShapes Go.RowKit Go.Proofs.YtngcpcgioophcaaDoor.Flat
set_option maxRecDepth 100000

theorem own : ownKnob Tryd.prog.godebug = none := by kernel_rfl
theorem laidOut : laidOutB Tryd.prog = true := by kernel_rfl
theorem gTab : Tryd.prog.globalNamed "atlas/desc.shifts" = some 0 := by kernel_rfl
theorem gTabType : (Tryd.prog.globals[0]?).map (·.type) = some 127 := by kernel_rfl
theorem table {W : World} (h : laidMetH Tryd.prog Rows.tlbTellsRow.laid W) : Shf W := by
  have t : Lib.TabIs Tryd.prog W "atlas/desc.shifts" .u64 [0, 12, 16, 20, 24] :=
    Lib.tabIs_of_head (rest := []) gTab gTabType Tryd.underlying127 Tryd.underlying37 (by kernel_rfl) (by kernel_rfl) h
  exact ⟨t.cell gTab 0 (by decide), t.cell gTab 1 (by decide), t.cell gTab 2 (by decide), t.cell gTab 3 (by decide), t.cell gTab 4 (by decide)⟩
def blkK : List (Option IntKind) := [some .i64, some .i64, some .u32, some .u64, some .i64, some .i64, some .u32, none, none]
def tlbiK : List (Option IntKind) := [some .i64, some .u32, some .i64]
theorem bnd_i64 {n : Int} (h : (Lit.int .i64 n).wf = true) : -9223372036854775808 ≤ n ∧ n ≤ 9223372036854775807 := by
  simp [Lit.wf, IntKind.min, IntKind.max, IntKind.signed, IntKind.bits] at h
  omega
theorem bnd_u32 {n : Int} (h : (Lit.int .u32 n).wf = true) : 0 ≤ n ∧ n ≤ 4294967295 := by
  simp [Lit.wf, IntKind.min, IntKind.max, IntKind.signed, IntKind.bits] at h
  omega
theorem bnd_u64 {n : Int} (h : (Lit.int .u64 n).wf = true) : 0 ≤ n ∧ n < 18446744073709551616 := by
  simp [Lit.wf, IntKind.min, IntKind.max, IntKind.signed, IntKind.bits] at h
  omega
theorem of_blkK {cs : List Value} (h : fitsAll blkK cs) : ∃ b : Blk, cs = [.int .i64 b.asid, .int .i64 b.size, .int .u32 b.va, .int .u64 b.pa, .int .i64 b.dom, .int .i64 b.ap, .int .u32 b.bits, .bool b.ng, .bool b.xn] ∧ b.Ok := by
  have hl := fitsAll_len h
  match cs, hl with
  | [v0, v1, v2, v3, v4, v5, v6, v7, v8], _ =>
    obtain ⟨⟨n0, rfl, h0⟩, ⟨n1, rfl, h1⟩, ⟨n2, rfl, h2⟩, ⟨n3, rfl, h3⟩, ⟨n4, rfl, h4⟩, ⟨n5, rfl, h5⟩, ⟨n6, rfl, h6⟩, ⟨n7, rfl⟩, ⟨n8, rfl⟩, _⟩ := h
    exact ⟨⟨n0, n1, n2, n3, n4, n5, n6, n7, n8⟩, rfl, ⟨(bnd_i64 h0).1, (bnd_i64 h0).2, (bnd_i64 h1).1, (bnd_i64 h1).2, (bnd_u32 h2).1, (bnd_u32 h2).2, (bnd_u64 h3).1, (bnd_u64 h3).2, (bnd_i64 h4).1, (bnd_i64 h4).2, (bnd_i64 h5).1, (bnd_i64 h5).2, (bnd_u32 h6).1, (bnd_u32 h6).2⟩⟩
theorem of_tlbiK {cs : List Value} (h : fitsAll tlbiK cs) : ∃ d : Tlbi, cs = [.int .i64 d.kind, .int .u32 d.va, .int .i64 d.asid] ∧ d.Ok := by
  have hl := fitsAll_len h
  match cs, hl with
  | [v0, v1, v2], _ =>
    obtain ⟨⟨n0, rfl, h0⟩, ⟨n1, rfl, h1⟩, ⟨n2, rfl, h2⟩, _⟩ := h
    exact ⟨⟨n0, n1, n2⟩, rfl, ⟨(bnd_i64 h0).1, (bnd_i64 h0).2, (bnd_u32 h1).1, (bnd_u32 h1).2, (bnd_i64 h2).1, (bnd_i64 h2).2⟩⟩
theorem flat_blk : flatT Tryd.prog 5 29 = some blkK := by kernel_rfl
theorem cells_blk : Tryd.prog.cellsOf 29 = blkK.length := by kernel_rfl
theorem flat_tlbi : flatT Tryd.prog 5 31 = some tlbiK := by kernel_rfl
theorem cells_tlbi : Tryd.prog.cellsOf 31 = tlbiK.length := by kernel_rfl
section
variable {H : Type} {enc : TypeId × Value → H} {W : World} {base : Nat} {spare : Nat → Bool} {held : Bool} {r : Reach} {b0 : Nat} {v : Value} {d : DataW H} {p : List MemPlace}
theorem open_blk (hv : Value.okWide Tryd.prog W r b0 29 v) (h : DataW.Trod enc Tryd.prog W base spare held 29 v d p) : ∃ b : Blk, v = (.agg #[.int .i64 b.asid, .int .i64 b.size, .int .u32 b.va, .int .u64 b.pa, .int .i64 b.dom, .int .i64 b.ap, .int .u32 b.bits, .bool b.ng, .bool b.xn]) ∧ b.Ok := by
  obtain ⟨cs, rfl, _⟩ := okWide_struct Tryd.underlying29 hv
  obtain ⟨fuel, hf⟩ := h
  obtain ⟨b, hb, ho⟩ := of_blkK (flatT_fits (P := Tryd.prog) 5 fuel 29 blkK _ _ flat_blk hf cells_blk)
  refine ⟨b, ?_, ho⟩
  obtain ⟨l⟩ := cs
  simp only [Value.cells] at hb
  rw [hb]
theorem open_tlbi (hv : Value.okWide Tryd.prog W r b0 31 v) (h : DataW.Trod enc Tryd.prog W base spare held 31 v d p) : ∃ x : Tlbi, v = (.agg #[.int .i64 x.kind, .int .u32 x.va, .int .i64 x.asid]) ∧ x.Ok := by
  obtain ⟨cs, rfl, _⟩ := okWide_struct Tryd.underlying31 hv
  obtain ⟨fuel, hf⟩ := h
  obtain ⟨b, hb, ho⟩ := of_tlbiK (flatT_fits (P := Tryd.prog) 5 fuel 31 tlbiK _ _ flat_tlbi hf cells_tlbi)
  refine ⟨b, ?_, ho⟩
  obtain ⟨l⟩ := cs
  simp only [Value.cells] at hb
  rw [hb]
end
end Go.Proofs.YtngcpcgioophcaaDoor
