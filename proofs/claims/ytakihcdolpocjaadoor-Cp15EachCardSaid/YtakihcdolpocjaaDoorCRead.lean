/- How the arguments of the laws of layer 8 read, and what the row's list says of the table of registers (cp15). -/
import Derived.Test.YtakihcdolpocjaaDoorCFlat
import Derived.Test.YtakihcdolpocjaaDoorCRules
import Derived.Test.YtakihcdolpocjaaDoorCards
import Derived.Lib.LaidTab
namespace Go.Proofs.YtakihcdolpocjaaDoor
open Go.ChangeShapes Go.WideShapes Go.RowKit Go.Proofs.YtakihcdolpocjaaDoor.Flat
set_option maxRecDepth 100000

theorem own : ownKnob Tryd.prog.godebug = none := by kernel_rfl
theorem laidOut : laidOutB Tryd.prog = true := by kernel_rfl
theorem gRul : Tryd.prog.globalNamed "atlas/cp15.rules" = some 0 := by kernel_rfl
theorem gRulType : (Tryd.prog.globals[0]?).map (·.type) = some 66 := by kernel_rfl
def tupK : List (Option IntKind) := [some .i64, some .i64, some .i64, some .i64]
def ruleK : List (Option IntKind) := tupK ++ [some .u32, some .u32]
theorem flat_tup : flatT Tryd.prog 5 31 = some tupK := by kernel_rfl
theorem cells_tup : Tryd.prog.cellsOf 31 = tupK.length := by kernel_rfl
theorem flat_rule : flatT Tryd.prog 5 65 = some ruleK := by kernel_rfl
theorem cells_rule : Tryd.prog.cellsOf 65 = ruleK.length := by kernel_rfl
def ruleD {H : Type} (k : Nat) : DataW H := .agg [.agg [.lit (.int .i64 (tupOf k).crn), .lit (.int .i64 (tupOf k).op1), .lit (.int .i64 (tupOf k).crm), .lit (.int .i64 (tupOf k).op2)], .lit (.int .u32 (keptOf k)), .lit (.int .u32 (startOf k))]
theorem laid_list {H : Type} : (Rows.laid_atlas_cp15_rules : DataW H) = .agg ((List.range 13).map ruleD) := rfl
theorem bnd_i64 {n : Int} (h : (Lit.int .i64 n).wf = true) : -9223372036854775808 ≤ n ∧ n ≤ 9223372036854775807 := by
  simp [Lit.wf, IntKind.min, IntKind.max, IntKind.signed, IntKind.bits] at h
  omega
theorem bnd_u32 {n : Int} (h : (Lit.int .u32 n).wf = true) : 0 ≤ n ∧ n ≤ 4294967295 := by
  simp [Lit.wf, IntKind.min, IntKind.max, IntKind.signed, IntKind.bits] at h
  omega
section
variable {H : Type} {enc : TypeId × Value → H} {W : World} {base : Nat} {spare : Nat → Bool} {held : Bool} {r : Reach} {b0 : Nat} {v : Value} {d : DataW H} {p : List MemPlace}
theorem int_read {t : TypeId} {k : IntKind} (he : Tryd.prog.underlying t = some (.int k)) {fuel : Nat} {z n : Int} {x : DataW H × List MemPlace} (h : DataW.trod enc Tryd.prog W base spare held fuel t [.int k z] = some x) (hx : x.1 = .lit (.int k n)) : z = n := by
  obtain ⟨z', hc, rfl, _⟩ := DataW.trod_int he h
  simp only [List.cons.injEq, Value.int.injEq, and_true, true_and] at hc
  subst hc
  simpa using hx
theorem rule_read {fuel : Nat} {cs : List Value} {x : DataW H × List MemPlace} {k : Nat} (h : DataW.trod enc Tryd.prog W base spare held fuel 65 cs = some x) (hx : x.1 = ruleD k) : cs = ruleCells k := by
  have hf := flatT_fits (P := Tryd.prog) 5 fuel 65 ruleK _ _ flat_rule h cells_rule
  have hl := fitsAll_len hf
  match cs, hl with
  | [v0, v1, v2, v3, v4, v5], _ =>
    obtain ⟨⟨n0, rfl, _⟩, ⟨n1, rfl, _⟩, ⟨n2, rfl, _⟩, ⟨n3, rfl, _⟩, ⟨n4, rfl, _⟩, ⟨n5, rfl, _⟩, _⟩ := hf
    obtain ⟨xs, m, _, rfl, _, hxl, hg⟩ := DataW.trod_struct Tryd.underlying65 h
    match xs, hxl with
    | [x0, x1, x2], _ =>
      simp only [ruleD, List.map_cons, List.map_nil, DataW.agg.injEq, List.cons.injEq, and_true] at hx
      obtain ⟨e0, e1, e2⟩ := hx
      have g0 := hg 0 _ rfl
      have g1 := hg 1 _ rfl
      have g2 := hg 2 _ rfl
      have i1 := int_read (k := .u32) (by kernel_rfl) g1 e1
      have i2 := int_read (k := .u32) (by kernel_rfl) g2 e2
      obtain ⟨ys, m', _, rfl, _, hyl, hg'⟩ := DataW.trod_struct Tryd.underlying31 g0
      match ys, hyl with
      | [y0, y1, y2, y3], _ =>
        simp only [List.map_cons, List.map_nil, DataW.agg.injEq, List.cons.injEq, and_true] at e0
        obtain ⟨a0, a1, a2, a3⟩ := e0
        have j0 := int_read (k := .i64) (by kernel_rfl) (hg' 0 _ rfl) a0
        have j1 := int_read (k := .i64) (by kernel_rfl) (hg' 1 _ rfl) a1
        have j2 := int_read (k := .i64) (by kernel_rfl) (hg' 2 _ rfl) a2
        have j3 := int_read (k := .i64) (by kernel_rfl) (hg' 3 _ rfl) a3
        subst i1 i2 j0 j1 j2 j3
        rfl
theorem open_tuple (hv : Value.okWide Tryd.prog W r b0 31 v) (h : DataW.Trod enc Tryd.prog W base spare held 31 v d p) : ∃ t : Tup, v = (.agg #[.int .i64 t.crn, .int .i64 t.op1, .int .i64 t.crm, .int .i64 t.op2]) ∧ t.Ok := by
  obtain ⟨cs, rfl, _⟩ := okWide_struct Tryd.underlying31 hv
  obtain ⟨fuel, hf⟩ := h
  have hb := flatT_fits (P := Tryd.prog) 5 fuel 31 tupK _ _ flat_tup hf cells_tup
  obtain ⟨l⟩ := cs
  simp only [Value.cells] at hb
  have hl := fitsAll_len hb
  match l, hl with
  | [v0, v1, v2, v3], _ =>
    obtain ⟨⟨n0, rfl, h0⟩, ⟨n1, rfl, h1⟩, ⟨n2, rfl, h2⟩, ⟨n3, rfl, h3⟩, _⟩ := hb
    exact ⟨⟨n0, n1, n2, n3⟩, rfl, ⟨(bnd_i64 h0).1, (bnd_i64 h0).2, (bnd_i64 h1).1, (bnd_i64 h1).2, (bnd_i64 h2).1, (bnd_i64 h2).2, (bnd_i64 h3).1, (bnd_i64 h3).2⟩⟩
end
theorem table {W : World} (h : laidMetH Tryd.prog Rows.cp15TuplesRow.laid W) : Rul W := by
  have h : laidMet Tryd.prog (("atlas/cp15.rules", Rows.laid_atlas_cp15_rules) :: []) W := h
  obtain ⟨ps, ⟨g', t', cs, fuel, p, q, hg', ht', hvar, hd, _, _⟩, _⟩ := h
  obtain rfl := Option.some.inj (gRul.symm.trans hg')
  obtain rfl := Option.some.inj (gRulType.symm.trans ht')
  rw [laid_list] at hd
  obtain ⟨xs, m, _, hx, hcl, hxl, hg⟩ := DataW.trod_array Tryd.underlying66 hd
  have hxs : xs.map (·.1) = (List.range 13).map ruleD := by
    have := congrArg Prod.fst hx
    simpa using this.symm
  have hcr : Tryd.prog.cellsOf 65 = 6 := cells_rule
  have seg : ∀ k, k < 13 → (cs.toList.drop (k * 6)).take 6 = ruleCells k := by
    intro k hk
    have h1 := hg k hk
    rw [hcr] at h1
    have hk' : k < xs.length := by rw [hxl]; exact hk
    rw [List.getElem?_eq_getElem hk'] at h1
    refine rule_read h1 ?_
    have h2 : (xs.map (·.1))[k]? = ((List.range 13).map ruleD)[k]? := by rw [hxs]
    rw [List.getElem?_map, List.getElem?_eq_getElem hk', List.getElem?_map, List.getElem?_eq_getElem (by simpa using hk)] at h2
    simpa using h2
  have hlen : rulesL.length = 78 := rfl
  have cell : ∀ (j : Nat) (v : Value), rulesL[j]? = some v → cs.toList[j]? = some v := by
    intro j v hv
    have hj : j < 78 := by have := (List.getElem?_eq_some_iff.1 hv).1; omega
    have hd : j / 6 * 6 + j % 6 = j := by omega
    have h1 := rulesL_at (j / 6) (j % 6) (by omega) (by omega)
    rw [hd, hv, ← seg (j / 6) (by omega), List.getElem?_take, if_pos (by omega), List.getElem?_drop, hd] at h1
    exact h1.symm
  have h0 := World.var?_cell gRul hvar
  refine ⟨?_, fun j v hv => ?_⟩
  · have h9 := h0 0
    have h8 := cell 0 (.int .i64 1) rfl
    rw [Array.getElem?_toList] at h8
    rw [h8] at h9
    exact World.block_lt_of_cell? W _ h9
  · have h9 := h0 j
    have h8 := cell j v hv
    rw [Array.getElem?_toList] at h8
    rw [h9, h8]
end Go.Proofs.YtakihcdolpocjaaDoor
