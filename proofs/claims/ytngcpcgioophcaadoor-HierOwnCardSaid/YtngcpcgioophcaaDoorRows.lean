/-
  NARROWER THAN 'FOR EVERY INPUT', by the rows' own cells (each row's printed sentence says how): TlbTells: laid · TlbDrops: laid · TlbKeeps: laid · TlbMatches: laid · TlbFresh: laid · TlbPlays: laid · HierOrder: laid · HierFinds: laid · HierKeeps: laid · HierEvicts: laid · HierDrops: laid · HierAll: laid · HierOwn: laid · HierOnly: laid.
  DERIVED. THE GIVEN ROWS OF THIS SEAT. 14 by the template 'for every input the law returns true; each argument reads behind the call as it read before'; 0 by the template 'total and deterministic' (their statements: YtngcpcgioophcaaDoorTotals.lean).
  GIVEN WITH THE SEED: the statements are not yours to turn. If you find one false, say at which input.
  Laid BY PROGRAM, IN A SANDBOX (cutbox-rows.mjs): the forced cells as the released guide's own fill.sh prints them over the translation ac0aaf9ea51605f0… (all of the seat's roots in one cut). By AI agents, Wed Nov 11 2026. No macro, syntax, notation, axiom, sorry.
-/
import Derived.Test.YtngcpcgioophcaaDoorChecked
import GoSem.Claim
import GoSem.ClaimJoined
import GoSem.ClaimMapViews
import Derived.JoinedTies
import Derived.KernelRfl
namespace Go.Proofs.YtngcpcgioophcaaDoor
/- THE CELL 'sum', in the pinned program and in every row, IS THE sha256 OF THE DUMP (.gsa) THAT YtngcpcgioophcaaDoorProg.lean LOADS. Nothing in Lean hashes anything: it is a label: what it is worth is what the hold of that sum in a sandbox is worth. -/
noncomputable def Tryd.pinned : Pinned := { name := "ytngcpcgioophcaadoor", sum := "ac0aaf9ea51605f081d72cc5033ed2a1070f048b1c7f244230b0cf79bbad877c", checked := Tryd.checked }
namespace Rows
def none {H : Type} : Left H := { results := [], args := [] }

/- WHAT THE LISTED PACKAGE-LEVEL VARIABLES READ AS WHEN THE CALL BEGINS. Each datum BY PROGRAM (the guide's laid-datum.mjs) off the statement by which the dump's own 'gosem.cut.vars' lays the variable. In a bare row this is a premise. The card (YtngcpcgioophcaaDoorCards.lean) ties it to the program's text. -/
def laid_atlas_desc_shifts {H : Type} : DataW H := .agg [.lit (.int .u64 0), .lit (.int .u64 12), .lit (.int .u64 16), .lit (.int .u64 20), .lit (.int .u64 24)]

/-- 'atlaslaw10.TlbTells': WHATEVER THE INPUT: true; the input reads as it did. -/
def tlbTellsSpec : ChangeSpec := { name := "tlbTells", fn := fun _ => fun
  | [d1, d2, d3, d4] => { results := [.lit (.bool true)], args := [d1, d2, d3, d4] }
  | _ => none }
def tlbTellsRow : OpenClaim := { program := "ytngcpcgioophcaadoor", sum := "ac0aaf9ea51605f081d72cc5033ed2a1070f048b1c7f244230b0cf79bbad877c", func := "atlas/atlaslaw10.TlbTells", spec := "tlbTells", unfollowed := true, recurses := true, named := ["atlas/desc.shifts"], apart := false, laid := [("atlas/desc.shifts", laid_atlas_desc_shifts)] }
def TlbTellsSaid : Prop := tlbTellsRow.holds Tryd.pinned (OpenSpec.ofChange tlbTellsSpec)

/-- ITS FALSE NEIGHBOUR: 'it returns false'. Refute it at one input. -/
def tlbTellsWrong : ChangeSpec := { name := "tlbTells", fn := fun _ => fun
  | [d1, d2, d3, d4] => { results := [.lit (.bool false)], args := [d1, d2, d3, d4] }
  | _ => none }
def TlbTellsWrongFalsely : Prop := tlbTellsRow.holds Tryd.pinned (OpenSpec.ofChange tlbTellsWrong)

/-- 'atlaslaw10.TlbDrops': WHATEVER THE INPUT: true; the input reads as it did. -/
def tlbDropsSpec : ChangeSpec := { name := "tlbDrops", fn := fun _ => fun
  | [d1, d2, d3, d4] => { results := [.lit (.bool true)], args := [d1, d2, d3, d4] }
  | _ => none }
def tlbDropsRow : OpenClaim := { program := "ytngcpcgioophcaadoor", sum := "ac0aaf9ea51605f081d72cc5033ed2a1070f048b1c7f244230b0cf79bbad877c", func := "atlas/atlaslaw10.TlbDrops", spec := "tlbDrops", unfollowed := true, recurses := true, named := ["atlas/desc.shifts"], apart := false, laid := [("atlas/desc.shifts", laid_atlas_desc_shifts)] }
def TlbDropsSaid : Prop := tlbDropsRow.holds Tryd.pinned (OpenSpec.ofChange tlbDropsSpec)

/-- ITS FALSE NEIGHBOUR: 'it returns false'. Refute it at one input. -/
def tlbDropsWrong : ChangeSpec := { name := "tlbDrops", fn := fun _ => fun
  | [d1, d2, d3, d4] => { results := [.lit (.bool false)], args := [d1, d2, d3, d4] }
  | _ => none }
def TlbDropsWrongFalsely : Prop := tlbDropsRow.holds Tryd.pinned (OpenSpec.ofChange tlbDropsWrong)

/-- 'atlaslaw10.TlbKeeps': WHATEVER THE INPUT: true; the input reads as it did. -/
def tlbKeepsSpec : ChangeSpec := { name := "tlbKeeps", fn := fun _ => fun
  | [d1, d2] => { results := [.lit (.bool true)], args := [d1, d2] }
  | _ => none }
def tlbKeepsRow : OpenClaim := { program := "ytngcpcgioophcaadoor", sum := "ac0aaf9ea51605f081d72cc5033ed2a1070f048b1c7f244230b0cf79bbad877c", func := "atlas/atlaslaw10.TlbKeeps", spec := "tlbKeeps", unfollowed := true, recurses := true, named := ["atlas/desc.shifts"], apart := false, laid := [("atlas/desc.shifts", laid_atlas_desc_shifts)] }
def TlbKeepsSaid : Prop := tlbKeepsRow.holds Tryd.pinned (OpenSpec.ofChange tlbKeepsSpec)

/-- ITS FALSE NEIGHBOUR: 'it returns false'. Refute it at one input. -/
def tlbKeepsWrong : ChangeSpec := { name := "tlbKeeps", fn := fun _ => fun
  | [d1, d2] => { results := [.lit (.bool false)], args := [d1, d2] }
  | _ => none }
def TlbKeepsWrongFalsely : Prop := tlbKeepsRow.holds Tryd.pinned (OpenSpec.ofChange tlbKeepsWrong)

/-- 'atlaslaw10.TlbMatches': WHATEVER THE INPUT: true; the input reads as it did. -/
def tlbMatchesSpec : ChangeSpec := { name := "tlbMatches", fn := fun _ => fun
  | [d1, d2, d3, d4] => { results := [.lit (.bool true)], args := [d1, d2, d3, d4] }
  | _ => none }
def tlbMatchesRow : OpenClaim := { program := "ytngcpcgioophcaadoor", sum := "ac0aaf9ea51605f081d72cc5033ed2a1070f048b1c7f244230b0cf79bbad877c", func := "atlas/atlaslaw10.TlbMatches", spec := "tlbMatches", unfollowed := true, recurses := true, named := ["atlas/desc.shifts"], apart := false, laid := [("atlas/desc.shifts", laid_atlas_desc_shifts)] }
def TlbMatchesSaid : Prop := tlbMatchesRow.holds Tryd.pinned (OpenSpec.ofChange tlbMatchesSpec)

/-- ITS FALSE NEIGHBOUR: 'it returns false'. Refute it at one input. -/
def tlbMatchesWrong : ChangeSpec := { name := "tlbMatches", fn := fun _ => fun
  | [d1, d2, d3, d4] => { results := [.lit (.bool false)], args := [d1, d2, d3, d4] }
  | _ => none }
def TlbMatchesWrongFalsely : Prop := tlbMatchesRow.holds Tryd.pinned (OpenSpec.ofChange tlbMatchesWrong)

/-- 'atlaslaw10.TlbFresh': WHATEVER THE INPUT: true; the input reads as it did. -/
def tlbFreshSpec : ChangeSpec := { name := "tlbFresh", fn := fun _ => fun
  | [d1, d2] => { results := [.lit (.bool true)], args := [d1, d2] }
  | _ => none }
def tlbFreshRow : OpenClaim := { program := "ytngcpcgioophcaadoor", sum := "ac0aaf9ea51605f081d72cc5033ed2a1070f048b1c7f244230b0cf79bbad877c", func := "atlas/atlaslaw10.TlbFresh", spec := "tlbFresh", unfollowed := true, recurses := true, named := ["atlas/desc.shifts"], apart := false, laid := [("atlas/desc.shifts", laid_atlas_desc_shifts)] }
def TlbFreshSaid : Prop := tlbFreshRow.holds Tryd.pinned (OpenSpec.ofChange tlbFreshSpec)

/-- ITS FALSE NEIGHBOUR: 'it returns false'. Refute it at one input. -/
def tlbFreshWrong : ChangeSpec := { name := "tlbFresh", fn := fun _ => fun
  | [d1, d2] => { results := [.lit (.bool false)], args := [d1, d2] }
  | _ => none }
def TlbFreshWrongFalsely : Prop := tlbFreshRow.holds Tryd.pinned (OpenSpec.ofChange tlbFreshWrong)

/-- 'atlaslaw10.TlbPlays': WHATEVER THE INPUT: true; the input reads as it did. -/
def tlbPlaysSpec : ChangeSpec := { name := "tlbPlays", fn := fun _ => fun
  | [d1, d2] => { results := [.lit (.bool true)], args := [d1, d2] }
  | _ => none }
def tlbPlaysRow : OpenClaim := { program := "ytngcpcgioophcaadoor", sum := "ac0aaf9ea51605f081d72cc5033ed2a1070f048b1c7f244230b0cf79bbad877c", func := "atlas/atlaslaw10.TlbPlays", spec := "tlbPlays", unfollowed := true, recurses := true, named := ["atlas/desc.shifts"], apart := false, laid := [("atlas/desc.shifts", laid_atlas_desc_shifts)] }
def TlbPlaysSaid : Prop := tlbPlaysRow.holds Tryd.pinned (OpenSpec.ofChange tlbPlaysSpec)

/-- ITS FALSE NEIGHBOUR: 'it returns false'. Refute it at one input. -/
def tlbPlaysWrong : ChangeSpec := { name := "tlbPlays", fn := fun _ => fun
  | [d1, d2] => { results := [.lit (.bool false)], args := [d1, d2] }
  | _ => none }
def TlbPlaysWrongFalsely : Prop := tlbPlaysRow.holds Tryd.pinned (OpenSpec.ofChange tlbPlaysWrong)

/-- 'atlaslaw11.HierOrder': WHATEVER THE INPUT: true; the input reads as it did. -/
def hierOrderSpec : ChangeSpec := { name := "hierOrder", fn := fun _ => fun
  | [d1, d2, d3] => { results := [.lit (.bool true)], args := [d1, d2, d3] }
  | _ => none }
def hierOrderRow : OpenClaim := { program := "ytngcpcgioophcaadoor", sum := "ac0aaf9ea51605f081d72cc5033ed2a1070f048b1c7f244230b0cf79bbad877c", func := "atlas/atlaslaw11.HierOrder", spec := "hierOrder", named := ["atlas/desc.shifts"], apart := false, laid := [("atlas/desc.shifts", laid_atlas_desc_shifts)] }
def HierOrderSaid : Prop := hierOrderRow.holds Tryd.pinned (OpenSpec.ofChange hierOrderSpec)

/-- ITS FALSE NEIGHBOUR: 'it returns false'. Refute it at one input. -/
def hierOrderWrong : ChangeSpec := { name := "hierOrder", fn := fun _ => fun
  | [d1, d2, d3] => { results := [.lit (.bool false)], args := [d1, d2, d3] }
  | _ => none }
def HierOrderWrongFalsely : Prop := hierOrderRow.holds Tryd.pinned (OpenSpec.ofChange hierOrderWrong)

/-- 'atlaslaw11.HierFinds': WHATEVER THE INPUT: true; the input reads as it did. -/
def hierFindsSpec : ChangeSpec := { name := "hierFinds", fn := fun _ => fun
  | [d1, d2, d3, d4] => { results := [.lit (.bool true)], args := [d1, d2, d3, d4] }
  | _ => none }
def hierFindsRow : OpenClaim := { program := "ytngcpcgioophcaadoor", sum := "ac0aaf9ea51605f081d72cc5033ed2a1070f048b1c7f244230b0cf79bbad877c", func := "atlas/atlaslaw11.HierFinds", spec := "hierFinds", unfollowed := true, recurses := true, named := ["atlas/desc.shifts"], apart := false, laid := [("atlas/desc.shifts", laid_atlas_desc_shifts)] }
def HierFindsSaid : Prop := hierFindsRow.holds Tryd.pinned (OpenSpec.ofChange hierFindsSpec)

/-- ITS FALSE NEIGHBOUR: 'it returns false'. Refute it at one input. -/
def hierFindsWrong : ChangeSpec := { name := "hierFinds", fn := fun _ => fun
  | [d1, d2, d3, d4] => { results := [.lit (.bool false)], args := [d1, d2, d3, d4] }
  | _ => none }
def HierFindsWrongFalsely : Prop := hierFindsRow.holds Tryd.pinned (OpenSpec.ofChange hierFindsWrong)

/-- 'atlaslaw11.HierKeeps': WHATEVER THE INPUT: true; the input reads as it did. -/
def hierKeepsSpec : ChangeSpec := { name := "hierKeeps", fn := fun _ => fun
  | [d1, d2, d3, d4] => { results := [.lit (.bool true)], args := [d1, d2, d3, d4] }
  | _ => none }
def hierKeepsRow : OpenClaim := { program := "ytngcpcgioophcaadoor", sum := "ac0aaf9ea51605f081d72cc5033ed2a1070f048b1c7f244230b0cf79bbad877c", func := "atlas/atlaslaw11.HierKeeps", spec := "hierKeeps", unfollowed := true, recurses := true, named := ["atlas/desc.shifts"], apart := false, laid := [("atlas/desc.shifts", laid_atlas_desc_shifts)] }
def HierKeepsSaid : Prop := hierKeepsRow.holds Tryd.pinned (OpenSpec.ofChange hierKeepsSpec)

/-- ITS FALSE NEIGHBOUR: 'it returns false'. Refute it at one input. -/
def hierKeepsWrong : ChangeSpec := { name := "hierKeeps", fn := fun _ => fun
  | [d1, d2, d3, d4] => { results := [.lit (.bool false)], args := [d1, d2, d3, d4] }
  | _ => none }
def HierKeepsWrongFalsely : Prop := hierKeepsRow.holds Tryd.pinned (OpenSpec.ofChange hierKeepsWrong)

/-- 'atlaslaw11.HierEvicts': WHATEVER THE INPUT: true; the input reads as it did. -/
def hierEvictsSpec : ChangeSpec := { name := "hierEvicts", fn := fun _ => fun
  | [d1, d2, d3, d4] => { results := [.lit (.bool true)], args := [d1, d2, d3, d4] }
  | _ => none }
def hierEvictsRow : OpenClaim := { program := "ytngcpcgioophcaadoor", sum := "ac0aaf9ea51605f081d72cc5033ed2a1070f048b1c7f244230b0cf79bbad877c", func := "atlas/atlaslaw11.HierEvicts", spec := "hierEvicts", unfollowed := true, recurses := true, named := ["atlas/desc.shifts"], apart := false, laid := [("atlas/desc.shifts", laid_atlas_desc_shifts)] }
def HierEvictsSaid : Prop := hierEvictsRow.holds Tryd.pinned (OpenSpec.ofChange hierEvictsSpec)

/-- ITS FALSE NEIGHBOUR: 'it returns false'. Refute it at one input. -/
def hierEvictsWrong : ChangeSpec := { name := "hierEvicts", fn := fun _ => fun
  | [d1, d2, d3, d4] => { results := [.lit (.bool false)], args := [d1, d2, d3, d4] }
  | _ => none }
def HierEvictsWrongFalsely : Prop := hierEvictsRow.holds Tryd.pinned (OpenSpec.ofChange hierEvictsWrong)

/-- 'atlaslaw11.HierDrops': WHATEVER THE INPUT: true; the input reads as it did. -/
def hierDropsSpec : ChangeSpec := { name := "hierDrops", fn := fun _ => fun
  | [d1, d2, d3, d4] => { results := [.lit (.bool true)], args := [d1, d2, d3, d4] }
  | _ => none }
def hierDropsRow : OpenClaim := { program := "ytngcpcgioophcaadoor", sum := "ac0aaf9ea51605f081d72cc5033ed2a1070f048b1c7f244230b0cf79bbad877c", func := "atlas/atlaslaw11.HierDrops", spec := "hierDrops", unfollowed := true, recurses := true, named := ["atlas/desc.shifts"], apart := false, laid := [("atlas/desc.shifts", laid_atlas_desc_shifts)] }
def HierDropsSaid : Prop := hierDropsRow.holds Tryd.pinned (OpenSpec.ofChange hierDropsSpec)

/-- ITS FALSE NEIGHBOUR: 'it returns false'. Refute it at one input. -/
def hierDropsWrong : ChangeSpec := { name := "hierDrops", fn := fun _ => fun
  | [d1, d2, d3, d4] => { results := [.lit (.bool false)], args := [d1, d2, d3, d4] }
  | _ => none }
def HierDropsWrongFalsely : Prop := hierDropsRow.holds Tryd.pinned (OpenSpec.ofChange hierDropsWrong)

/-- 'atlaslaw11.HierAll': WHATEVER THE INPUT: true; the input reads as it did. -/
def hierAllSpec : ChangeSpec := { name := "hierAll", fn := fun _ => fun
  | [d1, d2, d3, d4] => { results := [.lit (.bool true)], args := [d1, d2, d3, d4] }
  | _ => none }
def hierAllRow : OpenClaim := { program := "ytngcpcgioophcaadoor", sum := "ac0aaf9ea51605f081d72cc5033ed2a1070f048b1c7f244230b0cf79bbad877c", func := "atlas/atlaslaw11.HierAll", spec := "hierAll", unfollowed := true, recurses := true, named := ["atlas/desc.shifts"], apart := false, laid := [("atlas/desc.shifts", laid_atlas_desc_shifts)] }
def HierAllSaid : Prop := hierAllRow.holds Tryd.pinned (OpenSpec.ofChange hierAllSpec)

/-- ITS FALSE NEIGHBOUR: 'it returns false'. Refute it at one input. -/
def hierAllWrong : ChangeSpec := { name := "hierAll", fn := fun _ => fun
  | [d1, d2, d3, d4] => { results := [.lit (.bool false)], args := [d1, d2, d3, d4] }
  | _ => none }
def HierAllWrongFalsely : Prop := hierAllRow.holds Tryd.pinned (OpenSpec.ofChange hierAllWrong)

/-- 'atlaslaw11.HierOwn': WHATEVER THE INPUT: true; the input reads as it did. -/
def hierOwnSpec : ChangeSpec := { name := "hierOwn", fn := fun _ => fun
  | [d1, d2, d3, d4] => { results := [.lit (.bool true)], args := [d1, d2, d3, d4] }
  | _ => none }
def hierOwnRow : OpenClaim := { program := "ytngcpcgioophcaadoor", sum := "ac0aaf9ea51605f081d72cc5033ed2a1070f048b1c7f244230b0cf79bbad877c", func := "atlas/atlaslaw11.HierOwn", spec := "hierOwn", unfollowed := true, recurses := true, named := ["atlas/desc.shifts"], apart := false, laid := [("atlas/desc.shifts", laid_atlas_desc_shifts)] }
def HierOwnSaid : Prop := hierOwnRow.holds Tryd.pinned (OpenSpec.ofChange hierOwnSpec)

/-- ITS FALSE NEIGHBOUR: 'it returns false'. Refute it at one input. -/
def hierOwnWrong : ChangeSpec := { name := "hierOwn", fn := fun _ => fun
  | [d1, d2, d3, d4] => { results := [.lit (.bool false)], args := [d1, d2, d3, d4] }
  | _ => none }
def HierOwnWrongFalsely : Prop := hierOwnRow.holds Tryd.pinned (OpenSpec.ofChange hierOwnWrong)

/-- 'atlaslaw11.HierOnly': WHATEVER THE INPUT: true; the input reads as it did. -/
def hierOnlySpec : ChangeSpec := { name := "hierOnly", fn := fun _ => fun
  | [d1, d2, d3, d4] => { results := [.lit (.bool true)], args := [d1, d2, d3, d4] }
  | _ => none }
def hierOnlyRow : OpenClaim := { program := "ytngcpcgioophcaadoor", sum := "ac0aaf9ea51605f081d72cc5033ed2a1070f048b1c7f244230b0cf79bbad877c", func := "atlas/atlaslaw11.HierOnly", spec := "hierOnly", unfollowed := true, recurses := true, named := ["atlas/desc.shifts"], apart := false, laid := [("atlas/desc.shifts", laid_atlas_desc_shifts)] }
def HierOnlySaid : Prop := hierOnlyRow.holds Tryd.pinned (OpenSpec.ofChange hierOnlySpec)

/-- ITS FALSE NEIGHBOUR: 'it returns false'. Refute it at one input. -/
def hierOnlyWrong : ChangeSpec := { name := "hierOnly", fn := fun _ => fun
  | [d1, d2, d3, d4] => { results := [.lit (.bool false)], args := [d1, d2, d3, d4] }
  | _ => none }
def HierOnlyWrongFalsely : Prop := hierOnlyRow.holds Tryd.pinned (OpenSpec.ofChange hierOnlyWrong)

/- THE SECOND FORM. 'bulk': how many values and letters a reading holds, each counted each time it is reached (what is shared counts as often as it is met; a slice's spare places count too). A statement '..UptoSaid' is the law's where the arguments, and the package variables that the reading takes, are together of bulk at most 1048576: NARROWER than '..Said'. Prove '..Said' where nothing that the law and all that it calls make is longer than what came in: it says more and counts as full. Else prove '..UptoSaid'. A law counts once. -/
mutual
def uptoBulk {H : Type} : DataW H → Nat
  | .lit (.string bytes) => bytes.length + 1
  | .lit _ => 1
  | .nil => 1
  | .ptr d => uptoBulk d + 1
  | .slice elems spare => uptoBulkAll elems + uptoBulkAll spare + 1
  | .agg parts => uptoBulkAll parts + 1
  | .iface _ d => uptoBulk d + 1
  | .map entries => uptoBulkEntries entries + 1
  | .held _ => 1
def uptoBulkAll {H : Type} : List (DataW H) → Nat
  | [] => 0
  | d :: r => uptoBulk d + uptoBulkAll r
def uptoBulkEntries {H : Type} : List (Lit × DataW H) → Nat
  | [] => 0
  | x :: r => uptoBulkEntry x + uptoBulkEntries r
def uptoBulkEntry {H : Type} : Lit × DataW H → Nat
  | (.string bytes, d) => bytes.length + uptoBulk d + 1
  | (_, d) => uptoBulk d + 1
 end
def uptoSmall : (H : Type) → List (DataW H) → Bool := fun _ ds => decide (uptoBulkAll ds ≤ 1048576)
def OpenSpec.upto (s : _root_.Go.ChangeSpec) : _root_.Go.OpenSpec := { _root_.Go.OpenSpec.ofChange s with cond := some uptoSmall }

/-- 'atlaslaw10.TlbTells', WHERE WHAT IT READS IS OF BULK AT MOST 1048576: true; the input reads as it did. -/
def tlbTellsUptoRow : OpenClaim := { program := "ytngcpcgioophcaadoor", sum := "ac0aaf9ea51605f081d72cc5033ed2a1070f048b1c7f244230b0cf79bbad877c", func := "atlas/atlaslaw10.TlbTells", spec := "tlbTells", unfollowed := true, recurses := true, named := ["atlas/desc.shifts"], apart := false, laid := [("atlas/desc.shifts", laid_atlas_desc_shifts)], narrowed := true }
def TlbTellsUptoSaid : Prop := tlbTellsUptoRow.holds Tryd.pinned (OpenSpec.upto tlbTellsSpec)

/-- 'atlaslaw10.TlbDrops', WHERE WHAT IT READS IS OF BULK AT MOST 1048576: true; the input reads as it did. -/
def tlbDropsUptoRow : OpenClaim := { program := "ytngcpcgioophcaadoor", sum := "ac0aaf9ea51605f081d72cc5033ed2a1070f048b1c7f244230b0cf79bbad877c", func := "atlas/atlaslaw10.TlbDrops", spec := "tlbDrops", unfollowed := true, recurses := true, named := ["atlas/desc.shifts"], apart := false, laid := [("atlas/desc.shifts", laid_atlas_desc_shifts)], narrowed := true }
def TlbDropsUptoSaid : Prop := tlbDropsUptoRow.holds Tryd.pinned (OpenSpec.upto tlbDropsSpec)

/-- 'atlaslaw10.TlbKeeps', WHERE WHAT IT READS IS OF BULK AT MOST 1048576: true; the input reads as it did. -/
def tlbKeepsUptoRow : OpenClaim := { program := "ytngcpcgioophcaadoor", sum := "ac0aaf9ea51605f081d72cc5033ed2a1070f048b1c7f244230b0cf79bbad877c", func := "atlas/atlaslaw10.TlbKeeps", spec := "tlbKeeps", unfollowed := true, recurses := true, named := ["atlas/desc.shifts"], apart := false, laid := [("atlas/desc.shifts", laid_atlas_desc_shifts)], narrowed := true }
def TlbKeepsUptoSaid : Prop := tlbKeepsUptoRow.holds Tryd.pinned (OpenSpec.upto tlbKeepsSpec)

/-- 'atlaslaw10.TlbMatches', WHERE WHAT IT READS IS OF BULK AT MOST 1048576: true; the input reads as it did. -/
def tlbMatchesUptoRow : OpenClaim := { program := "ytngcpcgioophcaadoor", sum := "ac0aaf9ea51605f081d72cc5033ed2a1070f048b1c7f244230b0cf79bbad877c", func := "atlas/atlaslaw10.TlbMatches", spec := "tlbMatches", unfollowed := true, recurses := true, named := ["atlas/desc.shifts"], apart := false, laid := [("atlas/desc.shifts", laid_atlas_desc_shifts)], narrowed := true }
def TlbMatchesUptoSaid : Prop := tlbMatchesUptoRow.holds Tryd.pinned (OpenSpec.upto tlbMatchesSpec)

/-- 'atlaslaw10.TlbFresh', WHERE WHAT IT READS IS OF BULK AT MOST 1048576: true; the input reads as it did. -/
def tlbFreshUptoRow : OpenClaim := { program := "ytngcpcgioophcaadoor", sum := "ac0aaf9ea51605f081d72cc5033ed2a1070f048b1c7f244230b0cf79bbad877c", func := "atlas/atlaslaw10.TlbFresh", spec := "tlbFresh", unfollowed := true, recurses := true, named := ["atlas/desc.shifts"], apart := false, laid := [("atlas/desc.shifts", laid_atlas_desc_shifts)], narrowed := true }
def TlbFreshUptoSaid : Prop := tlbFreshUptoRow.holds Tryd.pinned (OpenSpec.upto tlbFreshSpec)

/-- 'atlaslaw10.TlbPlays', WHERE WHAT IT READS IS OF BULK AT MOST 1048576: true; the input reads as it did. -/
def tlbPlaysUptoRow : OpenClaim := { program := "ytngcpcgioophcaadoor", sum := "ac0aaf9ea51605f081d72cc5033ed2a1070f048b1c7f244230b0cf79bbad877c", func := "atlas/atlaslaw10.TlbPlays", spec := "tlbPlays", unfollowed := true, recurses := true, named := ["atlas/desc.shifts"], apart := false, laid := [("atlas/desc.shifts", laid_atlas_desc_shifts)], narrowed := true }
def TlbPlaysUptoSaid : Prop := tlbPlaysUptoRow.holds Tryd.pinned (OpenSpec.upto tlbPlaysSpec)

/-- 'atlaslaw11.HierOrder', WHERE WHAT IT READS IS OF BULK AT MOST 1048576: true; the input reads as it did. -/
def hierOrderUptoRow : OpenClaim := { program := "ytngcpcgioophcaadoor", sum := "ac0aaf9ea51605f081d72cc5033ed2a1070f048b1c7f244230b0cf79bbad877c", func := "atlas/atlaslaw11.HierOrder", spec := "hierOrder", named := ["atlas/desc.shifts"], apart := false, laid := [("atlas/desc.shifts", laid_atlas_desc_shifts)], narrowed := true }
def HierOrderUptoSaid : Prop := hierOrderUptoRow.holds Tryd.pinned (OpenSpec.upto hierOrderSpec)

/-- 'atlaslaw11.HierFinds', WHERE WHAT IT READS IS OF BULK AT MOST 1048576: true; the input reads as it did. -/
def hierFindsUptoRow : OpenClaim := { program := "ytngcpcgioophcaadoor", sum := "ac0aaf9ea51605f081d72cc5033ed2a1070f048b1c7f244230b0cf79bbad877c", func := "atlas/atlaslaw11.HierFinds", spec := "hierFinds", unfollowed := true, recurses := true, named := ["atlas/desc.shifts"], apart := false, laid := [("atlas/desc.shifts", laid_atlas_desc_shifts)], narrowed := true }
def HierFindsUptoSaid : Prop := hierFindsUptoRow.holds Tryd.pinned (OpenSpec.upto hierFindsSpec)

/-- 'atlaslaw11.HierKeeps', WHERE WHAT IT READS IS OF BULK AT MOST 1048576: true; the input reads as it did. -/
def hierKeepsUptoRow : OpenClaim := { program := "ytngcpcgioophcaadoor", sum := "ac0aaf9ea51605f081d72cc5033ed2a1070f048b1c7f244230b0cf79bbad877c", func := "atlas/atlaslaw11.HierKeeps", spec := "hierKeeps", unfollowed := true, recurses := true, named := ["atlas/desc.shifts"], apart := false, laid := [("atlas/desc.shifts", laid_atlas_desc_shifts)], narrowed := true }
def HierKeepsUptoSaid : Prop := hierKeepsUptoRow.holds Tryd.pinned (OpenSpec.upto hierKeepsSpec)

/-- 'atlaslaw11.HierEvicts', WHERE WHAT IT READS IS OF BULK AT MOST 1048576: true; the input reads as it did. -/
def hierEvictsUptoRow : OpenClaim := { program := "ytngcpcgioophcaadoor", sum := "ac0aaf9ea51605f081d72cc5033ed2a1070f048b1c7f244230b0cf79bbad877c", func := "atlas/atlaslaw11.HierEvicts", spec := "hierEvicts", unfollowed := true, recurses := true, named := ["atlas/desc.shifts"], apart := false, laid := [("atlas/desc.shifts", laid_atlas_desc_shifts)], narrowed := true }
def HierEvictsUptoSaid : Prop := hierEvictsUptoRow.holds Tryd.pinned (OpenSpec.upto hierEvictsSpec)

/-- 'atlaslaw11.HierDrops', WHERE WHAT IT READS IS OF BULK AT MOST 1048576: true; the input reads as it did. -/
def hierDropsUptoRow : OpenClaim := { program := "ytngcpcgioophcaadoor", sum := "ac0aaf9ea51605f081d72cc5033ed2a1070f048b1c7f244230b0cf79bbad877c", func := "atlas/atlaslaw11.HierDrops", spec := "hierDrops", unfollowed := true, recurses := true, named := ["atlas/desc.shifts"], apart := false, laid := [("atlas/desc.shifts", laid_atlas_desc_shifts)], narrowed := true }
def HierDropsUptoSaid : Prop := hierDropsUptoRow.holds Tryd.pinned (OpenSpec.upto hierDropsSpec)

/-- 'atlaslaw11.HierAll', WHERE WHAT IT READS IS OF BULK AT MOST 1048576: true; the input reads as it did. -/
def hierAllUptoRow : OpenClaim := { program := "ytngcpcgioophcaadoor", sum := "ac0aaf9ea51605f081d72cc5033ed2a1070f048b1c7f244230b0cf79bbad877c", func := "atlas/atlaslaw11.HierAll", spec := "hierAll", unfollowed := true, recurses := true, named := ["atlas/desc.shifts"], apart := false, laid := [("atlas/desc.shifts", laid_atlas_desc_shifts)], narrowed := true }
def HierAllUptoSaid : Prop := hierAllUptoRow.holds Tryd.pinned (OpenSpec.upto hierAllSpec)

/-- 'atlaslaw11.HierOwn', WHERE WHAT IT READS IS OF BULK AT MOST 1048576: true; the input reads as it did. -/
def hierOwnUptoRow : OpenClaim := { program := "ytngcpcgioophcaadoor", sum := "ac0aaf9ea51605f081d72cc5033ed2a1070f048b1c7f244230b0cf79bbad877c", func := "atlas/atlaslaw11.HierOwn", spec := "hierOwn", unfollowed := true, recurses := true, named := ["atlas/desc.shifts"], apart := false, laid := [("atlas/desc.shifts", laid_atlas_desc_shifts)], narrowed := true }
def HierOwnUptoSaid : Prop := hierOwnUptoRow.holds Tryd.pinned (OpenSpec.upto hierOwnSpec)

/-- 'atlaslaw11.HierOnly', WHERE WHAT IT READS IS OF BULK AT MOST 1048576: true; the input reads as it did. -/
def hierOnlyUptoRow : OpenClaim := { program := "ytngcpcgioophcaadoor", sum := "ac0aaf9ea51605f081d72cc5033ed2a1070f048b1c7f244230b0cf79bbad877c", func := "atlas/atlaslaw11.HierOnly", spec := "hierOnly", unfollowed := true, recurses := true, named := ["atlas/desc.shifts"], apart := false, laid := [("atlas/desc.shifts", laid_atlas_desc_shifts)], narrowed := true }
def HierOnlyUptoSaid : Prop := hierOnlyUptoRow.holds Tryd.pinned (OpenSpec.upto hierOnlySpec)

end Rows
end Go.Proofs.YtngcpcgioophcaaDoor
