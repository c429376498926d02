/-
  No cell of these rows narrows 'for every input' (looked for: loops, veiled, ifaces, maps, wideKeys, modest, calm, conditions, laid).
  DERIVED. THE GIVEN ROWS OF THIS SEAT. 5 by the template 'for every input the law returns true; each argument reads behind the call as it read before'; 0 by the template 'total and deterministic' (their statements: YtakihcdolpocjaaTotals.lean).
  GIVEN WITH THE SEED: the statements are not yours to turn. If you find one false, say at which input.
  Laid BY PROGRAM, IN A SANDBOX (cutbox-rows.mjs): the forced cells as the released guide's own fill.sh prints them over the translation bf34e835a07dc560… (all of the seat's roots in one cut). By AI agents, Wed Nov 11 2026. No macro, syntax, notation, axiom, sorry.
-/
import Derived.Test.YtakihcdolpocjaaChecked
import GoSem.Claim
import GoSem.ClaimJoined
import GoSem.ClaimMapViews
import Derived.JoinedTies
import Derived.KernelRfl
namespace Go.Proofs.Ytakihcdolpocjaa
/- THE CELL 'sum', in the pinned program and in every row, IS THE sha256 OF THE DUMP (.gsa) THAT YtakihcdolpocjaaProg.lean LOADS. Nothing in Lean hashes anything: it is a label: what it is worth is what the hold of that sum in a sandbox is worth. -/
noncomputable def Try.pinned : Pinned := { name := "ytakihcdolpocjaa", sum := "bf34e835a07dc560c6c3238eeefaf674ece1b104fb5b6e313e16f865f1ea13fc", checked := Try.checked }
namespace Rows
def none {H : Type} : Left H := { results := [], args := [] }

/-- 'atlaslaw29.SnapSums': WHATEVER THE INPUT: true; the input reads as it did. -/
def snapSumsSpec : ChangeSpec := { name := "snapSums", fn := fun _ => fun
  | [d] => { results := [.lit (.bool true)], args := [d] }
  | _ => none }
def snapSumsRow : OpenClaim := { program := "ytakihcdolpocjaa", sum := "bf34e835a07dc560c6c3238eeefaf674ece1b104fb5b6e313e16f865f1ea13fc", func := "atlas/atlaslaw29.SnapSums", spec := "snapSums", apart := false }
def SnapSumsSaid : Prop := snapSumsRow.holds Try.pinned (OpenSpec.ofChange snapSumsSpec)

/-- ITS FALSE NEIGHBOUR: 'it returns false'. Refute it at one input. -/
def snapSumsWrong : ChangeSpec := { name := "snapSums", fn := fun _ => fun
  | [d] => { results := [.lit (.bool false)], args := [d] }
  | _ => none }
def SnapSumsWrongFalsely : Prop := snapSumsRow.holds Try.pinned (OpenSpec.ofChange snapSumsWrong)

/-- 'atlaslaw29.SnapPacks': WHATEVER THE INPUT: true; the input reads as it did. -/
def snapPacksSpec : ChangeSpec := { name := "snapPacks", fn := fun _ => fun
  | [d] => { results := [.lit (.bool true)], args := [d] }
  | _ => none }
def snapPacksRow : OpenClaim := { program := "ytakihcdolpocjaa", sum := "bf34e835a07dc560c6c3238eeefaf674ece1b104fb5b6e313e16f865f1ea13fc", func := "atlas/atlaslaw29.SnapPacks", spec := "snapPacks", apart := false }
def SnapPacksSaid : Prop := snapPacksRow.holds Try.pinned (OpenSpec.ofChange snapPacksSpec)

/-- ITS FALSE NEIGHBOUR: 'it returns false'. Refute it at one input. -/
def snapPacksWrong : ChangeSpec := { name := "snapPacks", fn := fun _ => fun
  | [d] => { results := [.lit (.bool false)], args := [d] }
  | _ => none }
def SnapPacksWrongFalsely : Prop := snapPacksRow.holds Try.pinned (OpenSpec.ofChange snapPacksWrong)

/-- 'atlaslaw29.SnapUnpacks': WHATEVER THE INPUT: true; the input reads as it did. -/
def snapUnpacksSpec : ChangeSpec := { name := "snapUnpacks", fn := fun _ => fun
  | [d1, d2] => { results := [.lit (.bool true)], args := [d1, d2] }
  | _ => none }
def snapUnpacksRow : OpenClaim := { program := "ytakihcdolpocjaa", sum := "bf34e835a07dc560c6c3238eeefaf674ece1b104fb5b6e313e16f865f1ea13fc", func := "atlas/atlaslaw29.SnapUnpacks", spec := "snapUnpacks", apart := false }
def SnapUnpacksSaid : Prop := snapUnpacksRow.holds Try.pinned (OpenSpec.ofChange snapUnpacksSpec)

/-- ITS FALSE NEIGHBOUR: 'it returns false'. Refute it at one input. -/
def snapUnpacksWrong : ChangeSpec := { name := "snapUnpacks", fn := fun _ => fun
  | [d1, d2] => { results := [.lit (.bool false)], args := [d1, d2] }
  | _ => none }
def SnapUnpacksWrongFalsely : Prop := snapUnpacksRow.holds Try.pinned (OpenSpec.ofChange snapUnpacksWrong)

/-- 'atlaslaw11.HierMakes': WHATEVER THE INPUT: true; the input reads as it did. -/
def hierMakesSpec : ChangeSpec := { name := "hierMakes", fn := fun _ => fun
  | [d1, d2, d3] => { results := [.lit (.bool true)], args := [d1, d2, d3] }
  | _ => none }
def hierMakesRow : OpenClaim := { program := "ytakihcdolpocjaa", sum := "bf34e835a07dc560c6c3238eeefaf674ece1b104fb5b6e313e16f865f1ea13fc", func := "atlas/atlaslaw11.HierMakes", spec := "hierMakes", apart := false }
def HierMakesSaid : Prop := hierMakesRow.holds Try.pinned (OpenSpec.ofChange hierMakesSpec)

/-- ITS FALSE NEIGHBOUR: 'it returns false'. Refute it at one input. -/
def hierMakesWrong : ChangeSpec := { name := "hierMakes", fn := fun _ => fun
  | [d1, d2, d3] => { results := [.lit (.bool false)], args := [d1, d2, d3] }
  | _ => none }
def HierMakesWrongFalsely : Prop := hierMakesRow.holds Try.pinned (OpenSpec.ofChange hierMakesWrong)

/-- 'atlaslaw29.SnapTold': WHATEVER THE INPUT: true; the input reads as it did. -/
def snapToldSpec : ChangeSpec := { name := "snapTold", fn := fun _ => fun
  | [d1, d2] => { results := [.lit (.bool true)], args := [d1, d2] }
  | _ => none }
def snapToldRow : OpenClaim := { program := "ytakihcdolpocjaa", sum := "bf34e835a07dc560c6c3238eeefaf674ece1b104fb5b6e313e16f865f1ea13fc", func := "atlas/atlaslaw29.SnapTold", spec := "snapTold", apart := false }
def SnapToldSaid : Prop := snapToldRow.holds Try.pinned (OpenSpec.ofChange snapToldSpec)

/-- ITS FALSE NEIGHBOUR: 'it returns false'. Refute it at one input. -/
def snapToldWrong : ChangeSpec := { name := "snapTold", fn := fun _ => fun
  | [d1, d2] => { results := [.lit (.bool false)], args := [d1, d2] }
  | _ => none }
def SnapToldWrongFalsely : Prop := snapToldRow.holds Try.pinned (OpenSpec.ofChange snapToldWrong)

/- THE SECOND FORM. 'bulk': how many values and letters a reading holds, each counted each time it is reached (what is shared counts as often as it is met; a slice's spare places count too). A statement '..UptoSaid' is the law's where the arguments, and the package variables that the reading takes, are together of bulk at most 1048576: NARROWER than '..Said'. Prove '..Said' where nothing that the law and all that it calls make is longer than what came in: it says more and counts as full. Else prove '..UptoSaid'. A law counts once. -/
mutual
def uptoBulk {H : Type} : DataW H → Nat
  | .lit (.string bytes) => bytes.length + 1
  | .lit _ => 1
  | .nil => 1
  | .ptr d => uptoBulk d + 1
  | .slice elems spare => uptoBulkAll elems + uptoBulkAll spare + 1
  | .agg parts => uptoBulkAll parts + 1
  | .iface _ d => uptoBulk d + 1
  | .map entries => uptoBulkEntries entries + 1
  | .held _ => 1
def uptoBulkAll {H : Type} : List (DataW H) → Nat
  | [] => 0
  | d :: r => uptoBulk d + uptoBulkAll r
def uptoBulkEntries {H : Type} : List (Lit × DataW H) → Nat
  | [] => 0
  | x :: r => uptoBulkEntry x + uptoBulkEntries r
def uptoBulkEntry {H : Type} : Lit × DataW H → Nat
  | (.string bytes, d) => bytes.length + uptoBulk d + 1
  | (_, d) => uptoBulk d + 1
 end
def uptoSmall : (H : Type) → List (DataW H) → Bool := fun _ ds => decide (uptoBulkAll ds ≤ 1048576)
def OpenSpec.upto (s : _root_.Go.ChangeSpec) : _root_.Go.OpenSpec := { _root_.Go.OpenSpec.ofChange s with cond := some uptoSmall }

/-- 'atlaslaw29.SnapSums', WHERE WHAT IT READS IS OF BULK AT MOST 1048576: true; the input reads as it did. -/
def snapSumsUptoRow : OpenClaim := { program := "ytakihcdolpocjaa", sum := "bf34e835a07dc560c6c3238eeefaf674ece1b104fb5b6e313e16f865f1ea13fc", func := "atlas/atlaslaw29.SnapSums", spec := "snapSums", apart := false, narrowed := true }
def SnapSumsUptoSaid : Prop := snapSumsUptoRow.holds Try.pinned (OpenSpec.upto snapSumsSpec)

/-- 'atlaslaw29.SnapPacks', WHERE WHAT IT READS IS OF BULK AT MOST 1048576: true; the input reads as it did. -/
def snapPacksUptoRow : OpenClaim := { program := "ytakihcdolpocjaa", sum := "bf34e835a07dc560c6c3238eeefaf674ece1b104fb5b6e313e16f865f1ea13fc", func := "atlas/atlaslaw29.SnapPacks", spec := "snapPacks", apart := false, narrowed := true }
def SnapPacksUptoSaid : Prop := snapPacksUptoRow.holds Try.pinned (OpenSpec.upto snapPacksSpec)

/-- 'atlaslaw29.SnapUnpacks', WHERE WHAT IT READS IS OF BULK AT MOST 1048576: true; the input reads as it did. -/
def snapUnpacksUptoRow : OpenClaim := { program := "ytakihcdolpocjaa", sum := "bf34e835a07dc560c6c3238eeefaf674ece1b104fb5b6e313e16f865f1ea13fc", func := "atlas/atlaslaw29.SnapUnpacks", spec := "snapUnpacks", apart := false, narrowed := true }
def SnapUnpacksUptoSaid : Prop := snapUnpacksUptoRow.holds Try.pinned (OpenSpec.upto snapUnpacksSpec)

/-- 'atlaslaw11.HierMakes', WHERE WHAT IT READS IS OF BULK AT MOST 1048576: true; the input reads as it did. -/
def hierMakesUptoRow : OpenClaim := { program := "ytakihcdolpocjaa", sum := "bf34e835a07dc560c6c3238eeefaf674ece1b104fb5b6e313e16f865f1ea13fc", func := "atlas/atlaslaw11.HierMakes", spec := "hierMakes", apart := false, narrowed := true }
def HierMakesUptoSaid : Prop := hierMakesUptoRow.holds Try.pinned (OpenSpec.upto hierMakesSpec)

/-- 'atlaslaw29.SnapTold', WHERE WHAT IT READS IS OF BULK AT MOST 1048576: true; the input reads as it did. -/
def snapToldUptoRow : OpenClaim := { program := "ytakihcdolpocjaa", sum := "bf34e835a07dc560c6c3238eeefaf674ece1b104fb5b6e313e16f865f1ea13fc", func := "atlas/atlaslaw29.SnapTold", spec := "snapTold", apart := false, narrowed := true }
def SnapToldUptoSaid : Prop := snapToldUptoRow.holds Try.pinned (OpenSpec.upto snapToldSpec)

end Rows
end Go.Proofs.Ytakihcdolpocjaa
