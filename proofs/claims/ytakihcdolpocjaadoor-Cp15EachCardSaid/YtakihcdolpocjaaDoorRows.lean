/-
  NARROWER THAN 'FOR EVERY INPUT', by the rows' own cells (each row's printed sentence says how): Cp15Plays: laid · Cp15Tuples: laid · Cp15Each: laid · Cp15Mask: laid · Cp15Seen: laid.
  DERIVED. THE GIVEN ROWS OF THIS SEAT. 5 by the template 'for every input the law returns true; each argument reads behind the call as it read before'; 0 by the template 'total and deterministic' (their statements: YtakihcdolpocjaaDoorTotals.lean).
  GIVEN WITH THE SEED: the statements are not yours to turn. If you find one false, say at which input.
  Laid BY PROGRAM, IN A SANDBOX (cutbox-rows.mjs): the forced cells as the released guide's own fill.sh prints them over the translation 70360dd30f557ee0… (all of the seat's roots in one cut). By AI agents, Wed Nov 11 2026. No macro, syntax, notation, axiom, sorry.
-/
import Derived.Test.YtakihcdolpocjaaDoorChecked
import GoSem.Claim
import GoSem.ClaimJoined
import GoSem.ClaimMapViews
import Derived.JoinedTies
import Derived.KernelRfl
namespace Go.Proofs.YtakihcdolpocjaaDoor
/- THE CELL 'sum', in the pinned program and in every row, IS THE sha256 OF THE DUMP (.gsa) THAT YtakihcdolpocjaaDoorProg.lean LOADS. Nothing in Lean hashes anything: it is a label: what it is worth is what the hold of that sum in a sandbox is worth. -/
noncomputable def Tryd.pinned : Pinned := { name := "ytakihcdolpocjaadoor", sum := "70360dd30f557ee086dd21a579ac6218b7ad300e0fdbfd4e7635d4393fd44be1", checked := Tryd.checked }
namespace Rows
def none {H : Type} : Left H := { results := [], args := [] }

/- WHAT THE LISTED PACKAGE-LEVEL VARIABLES READ AS WHEN THE CALL BEGINS. Each datum BY PROGRAM (the guide's laid-datum.mjs) off the statement by which the dump's own 'gosem.cut.vars' lays the variable. In a bare row this is a premise. The card (YtakihcdolpocjaaDoorCards.lean) ties it to the program's text. -/
def laid_atlas_cp15_rules {H : Type} : DataW H := .agg [.agg [.agg [.lit (.int .i64 1), .lit (.int .i64 0), .lit (.int .i64 0), .lit (.int .i64 0)], .lit (.int .u32 805306369), .lit (.int .u32 0)], .agg [.agg [.lit (.int .i64 2), .lit (.int .i64 0), .lit (.int .i64 0), .lit (.int .i64 0)], .lit (.int .u32 4294967168), .lit (.int .u32 0)], .agg [.agg [.lit (.int .i64 2), .lit (.int .i64 0), .lit (.int .i64 0), .lit (.int .i64 1)], .lit (.int .u32 4294950912), .lit (.int .u32 0)], .agg [.agg [.lit (.int .i64 2), .lit (.int .i64 0), .lit (.int .i64 0), .lit (.int .i64 2)], .lit (.int .u32 55), .lit (.int .u32 0)], .agg [.agg [.lit (.int .i64 3), .lit (.int .i64 0), .lit (.int .i64 0), .lit (.int .i64 0)], .lit (.int .u32 4294967295), .lit (.int .u32 0)], .agg [.agg [.lit (.int .i64 5), .lit (.int .i64 0), .lit (.int .i64 0), .lit (.int .i64 0)], .lit (.int .u32 7423), .lit (.int .u32 0)], .agg [.agg [.lit (.int .i64 5), .lit (.int .i64 0), .lit (.int .i64 0), .lit (.int .i64 1)], .lit (.int .u32 5135), .lit (.int .u32 0)], .agg [.agg [.lit (.int .i64 6), .lit (.int .i64 0), .lit (.int .i64 0), .lit (.int .i64 0)], .lit (.int .u32 4294967295), .lit (.int .u32 0)], .agg [.agg [.lit (.int .i64 6), .lit (.int .i64 0), .lit (.int .i64 0), .lit (.int .i64 2)], .lit (.int .u32 4294967295), .lit (.int .u32 0)], .agg [.agg [.lit (.int .i64 7), .lit (.int .i64 0), .lit (.int .i64 4), .lit (.int .i64 0)], .lit (.int .u32 4294967295), .lit (.int .u32 0)], .agg [.agg [.lit (.int .i64 10), .lit (.int .i64 0), .lit (.int .i64 2), .lit (.int .i64 0)], .lit (.int .u32 4279238655), .lit (.int .u32 625316)], .agg [.agg [.lit (.int .i64 10), .lit (.int .i64 0), .lit (.int .i64 2), .lit (.int .i64 1)], .lit (.int .u32 4294967295), .lit (.int .u32 1155549408)], .agg [.agg [.lit (.int .i64 13), .lit (.int .i64 0), .lit (.int .i64 0), .lit (.int .i64 1)], .lit (.int .u32 4294967295), .lit (.int .u32 0)]]

/-- 'atlaslaw08.Cp15Plays': WHATEVER THE INPUT: true; the input reads as it did. -/
def cp15PlaysSpec : ChangeSpec := { name := "cp15Plays", fn := fun _ => fun
  | [d] => { results := [.lit (.bool true)], args := [d] }
  | _ => none }
def cp15PlaysRow : OpenClaim := { program := "ytakihcdolpocjaadoor", sum := "70360dd30f557ee086dd21a579ac6218b7ad300e0fdbfd4e7635d4393fd44be1", func := "atlas/atlaslaw08.Cp15Plays", spec := "cp15Plays", unfollowed := true, recurses := true, named := ["atlas/cp15.rules"], apart := false, laid := [("atlas/cp15.rules", laid_atlas_cp15_rules)] }
def Cp15PlaysSaid : Prop := cp15PlaysRow.holds Tryd.pinned (OpenSpec.ofChange cp15PlaysSpec)

/-- ITS FALSE NEIGHBOUR: 'it returns false'. Refute it at one input. -/
def cp15PlaysWrong : ChangeSpec := { name := "cp15Plays", fn := fun _ => fun
  | [d] => { results := [.lit (.bool false)], args := [d] }
  | _ => none }
def Cp15PlaysWrongFalsely : Prop := cp15PlaysRow.holds Tryd.pinned (OpenSpec.ofChange cp15PlaysWrong)

/-- 'atlaslaw08.Cp15Tuples': WHATEVER THE INPUT: true; the input reads as it did. -/
def cp15TuplesSpec : ChangeSpec := { name := "cp15Tuples", fn := fun _ => fun
  | [d1, d2] => { results := [.lit (.bool true)], args := [d1, d2] }
  | _ => none }
def cp15TuplesRow : OpenClaim := { program := "ytakihcdolpocjaadoor", sum := "70360dd30f557ee086dd21a579ac6218b7ad300e0fdbfd4e7635d4393fd44be1", func := "atlas/atlaslaw08.Cp15Tuples", spec := "cp15Tuples", unfollowed := true, recurses := true, named := ["atlas/cp15.rules"], apart := false, laid := [("atlas/cp15.rules", laid_atlas_cp15_rules)] }
def Cp15TuplesSaid : Prop := cp15TuplesRow.holds Tryd.pinned (OpenSpec.ofChange cp15TuplesSpec)

/-- ITS FALSE NEIGHBOUR: 'it returns false'. Refute it at one input. -/
def cp15TuplesWrong : ChangeSpec := { name := "cp15Tuples", fn := fun _ => fun
  | [d1, d2] => { results := [.lit (.bool false)], args := [d1, d2] }
  | _ => none }
def Cp15TuplesWrongFalsely : Prop := cp15TuplesRow.holds Tryd.pinned (OpenSpec.ofChange cp15TuplesWrong)

/-- 'atlaslaw08.Cp15Each': WHATEVER THE INPUT: true; the input reads as it did. -/
def cp15EachSpec : ChangeSpec := { name := "cp15Each", fn := fun _ => fun
  | [d] => { results := [.lit (.bool true)], args := [d] }
  | _ => none }
def cp15EachRow : OpenClaim := { program := "ytakihcdolpocjaadoor", sum := "70360dd30f557ee086dd21a579ac6218b7ad300e0fdbfd4e7635d4393fd44be1", func := "atlas/atlaslaw08.Cp15Each", spec := "cp15Each", unfollowed := true, recurses := true, named := ["atlas/cp15.rules"], apart := false, laid := [("atlas/cp15.rules", laid_atlas_cp15_rules)] }
def Cp15EachSaid : Prop := cp15EachRow.holds Tryd.pinned (OpenSpec.ofChange cp15EachSpec)

/-- ITS FALSE NEIGHBOUR: 'it returns false'. Refute it at one input. -/
def cp15EachWrong : ChangeSpec := { name := "cp15Each", fn := fun _ => fun
  | [d] => { results := [.lit (.bool false)], args := [d] }
  | _ => none }
def Cp15EachWrongFalsely : Prop := cp15EachRow.holds Tryd.pinned (OpenSpec.ofChange cp15EachWrong)

/-- 'atlaslaw08.Cp15Mask': WHATEVER THE INPUT: true; the input reads as it did. -/
def cp15MaskSpec : ChangeSpec := { name := "cp15Mask", fn := fun _ => fun
  | [d1, d2] => { results := [.lit (.bool true)], args := [d1, d2] }
  | _ => none }
def cp15MaskRow : OpenClaim := { program := "ytakihcdolpocjaadoor", sum := "70360dd30f557ee086dd21a579ac6218b7ad300e0fdbfd4e7635d4393fd44be1", func := "atlas/atlaslaw08.Cp15Mask", spec := "cp15Mask", unfollowed := true, recurses := true, named := ["atlas/cp15.rules"], apart := false, laid := [("atlas/cp15.rules", laid_atlas_cp15_rules)] }
def Cp15MaskSaid : Prop := cp15MaskRow.holds Tryd.pinned (OpenSpec.ofChange cp15MaskSpec)

/-- ITS FALSE NEIGHBOUR: 'it returns false'. Refute it at one input. -/
def cp15MaskWrong : ChangeSpec := { name := "cp15Mask", fn := fun _ => fun
  | [d1, d2] => { results := [.lit (.bool false)], args := [d1, d2] }
  | _ => none }
def Cp15MaskWrongFalsely : Prop := cp15MaskRow.holds Tryd.pinned (OpenSpec.ofChange cp15MaskWrong)

/-- 'atlaslaw08.Cp15Seen': WHATEVER THE INPUT: true; the input reads as it did. -/
def cp15SeenSpec : ChangeSpec := { name := "cp15Seen", fn := fun _ => fun
  | [d1, d2] => { results := [.lit (.bool true)], args := [d1, d2] }
  | _ => none }
def cp15SeenRow : OpenClaim := { program := "ytakihcdolpocjaadoor", sum := "70360dd30f557ee086dd21a579ac6218b7ad300e0fdbfd4e7635d4393fd44be1", func := "atlas/atlaslaw08.Cp15Seen", spec := "cp15Seen", unfollowed := true, recurses := true, named := ["atlas/cp15.rules"], apart := false, laid := [("atlas/cp15.rules", laid_atlas_cp15_rules)] }
def Cp15SeenSaid : Prop := cp15SeenRow.holds Tryd.pinned (OpenSpec.ofChange cp15SeenSpec)

/-- ITS FALSE NEIGHBOUR: 'it returns false'. Refute it at one input. -/
def cp15SeenWrong : ChangeSpec := { name := "cp15Seen", fn := fun _ => fun
  | [d1, d2] => { results := [.lit (.bool false)], args := [d1, d2] }
  | _ => none }
def Cp15SeenWrongFalsely : Prop := cp15SeenRow.holds Tryd.pinned (OpenSpec.ofChange cp15SeenWrong)

/- THE SECOND FORM. 'bulk': how many values and letters a reading holds, each counted each time it is reached (what is shared counts as often as it is met; a slice's spare places count too). A statement '..UptoSaid' is the law's where the arguments, and the package variables that the reading takes, are together of bulk at most 1048576: NARROWER than '..Said'. Prove '..Said' where nothing that the law and all that it calls make is longer than what came in: it says more and counts as full. Else prove '..UptoSaid'. A law counts once. -/
mutual
def uptoBulk {H : Type} : DataW H → Nat
  | .lit (.string bytes) => bytes.length + 1
  | .lit _ => 1
  | .nil => 1
  | .ptr d => uptoBulk d + 1
  | .slice elems spare => uptoBulkAll elems + uptoBulkAll spare + 1
  | .agg parts => uptoBulkAll parts + 1
  | .iface _ d => uptoBulk d + 1
  | .map entries => uptoBulkEntries entries + 1
  | .held _ => 1
def uptoBulkAll {H : Type} : List (DataW H) → Nat
  | [] => 0
  | d :: r => uptoBulk d + uptoBulkAll r
def uptoBulkEntries {H : Type} : List (Lit × DataW H) → Nat
  | [] => 0
  | x :: r => uptoBulkEntry x + uptoBulkEntries r
def uptoBulkEntry {H : Type} : Lit × DataW H → Nat
  | (.string bytes, d) => bytes.length + uptoBulk d + 1
  | (_, d) => uptoBulk d + 1
 end
def uptoSmall : (H : Type) → List (DataW H) → Bool := fun _ ds => decide (uptoBulkAll ds ≤ 1048576)
def OpenSpec.upto (s : _root_.Go.ChangeSpec) : _root_.Go.OpenSpec := { _root_.Go.OpenSpec.ofChange s with cond := some uptoSmall }

/-- 'atlaslaw08.Cp15Plays', WHERE WHAT IT READS IS OF BULK AT MOST 1048576: true; the input reads as it did. -/
def cp15PlaysUptoRow : OpenClaim := { program := "ytakihcdolpocjaadoor", sum := "70360dd30f557ee086dd21a579ac6218b7ad300e0fdbfd4e7635d4393fd44be1", func := "atlas/atlaslaw08.Cp15Plays", spec := "cp15Plays", unfollowed := true, recurses := true, named := ["atlas/cp15.rules"], apart := false, laid := [("atlas/cp15.rules", laid_atlas_cp15_rules)], narrowed := true }
def Cp15PlaysUptoSaid : Prop := cp15PlaysUptoRow.holds Tryd.pinned (OpenSpec.upto cp15PlaysSpec)

/-- 'atlaslaw08.Cp15Tuples', WHERE WHAT IT READS IS OF BULK AT MOST 1048576: true; the input reads as it did. -/
def cp15TuplesUptoRow : OpenClaim := { program := "ytakihcdolpocjaadoor", sum := "70360dd30f557ee086dd21a579ac6218b7ad300e0fdbfd4e7635d4393fd44be1", func := "atlas/atlaslaw08.Cp15Tuples", spec := "cp15Tuples", unfollowed := true, recurses := true, named := ["atlas/cp15.rules"], apart := false, laid := [("atlas/cp15.rules", laid_atlas_cp15_rules)], narrowed := true }
def Cp15TuplesUptoSaid : Prop := cp15TuplesUptoRow.holds Tryd.pinned (OpenSpec.upto cp15TuplesSpec)

/-- 'atlaslaw08.Cp15Each', WHERE WHAT IT READS IS OF BULK AT MOST 1048576: true; the input reads as it did. -/
def cp15EachUptoRow : OpenClaim := { program := "ytakihcdolpocjaadoor", sum := "70360dd30f557ee086dd21a579ac6218b7ad300e0fdbfd4e7635d4393fd44be1", func := "atlas/atlaslaw08.Cp15Each", spec := "cp15Each", unfollowed := true, recurses := true, named := ["atlas/cp15.rules"], apart := false, laid := [("atlas/cp15.rules", laid_atlas_cp15_rules)], narrowed := true }
def Cp15EachUptoSaid : Prop := cp15EachUptoRow.holds Tryd.pinned (OpenSpec.upto cp15EachSpec)

/-- 'atlaslaw08.Cp15Mask', WHERE WHAT IT READS IS OF BULK AT MOST 1048576: true; the input reads as it did. -/
def cp15MaskUptoRow : OpenClaim := { program := "ytakihcdolpocjaadoor", sum := "70360dd30f557ee086dd21a579ac6218b7ad300e0fdbfd4e7635d4393fd44be1", func := "atlas/atlaslaw08.Cp15Mask", spec := "cp15Mask", unfollowed := true, recurses := true, named := ["atlas/cp15.rules"], apart := false, laid := [("atlas/cp15.rules", laid_atlas_cp15_rules)], narrowed := true }
def Cp15MaskUptoSaid : Prop := cp15MaskUptoRow.holds Tryd.pinned (OpenSpec.upto cp15MaskSpec)

/-- 'atlaslaw08.Cp15Seen', WHERE WHAT IT READS IS OF BULK AT MOST 1048576: true; the input reads as it did. -/
def cp15SeenUptoRow : OpenClaim := { program := "ytakihcdolpocjaadoor", sum := "70360dd30f557ee086dd21a579ac6218b7ad300e0fdbfd4e7635d4393fd44be1", func := "atlas/atlaslaw08.Cp15Seen", spec := "cp15Seen", unfollowed := true, recurses := true, named := ["atlas/cp15.rules"], apart := false, laid := [("atlas/cp15.rules", laid_atlas_cp15_rules)], narrowed := true }
def Cp15SeenUptoSaid : Prop := cp15SeenUptoRow.holds Tryd.pinned (OpenSpec.upto cp15SeenSpec)

end Rows
end Go.Proofs.YtakihcdolpocjaaDoor
