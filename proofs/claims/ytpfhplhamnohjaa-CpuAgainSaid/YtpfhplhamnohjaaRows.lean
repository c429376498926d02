/-
  No cell of these rows narrows 'for every input' (looked for: loops, veiled, ifaces, maps, wideKeys, modest, calm, conditions, laid).
  DERIVED. THE GIVEN ROWS OF THIS SEAT. 6 by the template 'for every input the law returns true; each argument reads behind the call as it read before'; 0 by the template 'total and deterministic' (their statements: YtpfhplhamnohjaaTotals.lean).
  GIVEN WITH THE SEED: the statements are not yours to turn. If you find one false, say at which input.
  Laid BY PROGRAM, IN A SANDBOX (cutbox-rows.mjs): the forced cells as the released guide's own fill.sh prints them over the translation 6095108cbf250359… (all of the seat's roots in one cut). By AI agents, Wed Nov 11 2026. No macro, syntax, notation, axiom, sorry.
-/
import Derived.Test.YtpfhplhamnohjaaChecked
import GoSem.Claim
import GoSem.ClaimJoined
import GoSem.ClaimMapViews
import Derived.JoinedTies
import Derived.KernelRfl
namespace Go.Proofs.Ytpfhplhamnohjaa
/- THE CELL 'sum', in the pinned program and in every row, IS THE sha256 OF THE DUMP (.gsa) THAT YtpfhplhamnohjaaProg.lean LOADS. Nothing in Lean hashes anything: it is a label: what it is worth is what the hold of that sum in a sandbox is worth. -/
noncomputable def Try.pinned : Pinned := { name := "ytpfhplhamnohjaa", sum := "6095108cbf250359f608ef4fcd46fdb98cf99a06831290635874fb74ab037be7", checked := Try.checked }
namespace Rows
def none {H : Type} : Left H := { results := [], args := [] }

/-- 'atlaslaw20.CpuAgain': WHATEVER THE INPUT: true; the input reads as it did. -/
def cpuAgainSpec : ChangeSpec := { name := "cpuAgain", fn := fun _ => fun
  | [d1, d2, d3] => { results := [.lit (.bool true)], args := [d1, d2, d3] }
  | _ => none }
def cpuAgainRow : OpenClaim := { program := "ytpfhplhamnohjaa", sum := "6095108cbf250359f608ef4fcd46fdb98cf99a06831290635874fb74ab037be7", func := "atlas/atlaslaw20.CpuAgain", spec := "cpuAgain", unfollowed := true, recurses := true, apart := false }
def CpuAgainSaid : Prop := cpuAgainRow.holds Try.pinned (OpenSpec.ofChange cpuAgainSpec)

/-- ITS FALSE NEIGHBOUR: 'it returns false'. Refute it at one input. -/
def cpuAgainWrong : ChangeSpec := { name := "cpuAgain", fn := fun _ => fun
  | [d1, d2, d3] => { results := [.lit (.bool false)], args := [d1, d2, d3] }
  | _ => none }
def CpuAgainWrongFalsely : Prop := cpuAgainRow.holds Try.pinned (OpenSpec.ofChange cpuAgainWrong)

/-- 'atlaslaw20.CpuSame': WHATEVER THE INPUT: true; the input reads as it did. -/
def cpuSameSpec : ChangeSpec := { name := "cpuSame", fn := fun _ => fun
  | [d1, d2, d3, d4, d5] => { results := [.lit (.bool true)], args := [d1, d2, d3, d4, d5] }
  | _ => none }
def cpuSameRow : OpenClaim := { program := "ytpfhplhamnohjaa", sum := "6095108cbf250359f608ef4fcd46fdb98cf99a06831290635874fb74ab037be7", func := "atlas/atlaslaw20.CpuSame", spec := "cpuSame", unfollowed := true, recurses := true, apart := false }
def CpuSameSaid : Prop := cpuSameRow.holds Try.pinned (OpenSpec.ofChange cpuSameSpec)

/-- ITS FALSE NEIGHBOUR: 'it returns false'. Refute it at one input. -/
def cpuSameWrong : ChangeSpec := { name := "cpuSame", fn := fun _ => fun
  | [d1, d2, d3, d4, d5] => { results := [.lit (.bool false)], args := [d1, d2, d3, d4, d5] }
  | _ => none }
def CpuSameWrongFalsely : Prop := cpuSameRow.holds Try.pinned (OpenSpec.ofChange cpuSameWrong)

/-- 'atlaslaw20.CpuPassed': WHATEVER THE INPUT: true; the input reads as it did. -/
def cpuPassedSpec : ChangeSpec := { name := "cpuPassed", fn := fun _ => fun
  | [d1, d2] => { results := [.lit (.bool true)], args := [d1, d2] }
  | _ => none }
def cpuPassedRow : OpenClaim := { program := "ytpfhplhamnohjaa", sum := "6095108cbf250359f608ef4fcd46fdb98cf99a06831290635874fb74ab037be7", func := "atlas/atlaslaw20.CpuPassed", spec := "cpuPassed", unfollowed := true, recurses := true, apart := false }
def CpuPassedSaid : Prop := cpuPassedRow.holds Try.pinned (OpenSpec.ofChange cpuPassedSpec)

/-- ITS FALSE NEIGHBOUR: 'it returns false'. Refute it at one input. -/
def cpuPassedWrong : ChangeSpec := { name := "cpuPassed", fn := fun _ => fun
  | [d1, d2] => { results := [.lit (.bool false)], args := [d1, d2] }
  | _ => none }
def CpuPassedWrongFalsely : Prop := cpuPassedRow.holds Try.pinned (OpenSpec.ofChange cpuPassedWrong)

/-- 'atlaslaw20.CpuCalls': WHATEVER THE INPUT: true; the input reads as it did. -/
def cpuCallsSpec : ChangeSpec := { name := "cpuCalls", fn := fun _ => fun
  | [d1, d2, d3] => { results := [.lit (.bool true)], args := [d1, d2, d3] }
  | _ => none }
def cpuCallsRow : OpenClaim := { program := "ytpfhplhamnohjaa", sum := "6095108cbf250359f608ef4fcd46fdb98cf99a06831290635874fb74ab037be7", func := "atlas/atlaslaw20.CpuCalls", spec := "cpuCalls", unfollowed := true, recurses := true, apart := false }
def CpuCallsSaid : Prop := cpuCallsRow.holds Try.pinned (OpenSpec.ofChange cpuCallsSpec)

/-- ITS FALSE NEIGHBOUR: 'it returns false'. Refute it at one input. -/
def cpuCallsWrong : ChangeSpec := { name := "cpuCalls", fn := fun _ => fun
  | [d1, d2, d3] => { results := [.lit (.bool false)], args := [d1, d2, d3] }
  | _ => none }
def CpuCallsWrongFalsely : Prop := cpuCallsRow.holds Try.pinned (OpenSpec.ofChange cpuCallsWrong)

/-- 'atlaslaw20.CpuBanks': WHATEVER THE INPUT: true; the input reads as it did. -/
def cpuBanksSpec : ChangeSpec := { name := "cpuBanks", fn := fun _ => fun
  | [d1, d2, d3, d4] => { results := [.lit (.bool true)], args := [d1, d2, d3, d4] }
  | _ => none }
def cpuBanksRow : OpenClaim := { program := "ytpfhplhamnohjaa", sum := "6095108cbf250359f608ef4fcd46fdb98cf99a06831290635874fb74ab037be7", func := "atlas/atlaslaw20.CpuBanks", spec := "cpuBanks", unfollowed := true, recurses := true, apart := false }
def CpuBanksSaid : Prop := cpuBanksRow.holds Try.pinned (OpenSpec.ofChange cpuBanksSpec)

/-- ITS FALSE NEIGHBOUR: 'it returns false'. Refute it at one input. -/
def cpuBanksWrong : ChangeSpec := { name := "cpuBanks", fn := fun _ => fun
  | [d1, d2, d3, d4] => { results := [.lit (.bool false)], args := [d1, d2, d3, d4] }
  | _ => none }
def CpuBanksWrongFalsely : Prop := cpuBanksRow.holds Try.pinned (OpenSpec.ofChange cpuBanksWrong)

/-- 'atlaslaw20.CpuStates': WHATEVER THE INPUT: true; the input reads as it did. -/
def cpuStatesSpec : ChangeSpec := { name := "cpuStates", fn := fun _ => fun
  | [d1, d2, d3, d4] => { results := [.lit (.bool true)], args := [d1, d2, d3, d4] }
  | _ => none }
def cpuStatesRow : OpenClaim := { program := "ytpfhplhamnohjaa", sum := "6095108cbf250359f608ef4fcd46fdb98cf99a06831290635874fb74ab037be7", func := "atlas/atlaslaw20.CpuStates", spec := "cpuStates", unfollowed := true, recurses := true, apart := false }
def CpuStatesSaid : Prop := cpuStatesRow.holds Try.pinned (OpenSpec.ofChange cpuStatesSpec)

/-- ITS FALSE NEIGHBOUR: 'it returns false'. Refute it at one input. -/
def cpuStatesWrong : ChangeSpec := { name := "cpuStates", fn := fun _ => fun
  | [d1, d2, d3, d4] => { results := [.lit (.bool false)], args := [d1, d2, d3, d4] }
  | _ => none }
def CpuStatesWrongFalsely : Prop := cpuStatesRow.holds Try.pinned (OpenSpec.ofChange cpuStatesWrong)

/- THE SECOND FORM. 'bulk': how many values and letters a reading holds, each counted each time it is reached (what is shared counts as often as it is met; a slice's spare places count too). A statement '..UptoSaid' is the law's where the arguments, and the package variables that the reading takes, are together of bulk at most 1048576: NARROWER than '..Said'. Prove '..Said' where nothing that the law and all that it calls make is longer than what came in: it says more and counts as full. Else prove '..UptoSaid'. A law counts once. -/
mutual
def uptoBulk {H : Type} : DataW H → Nat
  | .lit (.string bytes) => bytes.length + 1
  | .lit _ => 1
  | .nil => 1
  | .ptr d => uptoBulk d + 1
  | .slice elems spare => uptoBulkAll elems + uptoBulkAll spare + 1
  | .agg parts => uptoBulkAll parts + 1
  | .iface _ d => uptoBulk d + 1
  | .map entries => uptoBulkEntries entries + 1
  | .held _ => 1
def uptoBulkAll {H : Type} : List (DataW H) → Nat
  | [] => 0
  | d :: r => uptoBulk d + uptoBulkAll r
def uptoBulkEntries {H : Type} : List (Lit × DataW H) → Nat
  | [] => 0
  | x :: r => uptoBulkEntry x + uptoBulkEntries r
def uptoBulkEntry {H : Type} : Lit × DataW H → Nat
  | (.string bytes, d) => bytes.length + uptoBulk d + 1
  | (_, d) => uptoBulk d + 1
 end
def uptoSmall : (H : Type) → List (DataW H) → Bool := fun _ ds => decide (uptoBulkAll ds ≤ 1048576)
def OpenSpec.upto (s : _root_.Go.ChangeSpec) : _root_.Go.OpenSpec := { _root_.Go.OpenSpec.ofChange s with cond := some uptoSmall }

/-- 'atlaslaw20.CpuAgain', WHERE WHAT IT READS IS OF BULK AT MOST 1048576: true; the input reads as it did. -/
def cpuAgainUptoRow : OpenClaim := { program := "ytpfhplhamnohjaa", sum := "6095108cbf250359f608ef4fcd46fdb98cf99a06831290635874fb74ab037be7", func := "atlas/atlaslaw20.CpuAgain", spec := "cpuAgain", unfollowed := true, recurses := true, apart := false, narrowed := true }
def CpuAgainUptoSaid : Prop := cpuAgainUptoRow.holds Try.pinned (OpenSpec.upto cpuAgainSpec)

/-- 'atlaslaw20.CpuSame', WHERE WHAT IT READS IS OF BULK AT MOST 1048576: true; the input reads as it did. -/
def cpuSameUptoRow : OpenClaim := { program := "ytpfhplhamnohjaa", sum := "6095108cbf250359f608ef4fcd46fdb98cf99a06831290635874fb74ab037be7", func := "atlas/atlaslaw20.CpuSame", spec := "cpuSame", unfollowed := true, recurses := true, apart := false, narrowed := true }
def CpuSameUptoSaid : Prop := cpuSameUptoRow.holds Try.pinned (OpenSpec.upto cpuSameSpec)

/-- 'atlaslaw20.CpuPassed', WHERE WHAT IT READS IS OF BULK AT MOST 1048576: true; the input reads as it did. -/
def cpuPassedUptoRow : OpenClaim := { program := "ytpfhplhamnohjaa", sum := "6095108cbf250359f608ef4fcd46fdb98cf99a06831290635874fb74ab037be7", func := "atlas/atlaslaw20.CpuPassed", spec := "cpuPassed", unfollowed := true, recurses := true, apart := false, narrowed := true }
def CpuPassedUptoSaid : Prop := cpuPassedUptoRow.holds Try.pinned (OpenSpec.upto cpuPassedSpec)

/-- 'atlaslaw20.CpuCalls', WHERE WHAT IT READS IS OF BULK AT MOST 1048576: true; the input reads as it did. -/
def cpuCallsUptoRow : OpenClaim := { program := "ytpfhplhamnohjaa", sum := "6095108cbf250359f608ef4fcd46fdb98cf99a06831290635874fb74ab037be7", func := "atlas/atlaslaw20.CpuCalls", spec := "cpuCalls", unfollowed := true, recurses := true, apart := false, narrowed := true }
def CpuCallsUptoSaid : Prop := cpuCallsUptoRow.holds Try.pinned (OpenSpec.upto cpuCallsSpec)

/-- 'atlaslaw20.CpuBanks', WHERE WHAT IT READS IS OF BULK AT MOST 1048576: true; the input reads as it did. -/
def cpuBanksUptoRow : OpenClaim := { program := "ytpfhplhamnohjaa", sum := "6095108cbf250359f608ef4fcd46fdb98cf99a06831290635874fb74ab037be7", func := "atlas/atlaslaw20.CpuBanks", spec := "cpuBanks", unfollowed := true, recurses := true, apart := false, narrowed := true }
def CpuBanksUptoSaid : Prop := cpuBanksUptoRow.holds Try.pinned (OpenSpec.upto cpuBanksSpec)

/-- 'atlaslaw20.CpuStates', WHERE WHAT IT READS IS OF BULK AT MOST 1048576: true; the input reads as it did. -/
def cpuStatesUptoRow : OpenClaim := { program := "ytpfhplhamnohjaa", sum := "6095108cbf250359f608ef4fcd46fdb98cf99a06831290635874fb74ab037be7", func := "atlas/atlaslaw20.CpuStates", spec := "cpuStates", unfollowed := true, recurses := true, apart := false, narrowed := true }
def CpuStatesUptoSaid : Prop := cpuStatesUptoRow.holds Try.pinned (OpenSpec.upto cpuStatesSpec)

end Rows
end Go.Proofs.Ytpfhplhamnohjaa
