/-
  DERIVED. GIVEN WITH THE SEED: THE CARDS: each row of YtakihcdolpocjaaDoorRows.lean that lists a variable, with what it lists TIED to the program's text (the seventh form; the later family's looks); each row that meets fmt, with fmt's text TOLD by the authors' own Lean function (tested against real Go, not proved from fmt's source: count such statements apart). THE CARD IS WHAT COUNTS. Prove the row's statement (the work); the ties are given (YtakihcdolpocjaaDoorTie.lean); close each card by the builder's one call (the guide's Derived/Test/ToyasCard.lean, 'card_holds'). Laid BY PROGRAM, IN A SANDBOX (cutbox-door.mjs). By AI agents, Wed Nov 11 2026. No macro, syntax, notation, axiom, sorry.
-/
import Derived.Test.YtakihcdolpocjaaDoorRows
import GoSem.ClaimSeven
namespace Go.Proofs.YtakihcdolpocjaaDoor
namespace Rows

/-- THE TIED CARD OF 'atlaslaw08.Cp15Plays'. -/
def cp15PlaysCard : Claim7 := { stood := { row := cp15PlaysRow, standIns := [], harness := (true, "ac607800750bc094de690c2f9560b39b2eeada25f981b31419499bab4923e020"), looks := false }, kinds := [], alts := [], laidByText := true, laidKinds := [.data], laidTests := true, laidLooks := .later }
def Cp15PlaysCardSaid : Prop := Claim7.holds Tryd.pinned (.plain (OpenSpec.ofChange cp15PlaysSpec)) cp15PlaysCard

/-- THE TIED CARD OF 'atlaslaw08.Cp15Tuples'. -/
def cp15TuplesCard : Claim7 := { stood := { row := cp15TuplesRow, standIns := [], harness := (true, "ac607800750bc094de690c2f9560b39b2eeada25f981b31419499bab4923e020"), looks := false }, kinds := [], alts := [], laidByText := true, laidKinds := [.data], laidTests := true, laidLooks := .later }
def Cp15TuplesCardSaid : Prop := Claim7.holds Tryd.pinned (.plain (OpenSpec.ofChange cp15TuplesSpec)) cp15TuplesCard

/-- THE TIED CARD OF 'atlaslaw08.Cp15Each'. -/
def cp15EachCard : Claim7 := { stood := { row := cp15EachRow, standIns := [], harness := (true, "ac607800750bc094de690c2f9560b39b2eeada25f981b31419499bab4923e020"), looks := false }, kinds := [], alts := [], laidByText := true, laidKinds := [.data], laidTests := true, laidLooks := .later }
def Cp15EachCardSaid : Prop := Claim7.holds Tryd.pinned (.plain (OpenSpec.ofChange cp15EachSpec)) cp15EachCard

/-- THE TIED CARD OF 'atlaslaw08.Cp15Mask'. -/
def cp15MaskCard : Claim7 := { stood := { row := cp15MaskRow, standIns := [], harness := (true, "ac607800750bc094de690c2f9560b39b2eeada25f981b31419499bab4923e020"), looks := false }, kinds := [], alts := [], laidByText := true, laidKinds := [.data], laidTests := true, laidLooks := .later }
def Cp15MaskCardSaid : Prop := Claim7.holds Tryd.pinned (.plain (OpenSpec.ofChange cp15MaskSpec)) cp15MaskCard

/-- THE TIED CARD OF 'atlaslaw08.Cp15Seen'. -/
def cp15SeenCard : Claim7 := { stood := { row := cp15SeenRow, standIns := [], harness := (true, "ac607800750bc094de690c2f9560b39b2eeada25f981b31419499bab4923e020"), looks := false }, kinds := [], alts := [], laidByText := true, laidKinds := [.data], laidTests := true, laidLooks := .later }
def Cp15SeenCardSaid : Prop := Claim7.holds Tryd.pinned (.plain (OpenSpec.ofChange cp15SeenSpec)) cp15SeenCard

/-- THE SECOND FORM's CARD OF 'atlaslaw08.Cp15Plays'. -/
def cp15PlaysUptoCard : Claim7 := { stood := { row := cp15PlaysUptoRow, standIns := [], harness := (true, "ac607800750bc094de690c2f9560b39b2eeada25f981b31419499bab4923e020"), looks := false }, kinds := [], alts := [], laidByText := true, laidKinds := [.data], laidTests := true, laidLooks := .later }
def Cp15PlaysUptoCardSaid : Prop := Claim7.holds Tryd.pinned (.plain (OpenSpec.upto cp15PlaysSpec)) cp15PlaysUptoCard

/-- THE SECOND FORM's CARD OF 'atlaslaw08.Cp15Tuples'. -/
def cp15TuplesUptoCard : Claim7 := { stood := { row := cp15TuplesUptoRow, standIns := [], harness := (true, "ac607800750bc094de690c2f9560b39b2eeada25f981b31419499bab4923e020"), looks := false }, kinds := [], alts := [], laidByText := true, laidKinds := [.data], laidTests := true, laidLooks := .later }
def Cp15TuplesUptoCardSaid : Prop := Claim7.holds Tryd.pinned (.plain (OpenSpec.upto cp15TuplesSpec)) cp15TuplesUptoCard

/-- THE SECOND FORM's CARD OF 'atlaslaw08.Cp15Each'. -/
def cp15EachUptoCard : Claim7 := { stood := { row := cp15EachUptoRow, standIns := [], harness := (true, "ac607800750bc094de690c2f9560b39b2eeada25f981b31419499bab4923e020"), looks := false }, kinds := [], alts := [], laidByText := true, laidKinds := [.data], laidTests := true, laidLooks := .later }
def Cp15EachUptoCardSaid : Prop := Claim7.holds Tryd.pinned (.plain (OpenSpec.upto cp15EachSpec)) cp15EachUptoCard

/-- THE SECOND FORM's CARD OF 'atlaslaw08.Cp15Mask'. -/
def cp15MaskUptoCard : Claim7 := { stood := { row := cp15MaskUptoRow, standIns := [], harness := (true, "ac607800750bc094de690c2f9560b39b2eeada25f981b31419499bab4923e020"), looks := false }, kinds := [], alts := [], laidByText := true, laidKinds := [.data], laidTests := true, laidLooks := .later }
def Cp15MaskUptoCardSaid : Prop := Claim7.holds Tryd.pinned (.plain (OpenSpec.upto cp15MaskSpec)) cp15MaskUptoCard

/-- THE SECOND FORM's CARD OF 'atlaslaw08.Cp15Seen'. -/
def cp15SeenUptoCard : Claim7 := { stood := { row := cp15SeenUptoRow, standIns := [], harness := (true, "ac607800750bc094de690c2f9560b39b2eeada25f981b31419499bab4923e020"), looks := false }, kinds := [], alts := [], laidByText := true, laidKinds := [.data], laidTests := true, laidLooks := .later }
def Cp15SeenUptoCardSaid : Prop := Claim7.holds Tryd.pinned (.plain (OpenSpec.upto cp15SeenSpec)) cp15SeenUptoCard
end Rows
end Go.Proofs.YtakihcdolpocjaaDoor
