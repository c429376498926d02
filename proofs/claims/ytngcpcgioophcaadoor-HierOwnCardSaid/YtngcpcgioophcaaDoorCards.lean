/-
  DERIVED. GIVEN WITH THE SEED: THE CARDS: each row of YtngcpcgioophcaaDoorRows.lean that lists a variable, with what it lists TIED to the program's text (the seventh form; the later family's looks); each row that meets fmt, with fmt's text TOLD by the authors' own Lean function (tested against real Go, not proved from fmt's source: count such statements apart). THE CARD IS WHAT COUNTS. Prove the row's statement (the work); the ties are given (YtngcpcgioophcaaDoorTie.lean); close each card by the builder's one call (the guide's Derived/Test/ToyasCard.lean, 'card_holds'). Laid BY PROGRAM, IN A SANDBOX (cutbox-door.mjs). By AI agents, Wed Nov 11 2026. No macro, syntax, notation, axiom, sorry.
-/
import Derived.Test.YtngcpcgioophcaaDoorRows
import GoSem.ClaimSeven
namespace Go.Proofs.YtngcpcgioophcaaDoor
namespace Rows

/-- THE TIED CARD OF 'atlaslaw10.TlbTells'. -/
def tlbTellsCard : Claim7 := { stood := { row := tlbTellsRow, standIns := [], harness := (true, "63b7445c5d76cd3249a249654b5a82ba3cabc4f9ed2df043e06d16f9aa7808db"), looks := false }, kinds := [], alts := [], laidByText := true, laidKinds := [.data], laidTests := true, laidLooks := .later }
def TlbTellsCardSaid : Prop := Claim7.holds Tryd.pinned (.plain (OpenSpec.ofChange tlbTellsSpec)) tlbTellsCard

/-- THE TIED CARD OF 'atlaslaw10.TlbDrops'. -/
def tlbDropsCard : Claim7 := { stood := { row := tlbDropsRow, standIns := [], harness := (true, "63b7445c5d76cd3249a249654b5a82ba3cabc4f9ed2df043e06d16f9aa7808db"), looks := false }, kinds := [], alts := [], laidByText := true, laidKinds := [.data], laidTests := true, laidLooks := .later }
def TlbDropsCardSaid : Prop := Claim7.holds Tryd.pinned (.plain (OpenSpec.ofChange tlbDropsSpec)) tlbDropsCard

/-- THE TIED CARD OF 'atlaslaw10.TlbKeeps'. -/
def tlbKeepsCard : Claim7 := { stood := { row := tlbKeepsRow, standIns := [], harness := (true, "63b7445c5d76cd3249a249654b5a82ba3cabc4f9ed2df043e06d16f9aa7808db"), looks := false }, kinds := [], alts := [], laidByText := true, laidKinds := [.data], laidTests := true, laidLooks := .later }
def TlbKeepsCardSaid : Prop := Claim7.holds Tryd.pinned (.plain (OpenSpec.ofChange tlbKeepsSpec)) tlbKeepsCard

/-- THE TIED CARD OF 'atlaslaw10.TlbMatches'. -/
def tlbMatchesCard : Claim7 := { stood := { row := tlbMatchesRow, standIns := [], harness := (true, "63b7445c5d76cd3249a249654b5a82ba3cabc4f9ed2df043e06d16f9aa7808db"), looks := false }, kinds := [], alts := [], laidByText := true, laidKinds := [.data], laidTests := true, laidLooks := .later }
def TlbMatchesCardSaid : Prop := Claim7.holds Tryd.pinned (.plain (OpenSpec.ofChange tlbMatchesSpec)) tlbMatchesCard

/-- THE TIED CARD OF 'atlaslaw10.TlbFresh'. -/
def tlbFreshCard : Claim7 := { stood := { row := tlbFreshRow, standIns := [], harness := (true, "63b7445c5d76cd3249a249654b5a82ba3cabc4f9ed2df043e06d16f9aa7808db"), looks := false }, kinds := [], alts := [], laidByText := true, laidKinds := [.data], laidTests := true, laidLooks := .later }
def TlbFreshCardSaid : Prop := Claim7.holds Tryd.pinned (.plain (OpenSpec.ofChange tlbFreshSpec)) tlbFreshCard

/-- THE TIED CARD OF 'atlaslaw10.TlbPlays'. -/
def tlbPlaysCard : Claim7 := { stood := { row := tlbPlaysRow, standIns := [], harness := (true, "63b7445c5d76cd3249a249654b5a82ba3cabc4f9ed2df043e06d16f9aa7808db"), looks := false }, kinds := [], alts := [], laidByText := true, laidKinds := [.data], laidTests := true, laidLooks := .later }
def TlbPlaysCardSaid : Prop := Claim7.holds Tryd.pinned (.plain (OpenSpec.ofChange tlbPlaysSpec)) tlbPlaysCard

/-- THE TIED CARD OF 'atlaslaw11.HierOrder'. -/
def hierOrderCard : Claim7 := { stood := { row := hierOrderRow, standIns := [], harness := (true, "63b7445c5d76cd3249a249654b5a82ba3cabc4f9ed2df043e06d16f9aa7808db"), looks := false }, kinds := [], alts := [], laidByText := true, laidKinds := [.data], laidTests := true, laidLooks := .later }
def HierOrderCardSaid : Prop := Claim7.holds Tryd.pinned (.plain (OpenSpec.ofChange hierOrderSpec)) hierOrderCard

/-- THE TIED CARD OF 'atlaslaw11.HierFinds'. -/
def hierFindsCard : Claim7 := { stood := { row := hierFindsRow, standIns := [], harness := (true, "63b7445c5d76cd3249a249654b5a82ba3cabc4f9ed2df043e06d16f9aa7808db"), looks := false }, kinds := [], alts := [], laidByText := true, laidKinds := [.data], laidTests := true, laidLooks := .later }
def HierFindsCardSaid : Prop := Claim7.holds Tryd.pinned (.plain (OpenSpec.ofChange hierFindsSpec)) hierFindsCard

/-- THE TIED CARD OF 'atlaslaw11.HierKeeps'. -/
def hierKeepsCard : Claim7 := { stood := { row := hierKeepsRow, standIns := [], harness := (true, "63b7445c5d76cd3249a249654b5a82ba3cabc4f9ed2df043e06d16f9aa7808db"), looks := false }, kinds := [], alts := [], laidByText := true, laidKinds := [.data], laidTests := true, laidLooks := .later }
def HierKeepsCardSaid : Prop := Claim7.holds Tryd.pinned (.plain (OpenSpec.ofChange hierKeepsSpec)) hierKeepsCard

/-- THE TIED CARD OF 'atlaslaw11.HierEvicts'. -/
def hierEvictsCard : Claim7 := { stood := { row := hierEvictsRow, standIns := [], harness := (true, "63b7445c5d76cd3249a249654b5a82ba3cabc4f9ed2df043e06d16f9aa7808db"), looks := false }, kinds := [], alts := [], laidByText := true, laidKinds := [.data], laidTests := true, laidLooks := .later }
def HierEvictsCardSaid : Prop := Claim7.holds Tryd.pinned (.plain (OpenSpec.ofChange hierEvictsSpec)) hierEvictsCard

/-- THE TIED CARD OF 'atlaslaw11.HierDrops'. -/
def hierDropsCard : Claim7 := { stood := { row := hierDropsRow, standIns := [], harness := (true, "63b7445c5d76cd3249a249654b5a82ba3cabc4f9ed2df043e06d16f9aa7808db"), looks := false }, kinds := [], alts := [], laidByText := true, laidKinds := [.data], laidTests := true, laidLooks := .later }
def HierDropsCardSaid : Prop := Claim7.holds Tryd.pinned (.plain (OpenSpec.ofChange hierDropsSpec)) hierDropsCard

/-- THE TIED CARD OF 'atlaslaw11.HierAll'. -/
def hierAllCard : Claim7 := { stood := { row := hierAllRow, standIns := [], harness := (true, "63b7445c5d76cd3249a249654b5a82ba3cabc4f9ed2df043e06d16f9aa7808db"), looks := false }, kinds := [], alts := [], laidByText := true, laidKinds := [.data], laidTests := true, laidLooks := .later }
def HierAllCardSaid : Prop := Claim7.holds Tryd.pinned (.plain (OpenSpec.ofChange hierAllSpec)) hierAllCard

/-- THE TIED CARD OF 'atlaslaw11.HierOwn'. -/
def hierOwnCard : Claim7 := { stood := { row := hierOwnRow, standIns := [], harness := (true, "63b7445c5d76cd3249a249654b5a82ba3cabc4f9ed2df043e06d16f9aa7808db"), looks := false }, kinds := [], alts := [], laidByText := true, laidKinds := [.data], laidTests := true, laidLooks := .later }
def HierOwnCardSaid : Prop := Claim7.holds Tryd.pinned (.plain (OpenSpec.ofChange hierOwnSpec)) hierOwnCard

/-- THE TIED CARD OF 'atlaslaw11.HierOnly'. -/
def hierOnlyCard : Claim7 := { stood := { row := hierOnlyRow, standIns := [], harness := (true, "63b7445c5d76cd3249a249654b5a82ba3cabc4f9ed2df043e06d16f9aa7808db"), looks := false }, kinds := [], alts := [], laidByText := true, laidKinds := [.data], laidTests := true, laidLooks := .later }
def HierOnlyCardSaid : Prop := Claim7.holds Tryd.pinned (.plain (OpenSpec.ofChange hierOnlySpec)) hierOnlyCard

/-- THE SECOND FORM's CARD OF 'atlaslaw10.TlbTells'. -/
def tlbTellsUptoCard : Claim7 := { stood := { row := tlbTellsUptoRow, standIns := [], harness := (true, "63b7445c5d76cd3249a249654b5a82ba3cabc4f9ed2df043e06d16f9aa7808db"), looks := false }, kinds := [], alts := [], laidByText := true, laidKinds := [.data], laidTests := true, laidLooks := .later }
def TlbTellsUptoCardSaid : Prop := Claim7.holds Tryd.pinned (.plain (OpenSpec.upto tlbTellsSpec)) tlbTellsUptoCard

/-- THE SECOND FORM's CARD OF 'atlaslaw10.TlbDrops'. -/
def tlbDropsUptoCard : Claim7 := { stood := { row := tlbDropsUptoRow, standIns := [], harness := (true, "63b7445c5d76cd3249a249654b5a82ba3cabc4f9ed2df043e06d16f9aa7808db"), looks := false }, kinds := [], alts := [], laidByText := true, laidKinds := [.data], laidTests := true, laidLooks := .later }
def TlbDropsUptoCardSaid : Prop := Claim7.holds Tryd.pinned (.plain (OpenSpec.upto tlbDropsSpec)) tlbDropsUptoCard

/-- THE SECOND FORM's CARD OF 'atlaslaw10.TlbKeeps'. -/
def tlbKeepsUptoCard : Claim7 := { stood := { row := tlbKeepsUptoRow, standIns := [], harness := (true, "63b7445c5d76cd3249a249654b5a82ba3cabc4f9ed2df043e06d16f9aa7808db"), looks := false }, kinds := [], alts := [], laidByText := true, laidKinds := [.data], laidTests := true, laidLooks := .later }
def TlbKeepsUptoCardSaid : Prop := Claim7.holds Tryd.pinned (.plain (OpenSpec.upto tlbKeepsSpec)) tlbKeepsUptoCard

/-- THE SECOND FORM's CARD OF 'atlaslaw10.TlbMatches'. -/
def tlbMatchesUptoCard : Claim7 := { stood := { row := tlbMatchesUptoRow, standIns := [], harness := (true, "63b7445c5d76cd3249a249654b5a82ba3cabc4f9ed2df043e06d16f9aa7808db"), looks := false }, kinds := [], alts := [], laidByText := true, laidKinds := [.data], laidTests := true, laidLooks := .later }
def TlbMatchesUptoCardSaid : Prop := Claim7.holds Tryd.pinned (.plain (OpenSpec.upto tlbMatchesSpec)) tlbMatchesUptoCard

/-- THE SECOND FORM's CARD OF 'atlaslaw10.TlbFresh'. -/
def tlbFreshUptoCard : Claim7 := { stood := { row := tlbFreshUptoRow, standIns := [], harness := (true, "63b7445c5d76cd3249a249654b5a82ba3cabc4f9ed2df043e06d16f9aa7808db"), looks := false }, kinds := [], alts := [], laidByText := true, laidKinds := [.data], laidTests := true, laidLooks := .later }
def TlbFreshUptoCardSaid : Prop := Claim7.holds Tryd.pinned (.plain (OpenSpec.upto tlbFreshSpec)) tlbFreshUptoCard

/-- THE SECOND FORM's CARD OF 'atlaslaw10.TlbPlays'. -/
def tlbPlaysUptoCard : Claim7 := { stood := { row := tlbPlaysUptoRow, standIns := [], harness := (true, "63b7445c5d76cd3249a249654b5a82ba3cabc4f9ed2df043e06d16f9aa7808db"), looks := false }, kinds := [], alts := [], laidByText := true, laidKinds := [.data], laidTests := true, laidLooks := .later }
def TlbPlaysUptoCardSaid : Prop := Claim7.holds Tryd.pinned (.plain (OpenSpec.upto tlbPlaysSpec)) tlbPlaysUptoCard

/-- THE SECOND FORM's CARD OF 'atlaslaw11.HierOrder'. -/
def hierOrderUptoCard : Claim7 := { stood := { row := hierOrderUptoRow, standIns := [], harness := (true, "63b7445c5d76cd3249a249654b5a82ba3cabc4f9ed2df043e06d16f9aa7808db"), looks := false }, kinds := [], alts := [], laidByText := true, laidKinds := [.data], laidTests := true, laidLooks := .later }
def HierOrderUptoCardSaid : Prop := Claim7.holds Tryd.pinned (.plain (OpenSpec.upto hierOrderSpec)) hierOrderUptoCard

/-- THE SECOND FORM's CARD OF 'atlaslaw11.HierFinds'. -/
def hierFindsUptoCard : Claim7 := { stood := { row := hierFindsUptoRow, standIns := [], harness := (true, "63b7445c5d76cd3249a249654b5a82ba3cabc4f9ed2df043e06d16f9aa7808db"), looks := false }, kinds := [], alts := [], laidByText := true, laidKinds := [.data], laidTests := true, laidLooks := .later }
def HierFindsUptoCardSaid : Prop := Claim7.holds Tryd.pinned (.plain (OpenSpec.upto hierFindsSpec)) hierFindsUptoCard

/-- THE SECOND FORM's CARD OF 'atlaslaw11.HierKeeps'. -/
def hierKeepsUptoCard : Claim7 := { stood := { row := hierKeepsUptoRow, standIns := [], harness := (true, "63b7445c5d76cd3249a249654b5a82ba3cabc4f9ed2df043e06d16f9aa7808db"), looks := false }, kinds := [], alts := [], laidByText := true, laidKinds := [.data], laidTests := true, laidLooks := .later }
def HierKeepsUptoCardSaid : Prop := Claim7.holds Tryd.pinned (.plain (OpenSpec.upto hierKeepsSpec)) hierKeepsUptoCard

/-- THE SECOND FORM's CARD OF 'atlaslaw11.HierEvicts'. -/
def hierEvictsUptoCard : Claim7 := { stood := { row := hierEvictsUptoRow, standIns := [], harness := (true, "63b7445c5d76cd3249a249654b5a82ba3cabc4f9ed2df043e06d16f9aa7808db"), looks := false }, kinds := [], alts := [], laidByText := true, laidKinds := [.data], laidTests := true, laidLooks := .later }
def HierEvictsUptoCardSaid : Prop := Claim7.holds Tryd.pinned (.plain (OpenSpec.upto hierEvictsSpec)) hierEvictsUptoCard

/-- THE SECOND FORM's CARD OF 'atlaslaw11.HierDrops'. -/
def hierDropsUptoCard : Claim7 := { stood := { row := hierDropsUptoRow, standIns := [], harness := (true, "63b7445c5d76cd3249a249654b5a82ba3cabc4f9ed2df043e06d16f9aa7808db"), looks := false }, kinds := [], alts := [], laidByText := true, laidKinds := [.data], laidTests := true, laidLooks := .later }
def HierDropsUptoCardSaid : Prop := Claim7.holds Tryd.pinned (.plain (OpenSpec.upto hierDropsSpec)) hierDropsUptoCard

/-- THE SECOND FORM's CARD OF 'atlaslaw11.HierAll'. -/
def hierAllUptoCard : Claim7 := { stood := { row := hierAllUptoRow, standIns := [], harness := (true, "63b7445c5d76cd3249a249654b5a82ba3cabc4f9ed2df043e06d16f9aa7808db"), looks := false }, kinds := [], alts := [], laidByText := true, laidKinds := [.data], laidTests := true, laidLooks := .later }
def HierAllUptoCardSaid : Prop := Claim7.holds Tryd.pinned (.plain (OpenSpec.upto hierAllSpec)) hierAllUptoCard

/-- THE SECOND FORM's CARD OF 'atlaslaw11.HierOwn'. -/
def hierOwnUptoCard : Claim7 := { stood := { row := hierOwnUptoRow, standIns := [], harness := (true, "63b7445c5d76cd3249a249654b5a82ba3cabc4f9ed2df043e06d16f9aa7808db"), looks := false }, kinds := [], alts := [], laidByText := true, laidKinds := [.data], laidTests := true, laidLooks := .later }
def HierOwnUptoCardSaid : Prop := Claim7.holds Tryd.pinned (.plain (OpenSpec.upto hierOwnSpec)) hierOwnUptoCard

/-- THE SECOND FORM's CARD OF 'atlaslaw11.HierOnly'. -/
def hierOnlyUptoCard : Claim7 := { stood := { row := hierOnlyUptoRow, standIns := [], harness := (true, "63b7445c5d76cd3249a249654b5a82ba3cabc4f9ed2df043e06d16f9aa7808db"), looks := false }, kinds := [], alts := [], laidByText := true, laidKinds := [.data], laidTests := true, laidLooks := .later }
def HierOnlyUptoCardSaid : Prop := Claim7.holds Tryd.pinned (.plain (OpenSpec.upto hierOnlySpec)) hierOnlyUptoCard
end Rows
end Go.Proofs.YtngcpcgioophcaaDoor
