/-
  DERIVED. GIVEN WITH THE SEED: THE CARDS: each row of YtcohodkpppmaoaaDoorRows.lean that lists a variable, with what it lists TIED to the program's text (the seventh form; the later family's looks); each row that meets fmt, with fmt's text TOLD by the authors' own Lean function (tested against real Go, not proved from fmt's source: count such statements apart). THE CARD IS WHAT COUNTS. Prove the row's statement (the work); the ties are given (YtcohodkpppmaoaaDoorTie.lean); close each card by the builder's one call (the guide's Derived/Test/ToyasCard.lean, 'card_holds'). Laid BY PROGRAM, IN A SANDBOX (cutbox-door.mjs). By AI agents, Wed Nov 11 2026. No macro, syntax, notation, axiom, sorry.
-/
import Derived.Test.YtcohodkpppmaoaaDoorRows
import GoSem.ClaimSeven
namespace Go.Proofs.YtcohodkpppmaoaaDoor
namespace Rows

/-- THE TIED CARD OF 'concordatlaw07.PacketsLines'. -/
def packetsLinesCard : Claim7 := { stood := { row := packetsLinesRow, standIns := [], harness := (true, "d7dadcf2c2898dec5b5b5d5da1c9274fd3149d89c319deedbc4c50bcbe209d5a"), looks := false }, kinds := [], alts := [], laidByText := true, laidKinds := [.data, .data, .data], laidTests := true, laidLooks := .later }
def PacketsLinesCardSaid : Prop := Claim7.holds Tryd.pinned (.plain (OpenSpec.ofChange packetsLinesSpec)) packetsLinesCard

/-- THE TIED CARD OF 'concordatlaw07.PacketsUnlike'. -/
def packetsUnlikeCard : Claim7 := { stood := { row := packetsUnlikeRow, standIns := [], harness := (true, "d7dadcf2c2898dec5b5b5d5da1c9274fd3149d89c319deedbc4c50bcbe209d5a"), looks := false }, kinds := [], alts := [], laidByText := true, laidKinds := [.data, .data, .data], laidTests := true, laidLooks := .later }
def PacketsUnlikeCardSaid : Prop := Claim7.holds Tryd.pinned (.plain (OpenSpec.ofChange packetsUnlikeSpec)) packetsUnlikeCard

/-- THE TIED CARD OF 'concordatlaw01.KeysIn'. -/
def keysInCard : Claim7 := { stood := { row := keysInRow, standIns := [], harness := (true, "d7dadcf2c2898dec5b5b5d5da1c9274fd3149d89c319deedbc4c50bcbe209d5a"), looks := false }, kinds := [], alts := [], laidByText := true, laidKinds := [.data, .data, .data], laidTests := true, laidLooks := .later }
def KeysInCardSaid : Prop := Claim7.holds Tryd.pinned (.plain (OpenSpec.ofChange keysInSpec)) keysInCard

/-- THE TIED CARD OF 'concordatlaw01.KeysMarkers'. -/
def keysMarkersCard : Claim7 := { stood := { row := keysMarkersRow, standIns := [], harness := (true, "d7dadcf2c2898dec5b5b5d5da1c9274fd3149d89c319deedbc4c50bcbe209d5a"), looks := false }, kinds := [], alts := [], laidByText := true, laidKinds := [.data, .data, .data], laidTests := true, laidLooks := .later }
def KeysMarkersCardSaid : Prop := Claim7.holds Tryd.pinned (.plain (OpenSpec.ofChange keysMarkersSpec)) keysMarkersCard

/-- THE TIED CARD OF 'concordatlaw01.KeysOrder'. -/
def keysOrderCard : Claim7 := { stood := { row := keysOrderRow, standIns := [], harness := (true, "d7dadcf2c2898dec5b5b5d5da1c9274fd3149d89c319deedbc4c50bcbe209d5a"), looks := false }, kinds := [], alts := [], laidByText := true, laidKinds := [.data, .data, .data], laidTests := true, laidLooks := .later }
def KeysOrderCardSaid : Prop := Claim7.holds Tryd.pinned (.plain (OpenSpec.ofChange keysOrderSpec)) keysOrderCard

/-- THE TIED CARD OF 'concordatlaw01.KeysJoined'. -/
def keysJoinedCard : Claim7 := { stood := { row := keysJoinedRow, standIns := [], harness := (true, "d7dadcf2c2898dec5b5b5d5da1c9274fd3149d89c319deedbc4c50bcbe209d5a"), looks := false }, kinds := [], alts := [], laidByText := true, laidKinds := [.data, .data, .data], laidTests := true, laidLooks := .later }
def KeysJoinedCardSaid : Prop := Claim7.holds Tryd.pinned (.plain (OpenSpec.ofChange keysJoinedSpec)) keysJoinedCard

/-- THE TIED CARD OF 'concordatlaw01.KeysBetween'. -/
def keysBetweenCard : Claim7 := { stood := { row := keysBetweenRow, standIns := [], harness := (true, "d7dadcf2c2898dec5b5b5d5da1c9274fd3149d89c319deedbc4c50bcbe209d5a"), looks := false }, kinds := [], alts := [], laidByText := true, laidKinds := [.data, .data, .data], laidTests := true, laidLooks := .later }
def KeysBetweenCardSaid : Prop := Claim7.holds Tryd.pinned (.plain (OpenSpec.ofChange keysBetweenSpec)) keysBetweenCard

/-- THE TIED CARD OF 'concordatlaw01.KeysPrefix'. -/
def keysPrefixCard : Claim7 := { stood := { row := keysPrefixRow, standIns := [], harness := (true, "d7dadcf2c2898dec5b5b5d5da1c9274fd3149d89c319deedbc4c50bcbe209d5a"), looks := false }, kinds := [], alts := [], laidByText := true, laidKinds := [.data, .data, .data], laidTests := true, laidLooks := .later }
def KeysPrefixCardSaid : Prop := Claim7.holds Tryd.pinned (.plain (OpenSpec.ofChange keysPrefixSpec)) keysPrefixCard

/-- THE TIED CARD OF 'concordatlaw01.KeysTwo'. -/
def keysTwoCard : Claim7 := { stood := { row := keysTwoRow, standIns := [], harness := (true, "d7dadcf2c2898dec5b5b5d5da1c9274fd3149d89c319deedbc4c50bcbe209d5a"), looks := false }, kinds := [], alts := [], laidByText := true, laidKinds := [.data, .data, .data], laidTests := true, laidLooks := .later }
def KeysTwoCardSaid : Prop := Claim7.holds Tryd.pinned (.plain (OpenSpec.ofChange keysTwoSpec)) keysTwoCard

/-- THE TIED CARD OF 'concordatlaw07.PacketsBack'. -/
def packetsBackCard : Claim7 := { stood := { row := packetsBackRow, standIns := [], harness := (true, "d7dadcf2c2898dec5b5b5d5da1c9274fd3149d89c319deedbc4c50bcbe209d5a"), looks := false }, kinds := [], alts := [], laidByText := true, laidKinds := [.data, .data, .data], laidTests := true, laidLooks := .later }
def PacketsBackCardSaid : Prop := Claim7.holds Tryd.pinned (.plain (OpenSpec.ofChange packetsBackSpec)) packetsBackCard

/-- THE TIED CARD OF 'concordatlaw07.PacketsParts'. -/
def packetsPartsCard : Claim7 := { stood := { row := packetsPartsRow, standIns := [], harness := (true, "d7dadcf2c2898dec5b5b5d5da1c9274fd3149d89c319deedbc4c50bcbe209d5a"), looks := false }, kinds := [], alts := [], laidByText := true, laidKinds := [.data, .data, .data], laidTests := true, laidLooks := .later }
def PacketsPartsCardSaid : Prop := Claim7.holds Tryd.pinned (.plain (OpenSpec.ofChange packetsPartsSpec)) packetsPartsCard

/-- THE SECOND FORM's CARD OF 'concordatlaw07.PacketsLines'. -/
def packetsLinesUptoCard : Claim7 := { stood := { row := packetsLinesUptoRow, standIns := [], harness := (true, "d7dadcf2c2898dec5b5b5d5da1c9274fd3149d89c319deedbc4c50bcbe209d5a"), looks := false }, kinds := [], alts := [], laidByText := true, laidKinds := [.data, .data, .data], laidTests := true, laidLooks := .later }
def PacketsLinesUptoCardSaid : Prop := Claim7.holds Tryd.pinned (.plain (OpenSpec.upto packetsLinesSpec)) packetsLinesUptoCard

/-- THE SECOND FORM's CARD OF 'concordatlaw07.PacketsUnlike'. -/
def packetsUnlikeUptoCard : Claim7 := { stood := { row := packetsUnlikeUptoRow, standIns := [], harness := (true, "d7dadcf2c2898dec5b5b5d5da1c9274fd3149d89c319deedbc4c50bcbe209d5a"), looks := false }, kinds := [], alts := [], laidByText := true, laidKinds := [.data, .data, .data], laidTests := true, laidLooks := .later }
def PacketsUnlikeUptoCardSaid : Prop := Claim7.holds Tryd.pinned (.plain (OpenSpec.upto packetsUnlikeSpec)) packetsUnlikeUptoCard

/-- THE SECOND FORM's CARD OF 'concordatlaw01.KeysIn'. -/
def keysInUptoCard : Claim7 := { stood := { row := keysInUptoRow, standIns := [], harness := (true, "d7dadcf2c2898dec5b5b5d5da1c9274fd3149d89c319deedbc4c50bcbe209d5a"), looks := false }, kinds := [], alts := [], laidByText := true, laidKinds := [.data, .data, .data], laidTests := true, laidLooks := .later }
def KeysInUptoCardSaid : Prop := Claim7.holds Tryd.pinned (.plain (OpenSpec.upto keysInSpec)) keysInUptoCard

/-- THE SECOND FORM's CARD OF 'concordatlaw01.KeysMarkers'. -/
def keysMarkersUptoCard : Claim7 := { stood := { row := keysMarkersUptoRow, standIns := [], harness := (true, "d7dadcf2c2898dec5b5b5d5da1c9274fd3149d89c319deedbc4c50bcbe209d5a"), looks := false }, kinds := [], alts := [], laidByText := true, laidKinds := [.data, .data, .data], laidTests := true, laidLooks := .later }
def KeysMarkersUptoCardSaid : Prop := Claim7.holds Tryd.pinned (.plain (OpenSpec.upto keysMarkersSpec)) keysMarkersUptoCard

/-- THE SECOND FORM's CARD OF 'concordatlaw01.KeysOrder'. -/
def keysOrderUptoCard : Claim7 := { stood := { row := keysOrderUptoRow, standIns := [], harness := (true, "d7dadcf2c2898dec5b5b5d5da1c9274fd3149d89c319deedbc4c50bcbe209d5a"), looks := false }, kinds := [], alts := [], laidByText := true, laidKinds := [.data, .data, .data], laidTests := true, laidLooks := .later }
def KeysOrderUptoCardSaid : Prop := Claim7.holds Tryd.pinned (.plain (OpenSpec.upto keysOrderSpec)) keysOrderUptoCard

/-- THE SECOND FORM's CARD OF 'concordatlaw01.KeysJoined'. -/
def keysJoinedUptoCard : Claim7 := { stood := { row := keysJoinedUptoRow, standIns := [], harness := (true, "d7dadcf2c2898dec5b5b5d5da1c9274fd3149d89c319deedbc4c50bcbe209d5a"), looks := false }, kinds := [], alts := [], laidByText := true, laidKinds := [.data, .data, .data], laidTests := true, laidLooks := .later }
def KeysJoinedUptoCardSaid : Prop := Claim7.holds Tryd.pinned (.plain (OpenSpec.upto keysJoinedSpec)) keysJoinedUptoCard

/-- THE SECOND FORM's CARD OF 'concordatlaw01.KeysBetween'. -/
def keysBetweenUptoCard : Claim7 := { stood := { row := keysBetweenUptoRow, standIns := [], harness := (true, "d7dadcf2c2898dec5b5b5d5da1c9274fd3149d89c319deedbc4c50bcbe209d5a"), looks := false }, kinds := [], alts := [], laidByText := true, laidKinds := [.data, .data, .data], laidTests := true, laidLooks := .later }
def KeysBetweenUptoCardSaid : Prop := Claim7.holds Tryd.pinned (.plain (OpenSpec.upto keysBetweenSpec)) keysBetweenUptoCard

/-- THE SECOND FORM's CARD OF 'concordatlaw01.KeysPrefix'. -/
def keysPrefixUptoCard : Claim7 := { stood := { row := keysPrefixUptoRow, standIns := [], harness := (true, "d7dadcf2c2898dec5b5b5d5da1c9274fd3149d89c319deedbc4c50bcbe209d5a"), looks := false }, kinds := [], alts := [], laidByText := true, laidKinds := [.data, .data, .data], laidTests := true, laidLooks := .later }
def KeysPrefixUptoCardSaid : Prop := Claim7.holds Tryd.pinned (.plain (OpenSpec.upto keysPrefixSpec)) keysPrefixUptoCard

/-- THE SECOND FORM's CARD OF 'concordatlaw01.KeysTwo'. -/
def keysTwoUptoCard : Claim7 := { stood := { row := keysTwoUptoRow, standIns := [], harness := (true, "d7dadcf2c2898dec5b5b5d5da1c9274fd3149d89c319deedbc4c50bcbe209d5a"), looks := false }, kinds := [], alts := [], laidByText := true, laidKinds := [.data, .data, .data], laidTests := true, laidLooks := .later }
def KeysTwoUptoCardSaid : Prop := Claim7.holds Tryd.pinned (.plain (OpenSpec.upto keysTwoSpec)) keysTwoUptoCard

/-- THE SECOND FORM's CARD OF 'concordatlaw07.PacketsBack'. -/
def packetsBackUptoCard : Claim7 := { stood := { row := packetsBackUptoRow, standIns := [], harness := (true, "d7dadcf2c2898dec5b5b5d5da1c9274fd3149d89c319deedbc4c50bcbe209d5a"), looks := false }, kinds := [], alts := [], laidByText := true, laidKinds := [.data, .data, .data], laidTests := true, laidLooks := .later }
def PacketsBackUptoCardSaid : Prop := Claim7.holds Tryd.pinned (.plain (OpenSpec.upto packetsBackSpec)) packetsBackUptoCard

/-- THE SECOND FORM's CARD OF 'concordatlaw07.PacketsParts'. -/
def packetsPartsUptoCard : Claim7 := { stood := { row := packetsPartsUptoRow, standIns := [], harness := (true, "d7dadcf2c2898dec5b5b5d5da1c9274fd3149d89c319deedbc4c50bcbe209d5a"), looks := false }, kinds := [], alts := [], laidByText := true, laidKinds := [.data, .data, .data], laidTests := true, laidLooks := .later }
def PacketsPartsUptoCardSaid : Prop := Claim7.holds Tryd.pinned (.plain (OpenSpec.upto packetsPartsSpec)) packetsPartsUptoCard
end Rows
end Go.Proofs.YtcohodkpppmaoaaDoor
