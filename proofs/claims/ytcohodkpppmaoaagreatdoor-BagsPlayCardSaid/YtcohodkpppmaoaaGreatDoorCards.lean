/-
  DERIVED. GIVEN WITH THE SEED: THE CARDS: each row of YtcohodkpppmaoaaGreatDoorRows.lean that lists a variable, with what it lists TIED to the program's text (the seventh form; the later family's looks); each row that meets fmt, with fmt's text TOLD by the authors' own Lean function (tested against real Go, not proved from fmt's source: count such statements apart). THE CARD IS WHAT COUNTS. Prove the row's statement (the work); the ties are given (YtcohodkpppmaoaaGreatDoorTie.lean); close each card by the builder's one call (the guide's Derived/Test/ToyasCard.lean, 'card_holds'). Laid BY PROGRAM, IN A SANDBOX (cutbox-door.mjs). By AI agents, Wed Nov 11 2026. No macro, syntax, notation, axiom, sorry.
-/
import Derived.Test.YtcohodkpppmaoaaGreatDoorRows
import GoSem.ClaimSeven
namespace Go.Proofs.YtcohodkpppmaoaaGreatDoor
namespace Rows

/-- THE TIED CARD OF 'concordatlaw08.BagsPlay'. -/
def bagsPlayCard : Claim7 := { stood := { row := bagsPlayRow, standIns := [], harness := (true, "ea48fa4d927152aaa3afe34939a1c5e7fb19d6216532de72791089fefc19fcd0"), looks := false }, kinds := [], alts := [], laidByText := true, laidKinds := [.data, .data, .data], laidTests := true, laidLooks := .later }
def BagsPlayCardSaid : Prop := Claim7.holds Tryz.pinned (.plain (OpenSpec.ofChange bagsPlaySpec)) bagsPlayCard

/-- THE TIED CARD OF 'concordatlaw02.RowsChanges'. -/
def rowsChangesCard : Claim7 := { stood := { row := rowsChangesRow, standIns := [], harness := (true, "ea48fa4d927152aaa3afe34939a1c5e7fb19d6216532de72791089fefc19fcd0"), looks := false }, kinds := [], alts := [], laidByText := true, laidKinds := [.data, .data, .data], laidTests := true, laidLooks := .later }
def RowsChangesCardSaid : Prop := Claim7.holds Tryz.pinned (.plain (OpenSpec.ofChange rowsChangesSpec)) rowsChangesCard

/-- THE TIED CARD OF 'concordatlaw02.RowsOps'. -/
def rowsOpsCard : Claim7 := { stood := { row := rowsOpsRow, standIns := [], harness := (true, "ea48fa4d927152aaa3afe34939a1c5e7fb19d6216532de72791089fefc19fcd0"), looks := false }, kinds := [], alts := [], laidByText := true, laidKinds := [.data, .data, .data], laidTests := true, laidLooks := .later }
def RowsOpsCardSaid : Prop := Claim7.holds Tryz.pinned (.plain (OpenSpec.ofChange rowsOpsSpec)) rowsOpsCard

/-- THE TIED CARD OF 'concordatlaw02.RowsResults'. -/
def rowsResultsCard : Claim7 := { stood := { row := rowsResultsRow, standIns := [], harness := (true, "ea48fa4d927152aaa3afe34939a1c5e7fb19d6216532de72791089fefc19fcd0"), looks := false }, kinds := [], alts := [], laidByText := true, laidKinds := [.data, .data, .data], laidTests := true, laidLooks := .later }
def RowsResultsCardSaid : Prop := Claim7.holds Tryz.pinned (.plain (OpenSpec.ofChange rowsResultsSpec)) rowsResultsCard

/-- THE TIED CARD OF 'concordatlaw07.PacketsGet'. -/
def packetsGetCard : Claim7 := { stood := { row := packetsGetRow, standIns := [], harness := (true, "ea48fa4d927152aaa3afe34939a1c5e7fb19d6216532de72791089fefc19fcd0"), looks := false }, kinds := [], alts := [], laidByText := true, laidKinds := [.data, .data, .data], laidTests := true, laidLooks := .later }
def PacketsGetCardSaid : Prop := Claim7.holds Tryz.pinned (.plain (OpenSpec.ofChange packetsGetSpec)) packetsGetCard

/-- THE TIED CARD OF 'concordatlaw07.PacketsPut'. -/
def packetsPutCard : Claim7 := { stood := { row := packetsPutRow, standIns := [], harness := (true, "ea48fa4d927152aaa3afe34939a1c5e7fb19d6216532de72791089fefc19fcd0"), looks := false }, kinds := [], alts := [], laidByText := true, laidKinds := [.data, .data, .data], laidTests := true, laidLooks := .later }
def PacketsPutCardSaid : Prop := Claim7.holds Tryz.pinned (.plain (OpenSpec.ofChange packetsPutSpec)) packetsPutCard

/-- THE SECOND FORM's CARD OF 'concordatlaw08.BagsPlay'. -/
def bagsPlayUptoCard : Claim7 := { stood := { row := bagsPlayUptoRow, standIns := [], harness := (true, "ea48fa4d927152aaa3afe34939a1c5e7fb19d6216532de72791089fefc19fcd0"), looks := false }, kinds := [], alts := [], laidByText := true, laidKinds := [.data, .data, .data], laidTests := true, laidLooks := .later }
def BagsPlayUptoCardSaid : Prop := Claim7.holds Tryz.pinned (.plain (OpenSpec.upto bagsPlaySpec)) bagsPlayUptoCard

/-- THE SECOND FORM's CARD OF 'concordatlaw02.RowsChanges'. -/
def rowsChangesUptoCard : Claim7 := { stood := { row := rowsChangesUptoRow, standIns := [], harness := (true, "ea48fa4d927152aaa3afe34939a1c5e7fb19d6216532de72791089fefc19fcd0"), looks := false }, kinds := [], alts := [], laidByText := true, laidKinds := [.data, .data, .data], laidTests := true, laidLooks := .later }
def RowsChangesUptoCardSaid : Prop := Claim7.holds Tryz.pinned (.plain (OpenSpec.upto rowsChangesSpec)) rowsChangesUptoCard

/-- THE SECOND FORM's CARD OF 'concordatlaw02.RowsOps'. -/
def rowsOpsUptoCard : Claim7 := { stood := { row := rowsOpsUptoRow, standIns := [], harness := (true, "ea48fa4d927152aaa3afe34939a1c5e7fb19d6216532de72791089fefc19fcd0"), looks := false }, kinds := [], alts := [], laidByText := true, laidKinds := [.data, .data, .data], laidTests := true, laidLooks := .later }
def RowsOpsUptoCardSaid : Prop := Claim7.holds Tryz.pinned (.plain (OpenSpec.upto rowsOpsSpec)) rowsOpsUptoCard

/-- THE SECOND FORM's CARD OF 'concordatlaw02.RowsResults'. -/
def rowsResultsUptoCard : Claim7 := { stood := { row := rowsResultsUptoRow, standIns := [], harness := (true, "ea48fa4d927152aaa3afe34939a1c5e7fb19d6216532de72791089fefc19fcd0"), looks := false }, kinds := [], alts := [], laidByText := true, laidKinds := [.data, .data, .data], laidTests := true, laidLooks := .later }
def RowsResultsUptoCardSaid : Prop := Claim7.holds Tryz.pinned (.plain (OpenSpec.upto rowsResultsSpec)) rowsResultsUptoCard

/-- THE SECOND FORM's CARD OF 'concordatlaw07.PacketsGet'. -/
def packetsGetUptoCard : Claim7 := { stood := { row := packetsGetUptoRow, standIns := [], harness := (true, "ea48fa4d927152aaa3afe34939a1c5e7fb19d6216532de72791089fefc19fcd0"), looks := false }, kinds := [], alts := [], laidByText := true, laidKinds := [.data, .data, .data], laidTests := true, laidLooks := .later }
def PacketsGetUptoCardSaid : Prop := Claim7.holds Tryz.pinned (.plain (OpenSpec.upto packetsGetSpec)) packetsGetUptoCard

/-- THE SECOND FORM's CARD OF 'concordatlaw07.PacketsPut'. -/
def packetsPutUptoCard : Claim7 := { stood := { row := packetsPutUptoRow, standIns := [], harness := (true, "ea48fa4d927152aaa3afe34939a1c5e7fb19d6216532de72791089fefc19fcd0"), looks := false }, kinds := [], alts := [], laidByText := true, laidKinds := [.data, .data, .data], laidTests := true, laidLooks := .later }
def PacketsPutUptoCardSaid : Prop := Claim7.holds Tryz.pinned (.plain (OpenSpec.upto packetsPutSpec)) packetsPutUptoCard
end Rows
end Go.Proofs.YtcohodkpppmaoaaGreatDoor
