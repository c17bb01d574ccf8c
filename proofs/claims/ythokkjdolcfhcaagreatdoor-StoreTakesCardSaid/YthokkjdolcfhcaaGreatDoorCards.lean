/-
  DERIVED. GIVEN WITH THE SEED: THE CARDS: each row of YthokkjdolcfhcaaGreatDoorRows.lean that lists a variable, with what it lists TIED to the program's text (the seventh form; the later family's looks); each row that meets fmt, with fmt's text TOLD by the authors' own Lean function (tested against real Go, not proved from fmt's source: count such statements apart). THE CARD IS WHAT COUNTS. Prove the row's statement (the work); the ties are given (YthokkjdolcfhcaaGreatDoorTie.lean); close each card by the builder's one call (the guide's Derived/Test/ToyasCard.lean, 'card_holds'). Laid BY PROGRAM, IN A SANDBOX (cutbox-door.mjs). By AI agents, Wed Nov 11 2026. No macro, syntax, notation, axiom, sorry.
-/
import Derived.Test.YthokkjdolcfhcaaGreatDoorRows
import GoSem.ClaimSeven
namespace Go.Proofs.YthokkjdolcfhcaaGreatDoor
namespace Rows

/-- THE TIED CARD OF 'towncrierlaw34.StoreTakes'. -/
def storeTakesCard : Claim7 := { stood := { row := storeTakesRow, standIns := [], harness := (true, "5410ada63ece52ce2e518ec62f2ebe70067512ea91e6d6d21ec90ca761b1f2ab"), looks := true }, kinds := [], alts := [], laidByText := true, laidKinds := [.handle, .sentinel, .sentinel, .sentinel, .sentinel, .sentinel, .sentinel, .sentinel], laidTests := true, laidLooks := .later }
def StoreTakesCardSaid : Prop := Claim7.holds Tryz.pinned (.plain (OpenSpec.ofChange storeTakesSpec)) storeTakesCard

/-- THE TIED CARD OF 'towncrierlaw09.ConnackEncodes'. -/
def connackEncodesCard : Claim7 := { stood := { row := connackEncodesRow, standIns := [], harness := (true, "5410ada63ece52ce2e518ec62f2ebe70067512ea91e6d6d21ec90ca761b1f2ab"), looks := true }, kinds := [], alts := [], laidByText := true, laidKinds := [.handle, .sentinel, .sentinel, .sentinel, .sentinel, .sentinel, .sentinel, .sentinel], laidTests := true, laidLooks := .later }
def ConnackEncodesCardSaid : Prop := Claim7.holds Tryz.pinned (.plain (OpenSpec.ofChange connackEncodesSpec)) connackEncodesCard

/-- THE TIED CARD OF 'towncrierlaw09.ConnackBack'. -/
def connackBackCard : Claim7 := { stood := { row := connackBackRow, standIns := [], harness := (true, "5410ada63ece52ce2e518ec62f2ebe70067512ea91e6d6d21ec90ca761b1f2ab"), looks := true }, kinds := [], alts := [], laidByText := true, laidKinds := [.handle, .sentinel, .sentinel, .sentinel, .sentinel, .sentinel, .sentinel, .sentinel], laidTests := true, laidLooks := .later }
def ConnackBackCardSaid : Prop := Claim7.holds Tryz.pinned (.plain (OpenSpec.ofChange connackBackSpec)) connackBackCard

/-- THE TIED CARD OF 'towncrierlaw11.AckEncodes'. -/
def ackEncodesCard : Claim7 := { stood := { row := ackEncodesRow, standIns := [], harness := (true, "5410ada63ece52ce2e518ec62f2ebe70067512ea91e6d6d21ec90ca761b1f2ab"), looks := true }, kinds := [], alts := [], laidByText := true, laidKinds := [.handle, .sentinel, .sentinel, .sentinel, .sentinel, .sentinel, .sentinel, .sentinel], laidTests := true, laidLooks := .later }
def AckEncodesCardSaid : Prop := Claim7.holds Tryz.pinned (.plain (OpenSpec.ofChange ackEncodesSpec)) ackEncodesCard

/-- THE TIED CARD OF 'towncrierlaw12.SubscribeBack'. -/
def subscribeBackCard : Claim7 := { stood := { row := subscribeBackRow, standIns := [], harness := (true, "5410ada63ece52ce2e518ec62f2ebe70067512ea91e6d6d21ec90ca761b1f2ab"), looks := true }, kinds := [], alts := [], laidByText := true, laidKinds := [.handle, .sentinel, .sentinel, .sentinel, .sentinel, .sentinel], laidTests := true, laidLooks := .later }
def SubscribeBackCardSaid : Prop := Claim7.holds Tryz.pinned (.plain (OpenSpec.ofChange subscribeBackSpec)) subscribeBackCard

/-- THE TIED CARD OF 'towncrierlaw14.MiscEncodes'. -/
def miscEncodesCard : Claim7 := { stood := { row := miscEncodesRow, standIns := [], harness := (true, "5410ada63ece52ce2e518ec62f2ebe70067512ea91e6d6d21ec90ca761b1f2ab"), looks := true }, kinds := [], alts := [], laidByText := true, laidKinds := [.handle, .sentinel, .sentinel, .sentinel, .sentinel, .sentinel, .sentinel, .sentinel], laidTests := true, laidLooks := .later }
def MiscEncodesCardSaid : Prop := Claim7.holds Tryz.pinned (.plain (OpenSpec.ofChange miscEncodesSpec)) miscEncodesCard

/-- THE TIED CARD OF 'towncrierlaw14.MiscBack'. -/
def miscBackCard : Claim7 := { stood := { row := miscBackRow, standIns := [], harness := (true, "5410ada63ece52ce2e518ec62f2ebe70067512ea91e6d6d21ec90ca761b1f2ab"), looks := true }, kinds := [], alts := [], laidByText := true, laidKinds := [.handle, .sentinel, .sentinel, .sentinel, .sentinel, .sentinel, .sentinel, .sentinel], laidTests := true, laidLooks := .later }
def MiscBackCardSaid : Prop := Claim7.holds Tryz.pinned (.plain (OpenSpec.ofChange miscBackSpec)) miscBackCard

/-- THE TIED CARD OF 'towncrierlaw13.UnsubEncodes'. -/
def unsubEncodesCard : Claim7 := { stood := { row := unsubEncodesRow, standIns := [], harness := (true, "5410ada63ece52ce2e518ec62f2ebe70067512ea91e6d6d21ec90ca761b1f2ab"), looks := true }, kinds := [], alts := [], laidByText := true, laidKinds := [.handle, .sentinel, .sentinel, .sentinel, .sentinel, .sentinel, .sentinel, .sentinel], laidTests := true, laidLooks := .later }
def UnsubEncodesCardSaid : Prop := Claim7.holds Tryz.pinned (.plain (OpenSpec.ofChange unsubEncodesSpec)) unsubEncodesCard

/-- THE TIED CARD OF 'towncrierlaw12.SubscribeEncodes'. -/
def subscribeEncodesCard : Claim7 := { stood := { row := subscribeEncodesRow, standIns := [], harness := (true, "5410ada63ece52ce2e518ec62f2ebe70067512ea91e6d6d21ec90ca761b1f2ab"), looks := true }, kinds := [], alts := [], laidByText := true, laidKinds := [.handle, .sentinel, .sentinel, .sentinel, .sentinel, .sentinel, .sentinel, .sentinel], laidTests := true, laidLooks := .later }
def SubscribeEncodesCardSaid : Prop := Claim7.holds Tryz.pinned (.plain (OpenSpec.ofChange subscribeEncodesSpec)) subscribeEncodesCard

/-- THE TIED CARD OF 'towncrierlaw15.PacketEncodes'. -/
def packetEncodesCard : Claim7 := { stood := { row := packetEncodesRow, standIns := [], harness := (true, "5410ada63ece52ce2e518ec62f2ebe70067512ea91e6d6d21ec90ca761b1f2ab"), looks := true }, kinds := [], alts := [], laidByText := true, laidKinds := [.handle, .sentinel, .sentinel, .sentinel, .sentinel, .sentinel, .sentinel, .sentinel], laidTests := true, laidLooks := .later }
def PacketEncodesCardSaid : Prop := Claim7.holds Tryz.pinned (.plain (OpenSpec.ofChange packetEncodesSpec)) packetEncodesCard

/-- THE TIED CARD OF 'towncrierlaw15.PacketBack'. -/
def packetBackCard : Claim7 := { stood := { row := packetBackRow, standIns := [], harness := (true, "5410ada63ece52ce2e518ec62f2ebe70067512ea91e6d6d21ec90ca761b1f2ab"), looks := true }, kinds := [], alts := [], laidByText := true, laidKinds := [.handle, .sentinel, .sentinel, .sentinel, .sentinel, .sentinel, .sentinel, .sentinel], laidTests := true, laidLooks := .later }
def PacketBackCardSaid : Prop := Claim7.holds Tryz.pinned (.plain (OpenSpec.ofChange packetBackSpec)) packetBackCard

/-- THE SECOND FORM's CARD OF 'towncrierlaw34.StoreTakes'. -/
def storeTakesUptoCard : Claim7 := { stood := { row := storeTakesUptoRow, standIns := [], harness := (true, "5410ada63ece52ce2e518ec62f2ebe70067512ea91e6d6d21ec90ca761b1f2ab"), looks := true }, kinds := [], alts := [], laidByText := true, laidKinds := [.handle, .sentinel, .sentinel, .sentinel, .sentinel, .sentinel, .sentinel, .sentinel], laidTests := true, laidLooks := .later }
def StoreTakesUptoCardSaid : Prop := Claim7.holds Tryz.pinned (.plain (OpenSpec.upto storeTakesSpec)) storeTakesUptoCard

/-- THE SECOND FORM's CARD OF 'towncrierlaw09.ConnackEncodes'. -/
def connackEncodesUptoCard : Claim7 := { stood := { row := connackEncodesUptoRow, standIns := [], harness := (true, "5410ada63ece52ce2e518ec62f2ebe70067512ea91e6d6d21ec90ca761b1f2ab"), looks := true }, kinds := [], alts := [], laidByText := true, laidKinds := [.handle, .sentinel, .sentinel, .sentinel, .sentinel, .sentinel, .sentinel, .sentinel], laidTests := true, laidLooks := .later }
def ConnackEncodesUptoCardSaid : Prop := Claim7.holds Tryz.pinned (.plain (OpenSpec.upto connackEncodesSpec)) connackEncodesUptoCard

/-- THE SECOND FORM's CARD OF 'towncrierlaw09.ConnackBack'. -/
def connackBackUptoCard : Claim7 := { stood := { row := connackBackUptoRow, standIns := [], harness := (true, "5410ada63ece52ce2e518ec62f2ebe70067512ea91e6d6d21ec90ca761b1f2ab"), looks := true }, kinds := [], alts := [], laidByText := true, laidKinds := [.handle, .sentinel, .sentinel, .sentinel, .sentinel, .sentinel, .sentinel, .sentinel], laidTests := true, laidLooks := .later }
def ConnackBackUptoCardSaid : Prop := Claim7.holds Tryz.pinned (.plain (OpenSpec.upto connackBackSpec)) connackBackUptoCard

/-- THE SECOND FORM's CARD OF 'towncrierlaw11.AckEncodes'. -/
def ackEncodesUptoCard : Claim7 := { stood := { row := ackEncodesUptoRow, standIns := [], harness := (true, "5410ada63ece52ce2e518ec62f2ebe70067512ea91e6d6d21ec90ca761b1f2ab"), looks := true }, kinds := [], alts := [], laidByText := true, laidKinds := [.handle, .sentinel, .sentinel, .sentinel, .sentinel, .sentinel, .sentinel, .sentinel], laidTests := true, laidLooks := .later }
def AckEncodesUptoCardSaid : Prop := Claim7.holds Tryz.pinned (.plain (OpenSpec.upto ackEncodesSpec)) ackEncodesUptoCard

/-- THE SECOND FORM's CARD OF 'towncrierlaw12.SubscribeBack'. -/
def subscribeBackUptoCard : Claim7 := { stood := { row := subscribeBackUptoRow, standIns := [], harness := (true, "5410ada63ece52ce2e518ec62f2ebe70067512ea91e6d6d21ec90ca761b1f2ab"), looks := true }, kinds := [], alts := [], laidByText := true, laidKinds := [.handle, .sentinel, .sentinel, .sentinel, .sentinel, .sentinel], laidTests := true, laidLooks := .later }
def SubscribeBackUptoCardSaid : Prop := Claim7.holds Tryz.pinned (.plain (OpenSpec.upto subscribeBackSpec)) subscribeBackUptoCard

/-- THE SECOND FORM's CARD OF 'towncrierlaw14.MiscEncodes'. -/
def miscEncodesUptoCard : Claim7 := { stood := { row := miscEncodesUptoRow, standIns := [], harness := (true, "5410ada63ece52ce2e518ec62f2ebe70067512ea91e6d6d21ec90ca761b1f2ab"), looks := true }, kinds := [], alts := [], laidByText := true, laidKinds := [.handle, .sentinel, .sentinel, .sentinel, .sentinel, .sentinel, .sentinel, .sentinel], laidTests := true, laidLooks := .later }
def MiscEncodesUptoCardSaid : Prop := Claim7.holds Tryz.pinned (.plain (OpenSpec.upto miscEncodesSpec)) miscEncodesUptoCard

/-- THE SECOND FORM's CARD OF 'towncrierlaw14.MiscBack'. -/
def miscBackUptoCard : Claim7 := { stood := { row := miscBackUptoRow, standIns := [], harness := (true, "5410ada63ece52ce2e518ec62f2ebe70067512ea91e6d6d21ec90ca761b1f2ab"), looks := true }, kinds := [], alts := [], laidByText := true, laidKinds := [.handle, .sentinel, .sentinel, .sentinel, .sentinel, .sentinel, .sentinel, .sentinel], laidTests := true, laidLooks := .later }
def MiscBackUptoCardSaid : Prop := Claim7.holds Tryz.pinned (.plain (OpenSpec.upto miscBackSpec)) miscBackUptoCard

/-- THE SECOND FORM's CARD OF 'towncrierlaw13.UnsubEncodes'. -/
def unsubEncodesUptoCard : Claim7 := { stood := { row := unsubEncodesUptoRow, standIns := [], harness := (true, "5410ada63ece52ce2e518ec62f2ebe70067512ea91e6d6d21ec90ca761b1f2ab"), looks := true }, kinds := [], alts := [], laidByText := true, laidKinds := [.handle, .sentinel, .sentinel, .sentinel, .sentinel, .sentinel, .sentinel, .sentinel], laidTests := true, laidLooks := .later }
def UnsubEncodesUptoCardSaid : Prop := Claim7.holds Tryz.pinned (.plain (OpenSpec.upto unsubEncodesSpec)) unsubEncodesUptoCard

/-- THE SECOND FORM's CARD OF 'towncrierlaw12.SubscribeEncodes'. -/
def subscribeEncodesUptoCard : Claim7 := { stood := { row := subscribeEncodesUptoRow, standIns := [], harness := (true, "5410ada63ece52ce2e518ec62f2ebe70067512ea91e6d6d21ec90ca761b1f2ab"), looks := true }, kinds := [], alts := [], laidByText := true, laidKinds := [.handle, .sentinel, .sentinel, .sentinel, .sentinel, .sentinel, .sentinel, .sentinel], laidTests := true, laidLooks := .later }
def SubscribeEncodesUptoCardSaid : Prop := Claim7.holds Tryz.pinned (.plain (OpenSpec.upto subscribeEncodesSpec)) subscribeEncodesUptoCard

/-- THE SECOND FORM's CARD OF 'towncrierlaw15.PacketEncodes'. -/
def packetEncodesUptoCard : Claim7 := { stood := { row := packetEncodesUptoRow, standIns := [], harness := (true, "5410ada63ece52ce2e518ec62f2ebe70067512ea91e6d6d21ec90ca761b1f2ab"), looks := true }, kinds := [], alts := [], laidByText := true, laidKinds := [.handle, .sentinel, .sentinel, .sentinel, .sentinel, .sentinel, .sentinel, .sentinel], laidTests := true, laidLooks := .later }
def PacketEncodesUptoCardSaid : Prop := Claim7.holds Tryz.pinned (.plain (OpenSpec.upto packetEncodesSpec)) packetEncodesUptoCard

/-- THE SECOND FORM's CARD OF 'towncrierlaw15.PacketBack'. -/
def packetBackUptoCard : Claim7 := { stood := { row := packetBackUptoRow, standIns := [], harness := (true, "5410ada63ece52ce2e518ec62f2ebe70067512ea91e6d6d21ec90ca761b1f2ab"), looks := true }, kinds := [], alts := [], laidByText := true, laidKinds := [.handle, .sentinel, .sentinel, .sentinel, .sentinel, .sentinel, .sentinel, .sentinel], laidTests := true, laidLooks := .later }
def PacketBackUptoCardSaid : Prop := Claim7.holds Tryz.pinned (.plain (OpenSpec.upto packetBackSpec)) packetBackUptoCard
end Rows
end Go.Proofs.YthokkjdolcfhcaaGreatDoor
