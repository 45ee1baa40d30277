/-
  DERIVED. GIVEN WITH THE SEED: THE CARDS: each row of YtiihiaicggmhjaaDoorRows.lean that lists a variable, with what it lists TIED to the program's text (the seventh form; the later family's looks); each row that meets fmt, with fmt's text TOLD by the authors' own Lean function (tested against real Go, not proved from fmt's source: count such statements apart). THE CARD IS WHAT COUNTS. Prove the row's statement (the work); the ties are given (YtiihiaicggmhjaaDoorTie.lean); close each card by the builder's one call (the guide's Derived/Test/ToyasCard.lean, 'card_holds'). Laid BY PROGRAM, IN A SANDBOX (cutbox-door.mjs). By AI agents, Wed Nov 11 2026. No macro, syntax, notation, axiom, sorry.
-/
import Derived.Test.YtiihiaicggmhjaaDoorRows
import GoSem.ClaimSeven
namespace Go.Proofs.YtiihiaicggmhjaaDoor
namespace Rows

/-- THE TIED CARD OF 'wharfingerlaw21.ShipperOthers'. -/
def shipperOthersCard : Claim7 := { stood := { row := shipperOthersRow, standIns := [], harness := (true, "e062c22435dbd15a7887e6537c5ee9bae0edddb805efdaf0a0482b20319c9f4d"), looks := true }, kinds := [], alts := [], laidByText := true, laidKinds := [.data, .data, .data], laidTests := true, laidLooks := .later }
def ShipperOthersCardSaid : Prop := Claim7.holds Tryd.pinned (.plain (OpenSpec.ofChange shipperOthersSpec)) shipperOthersCard

/-- THE TIED CARD OF 'wharfingerlaw21.ShipperFull'. -/
def shipperFullCard : Claim7 := { stood := { row := shipperFullRow, standIns := [], harness := (true, "e062c22435dbd15a7887e6537c5ee9bae0edddb805efdaf0a0482b20319c9f4d"), looks := true }, kinds := [], alts := [], laidByText := true, laidKinds := [.data, .data, .data], laidTests := true, laidLooks := .later }
def ShipperFullCardSaid : Prop := Claim7.holds Tryd.pinned (.plain (OpenSpec.ofChange shipperFullSpec)) shipperFullCard

/-- THE TIED CARD OF 'wharfingerlaw19.ServiceFull'. -/
def serviceFullCard : Claim7 := { stood := { row := serviceFullRow, standIns := [], harness := (true, "e062c22435dbd15a7887e6537c5ee9bae0edddb805efdaf0a0482b20319c9f4d"), looks := true }, kinds := [], alts := [], laidByText := true, laidKinds := [.data, .data, .data], laidTests := true, laidLooks := .later }
def ServiceFullCardSaid : Prop := Claim7.holds Tryd.pinned (.plain (OpenSpec.ofChange serviceFullSpec)) serviceFullCard

/-- THE TIED CARD OF 'wharfingerlaw19.ServiceOthers'. -/
def serviceOthersCard : Claim7 := { stood := { row := serviceOthersRow, standIns := [], harness := (true, "e062c22435dbd15a7887e6537c5ee9bae0edddb805efdaf0a0482b20319c9f4d"), looks := true }, kinds := [], alts := [], laidByText := true, laidKinds := [.data, .data, .data], laidTests := true, laidLooks := .later }
def ServiceOthersCardSaid : Prop := Claim7.holds Tryd.pinned (.plain (OpenSpec.ofChange serviceOthersSpec)) serviceOthersCard

/-- THE TIED CARD OF 'wharfingerlaw5.OrderBack'. -/
def orderBackCard : Claim7 := { stood := { row := orderBackRow, standIns := [], harness := (true, "e062c22435dbd15a7887e6537c5ee9bae0edddb805efdaf0a0482b20319c9f4d"), looks := true }, kinds := [], alts := [], laidByText := true, laidKinds := [.data, .data, .data, .sentinel, .sentinel], laidTests := true, laidLooks := .later }
def OrderBackCardSaid : Prop := Claim7.holds Tryd.pinned (.plain (OpenSpec.ofChange orderBackSpec)) orderBackCard

/-- THE TIED CARD OF 'wharfingerlaw5.OrderSpoilt'. -/
def orderSpoiltCard : Claim7 := { stood := { row := orderSpoiltRow, standIns := [], harness := (true, "e062c22435dbd15a7887e6537c5ee9bae0edddb805efdaf0a0482b20319c9f4d"), looks := true }, kinds := [], alts := [], laidByText := true, laidKinds := [.data, .data, .data, .sentinel, .sentinel], laidTests := true, laidLooks := .later }
def OrderSpoiltCardSaid : Prop := Claim7.holds Tryd.pinned (.plain (OpenSpec.ofChange orderSpoiltSpec)) orderSpoiltCard

/-- THE TIED CARD OF 'wharfingerlaw5.OrderSteps'. -/
def orderStepsCard : Claim7 := { stood := { row := orderStepsRow, standIns := [], harness := (true, "e062c22435dbd15a7887e6537c5ee9bae0edddb805efdaf0a0482b20319c9f4d"), looks := true }, kinds := [], alts := [], laidByText := true, laidKinds := [.data, .data, .data, .sentinel, .sentinel], laidTests := true, laidLooks := .later }
def OrderStepsCardSaid : Prop := Claim7.holds Tryd.pinned (.plain (OpenSpec.ofChange orderStepsSpec)) orderStepsCard

/-- THE TIED CARD OF 'wharfingerlaw5.OrderTexts'. -/
def orderTextsCard : Claim7 := { stood := { row := orderTextsRow, standIns := [], harness := (true, "e062c22435dbd15a7887e6537c5ee9bae0edddb805efdaf0a0482b20319c9f4d"), looks := true }, kinds := [], alts := [], laidByText := true, laidKinds := [.data, .data, .data, .sentinel, .sentinel], laidTests := true, laidLooks := .later }
def OrderTextsCardSaid : Prop := Claim7.holds Tryd.pinned (.plain (OpenSpec.ofChange orderTextsSpec)) orderTextsCard

/-- THE SECOND FORM's CARD OF 'wharfingerlaw21.ShipperOthers'. -/
def shipperOthersUptoCard : Claim7 := { stood := { row := shipperOthersUptoRow, standIns := [], harness := (true, "e062c22435dbd15a7887e6537c5ee9bae0edddb805efdaf0a0482b20319c9f4d"), looks := true }, kinds := [], alts := [], laidByText := true, laidKinds := [.data, .data, .data], laidTests := true, laidLooks := .later }
def ShipperOthersUptoCardSaid : Prop := Claim7.holds Tryd.pinned (.plain (OpenSpec.upto shipperOthersSpec)) shipperOthersUptoCard

/-- THE SECOND FORM's CARD OF 'wharfingerlaw21.ShipperFull'. -/
def shipperFullUptoCard : Claim7 := { stood := { row := shipperFullUptoRow, standIns := [], harness := (true, "e062c22435dbd15a7887e6537c5ee9bae0edddb805efdaf0a0482b20319c9f4d"), looks := true }, kinds := [], alts := [], laidByText := true, laidKinds := [.data, .data, .data], laidTests := true, laidLooks := .later }
def ShipperFullUptoCardSaid : Prop := Claim7.holds Tryd.pinned (.plain (OpenSpec.upto shipperFullSpec)) shipperFullUptoCard

/-- THE SECOND FORM's CARD OF 'wharfingerlaw19.ServiceFull'. -/
def serviceFullUptoCard : Claim7 := { stood := { row := serviceFullUptoRow, standIns := [], harness := (true, "e062c22435dbd15a7887e6537c5ee9bae0edddb805efdaf0a0482b20319c9f4d"), looks := true }, kinds := [], alts := [], laidByText := true, laidKinds := [.data, .data, .data], laidTests := true, laidLooks := .later }
def ServiceFullUptoCardSaid : Prop := Claim7.holds Tryd.pinned (.plain (OpenSpec.upto serviceFullSpec)) serviceFullUptoCard

/-- THE SECOND FORM's CARD OF 'wharfingerlaw19.ServiceOthers'. -/
def serviceOthersUptoCard : Claim7 := { stood := { row := serviceOthersUptoRow, standIns := [], harness := (true, "e062c22435dbd15a7887e6537c5ee9bae0edddb805efdaf0a0482b20319c9f4d"), looks := true }, kinds := [], alts := [], laidByText := true, laidKinds := [.data, .data, .data], laidTests := true, laidLooks := .later }
def ServiceOthersUptoCardSaid : Prop := Claim7.holds Tryd.pinned (.plain (OpenSpec.upto serviceOthersSpec)) serviceOthersUptoCard

/-- THE SECOND FORM's CARD OF 'wharfingerlaw5.OrderBack'. -/
def orderBackUptoCard : Claim7 := { stood := { row := orderBackUptoRow, standIns := [], harness := (true, "e062c22435dbd15a7887e6537c5ee9bae0edddb805efdaf0a0482b20319c9f4d"), looks := true }, kinds := [], alts := [], laidByText := true, laidKinds := [.data, .data, .data, .sentinel, .sentinel], laidTests := true, laidLooks := .later }
def OrderBackUptoCardSaid : Prop := Claim7.holds Tryd.pinned (.plain (OpenSpec.upto orderBackSpec)) orderBackUptoCard

/-- THE SECOND FORM's CARD OF 'wharfingerlaw5.OrderSpoilt'. -/
def orderSpoiltUptoCard : Claim7 := { stood := { row := orderSpoiltUptoRow, standIns := [], harness := (true, "e062c22435dbd15a7887e6537c5ee9bae0edddb805efdaf0a0482b20319c9f4d"), looks := true }, kinds := [], alts := [], laidByText := true, laidKinds := [.data, .data, .data, .sentinel, .sentinel], laidTests := true, laidLooks := .later }
def OrderSpoiltUptoCardSaid : Prop := Claim7.holds Tryd.pinned (.plain (OpenSpec.upto orderSpoiltSpec)) orderSpoiltUptoCard

/-- THE SECOND FORM's CARD OF 'wharfingerlaw5.OrderSteps'. -/
def orderStepsUptoCard : Claim7 := { stood := { row := orderStepsUptoRow, standIns := [], harness := (true, "e062c22435dbd15a7887e6537c5ee9bae0edddb805efdaf0a0482b20319c9f4d"), looks := true }, kinds := [], alts := [], laidByText := true, laidKinds := [.data, .data, .data, .sentinel, .sentinel], laidTests := true, laidLooks := .later }
def OrderStepsUptoCardSaid : Prop := Claim7.holds Tryd.pinned (.plain (OpenSpec.upto orderStepsSpec)) orderStepsUptoCard

/-- THE SECOND FORM's CARD OF 'wharfingerlaw5.OrderTexts'. -/
def orderTextsUptoCard : Claim7 := { stood := { row := orderTextsUptoRow, standIns := [], harness := (true, "e062c22435dbd15a7887e6537c5ee9bae0edddb805efdaf0a0482b20319c9f4d"), looks := true }, kinds := [], alts := [], laidByText := true, laidKinds := [.data, .data, .data, .sentinel, .sentinel], laidTests := true, laidLooks := .later }
def OrderTextsUptoCardSaid : Prop := Claim7.holds Tryd.pinned (.plain (OpenSpec.upto orderTextsSpec)) orderTextsUptoCard
end Rows
end Go.Proofs.YtiihiaicggmhjaaDoor
