/-
  DERIVED. GIVEN WITH THE SEED: THE CARDS: each row of YtcfmnoimehcfnaaGreatDoorRows.lean that lists a variable, with what it lists TIED to the program's text (the seventh form; the later family's looks); each row that meets fmt, with fmt's text TOLD by the authors' own Lean function (tested against real Go, not proved from fmt's source: count such statements apart). THE CARD IS WHAT COUNTS. Prove the row's statement (the work); the ties are given (YtcfmnoimehcfnaaGreatDoorTie.lean); close each card by the builder's one call (the guide's Derived/Test/ToyasCard.lean, 'card_holds'). Laid BY PROGRAM, IN A SANDBOX (cutbox-door.mjs). By AI agents, Wed Nov 11 2026. No macro, syntax, notation, axiom, sorry.
-/
import Derived.Test.YtcfmnoimehcfnaaGreatDoorRows
import GoSem.ClaimSeven
namespace Go.Proofs.YtcfmnoimehcfnaaGreatDoor
namespace Rows

/-- THE TIED CARD OF 'wharfingerlaw22.ChiefTurns'. -/
def chiefTurnsCard : Claim7 := { stood := { row := chiefTurnsRow, standIns := [], harness := (true, "94e7422748b81089c209564227daaa93d7fd9ed6f5f31dcb8c9a95358a58db66"), looks := true }, kinds := [], alts := [], laidByText := true, laidKinds := [.data, .data, .data], laidTests := true, laidLooks := .later }
def ChiefTurnsCardSaid : Prop := Claim7.holds Tryz.pinned (.plain (OpenSpec.ofChange chiefTurnsSpec)) chiefTurnsCard

/-- THE TIED CARD OF 'wharfingerlaw22.ChiefCancels'. -/
def chiefCancelsCard : Claim7 := { stood := { row := chiefCancelsRow, standIns := [], harness := (true, "94e7422748b81089c209564227daaa93d7fd9ed6f5f31dcb8c9a95358a58db66"), looks := true }, kinds := [], alts := [], laidByText := true, laidKinds := [.data, .data, .data], laidTests := true, laidLooks := .later }
def ChiefCancelsCardSaid : Prop := Claim7.holds Tryz.pinned (.plain (OpenSpec.ofChange chiefCancelsSpec)) chiefCancelsCard

/-- THE TIED CARD OF 'wharfingerlaw21.ShipperPlays'. -/
def shipperPlaysCard : Claim7 := { stood := { row := shipperPlaysRow, standIns := [], harness := (true, "94e7422748b81089c209564227daaa93d7fd9ed6f5f31dcb8c9a95358a58db66"), looks := true }, kinds := [], alts := [], laidByText := true, laidKinds := [.data, .data, .data, .data, .sentinel, .sentinel, .pinned], laidTests := true, laidLooks := .later }
def ShipperPlaysCardSaid : Prop := Claim7.holds Tryz.pinned (.plain (OpenSpec.ofChange shipperPlaysSpec)) shipperPlaysCard

/-- THE TIED CARD OF 'wharfingerlaw19.ServicePlays'. -/
def servicePlaysCard : Claim7 := { stood := { row := servicePlaysRow, standIns := [], harness := (true, "94e7422748b81089c209564227daaa93d7fd9ed6f5f31dcb8c9a95358a58db66"), looks := true }, kinds := [], alts := [], laidByText := true, laidKinds := [.data, .data, .data, .data, .sentinel, .sentinel, .pinned], laidTests := true, laidLooks := .later }
def ServicePlaysCardSaid : Prop := Claim7.holds Tryz.pinned (.plain (OpenSpec.ofChange servicePlaysSpec)) servicePlaysCard

/-- THE TIED CARD OF 'wharfingerlaw22.ChiefRoom'. -/
def chiefRoomCard : Claim7 := { stood := { row := chiefRoomRow, standIns := [], harness := (true, "94e7422748b81089c209564227daaa93d7fd9ed6f5f31dcb8c9a95358a58db66"), looks := true }, kinds := [], alts := [], laidByText := true, laidKinds := [.data, .data, .data], laidTests := true, laidLooks := .later }
def ChiefRoomCardSaid : Prop := Claim7.holds Tryz.pinned (.plain (OpenSpec.ofChange chiefRoomSpec)) chiefRoomCard

/-- THE TIED CARD OF 'wharfingerlaw20.KeeperLasts'. -/
def keeperLastsCard : Claim7 := { stood := { row := keeperLastsRow, standIns := [], harness := (true, "94e7422748b81089c209564227daaa93d7fd9ed6f5f31dcb8c9a95358a58db66"), looks := true }, kinds := [], alts := [], laidByText := true, laidKinds := [.data, .data, .data, .data, .sentinel, .sentinel, .pinned], laidTests := true, laidLooks := .later }
def KeeperLastsCardSaid : Prop := Claim7.holds Tryz.pinned (.plain (OpenSpec.ofChange keeperLastsSpec)) keeperLastsCard

/-- THE TIED CARD OF 'wharfingerlaw20.KeeperPlays'. -/
def keeperPlaysCard : Claim7 := { stood := { row := keeperPlaysRow, standIns := [], harness := (true, "94e7422748b81089c209564227daaa93d7fd9ed6f5f31dcb8c9a95358a58db66"), looks := true }, kinds := [], alts := [], laidByText := true, laidKinds := [.data, .data, .data, .data, .sentinel, .sentinel, .pinned], laidTests := true, laidLooks := .later }
def KeeperPlaysCardSaid : Prop := Claim7.holds Tryz.pinned (.plain (OpenSpec.ofChange keeperPlaysSpec)) keeperPlaysCard

/-- THE TIED CARD OF 'wharfingerlaw22.ChiefAnswers'. -/
def chiefAnswersCard : Claim7 := { stood := { row := chiefAnswersRow, standIns := [], harness := (true, "94e7422748b81089c209564227daaa93d7fd9ed6f5f31dcb8c9a95358a58db66"), looks := true }, kinds := [], alts := [], laidByText := true, laidKinds := [.data, .data, .data, .data, .sentinel, .sentinel, .pinned], laidTests := true, laidLooks := .later }
def ChiefAnswersCardSaid : Prop := Claim7.holds Tryz.pinned (.plain (OpenSpec.ofChange chiefAnswersSpec)) chiefAnswersCard

/-- THE TIED CARD OF 'wharfingerlaw22.ChiefPresumes'. -/
def chiefPresumesCard : Claim7 := { stood := { row := chiefPresumesRow, standIns := [], harness := (true, "94e7422748b81089c209564227daaa93d7fd9ed6f5f31dcb8c9a95358a58db66"), looks := true }, kinds := [], alts := [], laidByText := true, laidKinds := [.data, .data, .data, .data, .sentinel, .sentinel, .pinned], laidTests := true, laidLooks := .later }
def ChiefPresumesCardSaid : Prop := Claim7.holds Tryz.pinned (.plain (OpenSpec.ofChange chiefPresumesSpec)) chiefPresumesCard

/-- THE TIED CARD OF 'wharfingerlaw22.ChiefPlays'. -/
def chiefPlaysCard : Claim7 := { stood := { row := chiefPlaysRow, standIns := [], harness := (true, "94e7422748b81089c209564227daaa93d7fd9ed6f5f31dcb8c9a95358a58db66"), looks := true }, kinds := [], alts := [], laidByText := true, laidKinds := [.data, .data, .data, .data, .sentinel, .sentinel, .pinned], laidTests := true, laidLooks := .later }
def ChiefPlaysCardSaid : Prop := Claim7.holds Tryz.pinned (.plain (OpenSpec.ofChange chiefPlaysSpec)) chiefPlaysCard

/-- THE TIED CARD OF 'wharfingerlaw22.ChiefNil'. -/
def chiefNilCard : Claim7 := { stood := { row := chiefNilRow, standIns := [], harness := (true, "94e7422748b81089c209564227daaa93d7fd9ed6f5f31dcb8c9a95358a58db66"), looks := true }, kinds := [], alts := [], laidByText := true, laidKinds := [.data, .data, .data, .data, .sentinel, .sentinel, .pinned], laidTests := true, laidLooks := .later }
def ChiefNilCardSaid : Prop := Claim7.holds Tryz.pinned (.plain (OpenSpec.ofChange chiefNilSpec)) chiefNilCard

/-- THE TIED CARD OF 'wharfingerlaw22.ChiefLasts'. -/
def chiefLastsCard : Claim7 := { stood := { row := chiefLastsRow, standIns := [], harness := (true, "94e7422748b81089c209564227daaa93d7fd9ed6f5f31dcb8c9a95358a58db66"), looks := true }, kinds := [], alts := [], laidByText := true, laidKinds := [.data, .data, .data, .data, .sentinel, .sentinel, .pinned], laidTests := true, laidLooks := .later }
def ChiefLastsCardSaid : Prop := Claim7.holds Tryz.pinned (.plain (OpenSpec.ofChange chiefLastsSpec)) chiefLastsCard

/-- THE SECOND FORM's CARD OF 'wharfingerlaw22.ChiefTurns'. -/
def chiefTurnsUptoCard : Claim7 := { stood := { row := chiefTurnsUptoRow, standIns := [], harness := (true, "94e7422748b81089c209564227daaa93d7fd9ed6f5f31dcb8c9a95358a58db66"), looks := true }, kinds := [], alts := [], laidByText := true, laidKinds := [.data, .data, .data], laidTests := true, laidLooks := .later }
def ChiefTurnsUptoCardSaid : Prop := Claim7.holds Tryz.pinned (.plain (OpenSpec.upto chiefTurnsSpec)) chiefTurnsUptoCard

/-- THE SECOND FORM's CARD OF 'wharfingerlaw22.ChiefCancels'. -/
def chiefCancelsUptoCard : Claim7 := { stood := { row := chiefCancelsUptoRow, standIns := [], harness := (true, "94e7422748b81089c209564227daaa93d7fd9ed6f5f31dcb8c9a95358a58db66"), looks := true }, kinds := [], alts := [], laidByText := true, laidKinds := [.data, .data, .data], laidTests := true, laidLooks := .later }
def ChiefCancelsUptoCardSaid : Prop := Claim7.holds Tryz.pinned (.plain (OpenSpec.upto chiefCancelsSpec)) chiefCancelsUptoCard

/-- THE SECOND FORM's CARD OF 'wharfingerlaw21.ShipperPlays'. -/
def shipperPlaysUptoCard : Claim7 := { stood := { row := shipperPlaysUptoRow, standIns := [], harness := (true, "94e7422748b81089c209564227daaa93d7fd9ed6f5f31dcb8c9a95358a58db66"), looks := true }, kinds := [], alts := [], laidByText := true, laidKinds := [.data, .data, .data, .data, .sentinel, .sentinel, .pinned], laidTests := true, laidLooks := .later }
def ShipperPlaysUptoCardSaid : Prop := Claim7.holds Tryz.pinned (.plain (OpenSpec.upto shipperPlaysSpec)) shipperPlaysUptoCard

/-- THE SECOND FORM's CARD OF 'wharfingerlaw19.ServicePlays'. -/
def servicePlaysUptoCard : Claim7 := { stood := { row := servicePlaysUptoRow, standIns := [], harness := (true, "94e7422748b81089c209564227daaa93d7fd9ed6f5f31dcb8c9a95358a58db66"), looks := true }, kinds := [], alts := [], laidByText := true, laidKinds := [.data, .data, .data, .data, .sentinel, .sentinel, .pinned], laidTests := true, laidLooks := .later }
def ServicePlaysUptoCardSaid : Prop := Claim7.holds Tryz.pinned (.plain (OpenSpec.upto servicePlaysSpec)) servicePlaysUptoCard

/-- THE SECOND FORM's CARD OF 'wharfingerlaw22.ChiefRoom'. -/
def chiefRoomUptoCard : Claim7 := { stood := { row := chiefRoomUptoRow, standIns := [], harness := (true, "94e7422748b81089c209564227daaa93d7fd9ed6f5f31dcb8c9a95358a58db66"), looks := true }, kinds := [], alts := [], laidByText := true, laidKinds := [.data, .data, .data], laidTests := true, laidLooks := .later }
def ChiefRoomUptoCardSaid : Prop := Claim7.holds Tryz.pinned (.plain (OpenSpec.upto chiefRoomSpec)) chiefRoomUptoCard

/-- THE SECOND FORM's CARD OF 'wharfingerlaw20.KeeperLasts'. -/
def keeperLastsUptoCard : Claim7 := { stood := { row := keeperLastsUptoRow, standIns := [], harness := (true, "94e7422748b81089c209564227daaa93d7fd9ed6f5f31dcb8c9a95358a58db66"), looks := true }, kinds := [], alts := [], laidByText := true, laidKinds := [.data, .data, .data, .data, .sentinel, .sentinel, .pinned], laidTests := true, laidLooks := .later }
def KeeperLastsUptoCardSaid : Prop := Claim7.holds Tryz.pinned (.plain (OpenSpec.upto keeperLastsSpec)) keeperLastsUptoCard

/-- THE SECOND FORM's CARD OF 'wharfingerlaw20.KeeperPlays'. -/
def keeperPlaysUptoCard : Claim7 := { stood := { row := keeperPlaysUptoRow, standIns := [], harness := (true, "94e7422748b81089c209564227daaa93d7fd9ed6f5f31dcb8c9a95358a58db66"), looks := true }, kinds := [], alts := [], laidByText := true, laidKinds := [.data, .data, .data, .data, .sentinel, .sentinel, .pinned], laidTests := true, laidLooks := .later }
def KeeperPlaysUptoCardSaid : Prop := Claim7.holds Tryz.pinned (.plain (OpenSpec.upto keeperPlaysSpec)) keeperPlaysUptoCard

/-- THE SECOND FORM's CARD OF 'wharfingerlaw22.ChiefAnswers'. -/
def chiefAnswersUptoCard : Claim7 := { stood := { row := chiefAnswersUptoRow, standIns := [], harness := (true, "94e7422748b81089c209564227daaa93d7fd9ed6f5f31dcb8c9a95358a58db66"), looks := true }, kinds := [], alts := [], laidByText := true, laidKinds := [.data, .data, .data, .data, .sentinel, .sentinel, .pinned], laidTests := true, laidLooks := .later }
def ChiefAnswersUptoCardSaid : Prop := Claim7.holds Tryz.pinned (.plain (OpenSpec.upto chiefAnswersSpec)) chiefAnswersUptoCard

/-- THE SECOND FORM's CARD OF 'wharfingerlaw22.ChiefPresumes'. -/
def chiefPresumesUptoCard : Claim7 := { stood := { row := chiefPresumesUptoRow, standIns := [], harness := (true, "94e7422748b81089c209564227daaa93d7fd9ed6f5f31dcb8c9a95358a58db66"), looks := true }, kinds := [], alts := [], laidByText := true, laidKinds := [.data, .data, .data, .data, .sentinel, .sentinel, .pinned], laidTests := true, laidLooks := .later }
def ChiefPresumesUptoCardSaid : Prop := Claim7.holds Tryz.pinned (.plain (OpenSpec.upto chiefPresumesSpec)) chiefPresumesUptoCard

/-- THE SECOND FORM's CARD OF 'wharfingerlaw22.ChiefPlays'. -/
def chiefPlaysUptoCard : Claim7 := { stood := { row := chiefPlaysUptoRow, standIns := [], harness := (true, "94e7422748b81089c209564227daaa93d7fd9ed6f5f31dcb8c9a95358a58db66"), looks := true }, kinds := [], alts := [], laidByText := true, laidKinds := [.data, .data, .data, .data, .sentinel, .sentinel, .pinned], laidTests := true, laidLooks := .later }
def ChiefPlaysUptoCardSaid : Prop := Claim7.holds Tryz.pinned (.plain (OpenSpec.upto chiefPlaysSpec)) chiefPlaysUptoCard

/-- THE SECOND FORM's CARD OF 'wharfingerlaw22.ChiefNil'. -/
def chiefNilUptoCard : Claim7 := { stood := { row := chiefNilUptoRow, standIns := [], harness := (true, "94e7422748b81089c209564227daaa93d7fd9ed6f5f31dcb8c9a95358a58db66"), looks := true }, kinds := [], alts := [], laidByText := true, laidKinds := [.data, .data, .data, .data, .sentinel, .sentinel, .pinned], laidTests := true, laidLooks := .later }
def ChiefNilUptoCardSaid : Prop := Claim7.holds Tryz.pinned (.plain (OpenSpec.upto chiefNilSpec)) chiefNilUptoCard

/-- THE SECOND FORM's CARD OF 'wharfingerlaw22.ChiefLasts'. -/
def chiefLastsUptoCard : Claim7 := { stood := { row := chiefLastsUptoRow, standIns := [], harness := (true, "94e7422748b81089c209564227daaa93d7fd9ed6f5f31dcb8c9a95358a58db66"), looks := true }, kinds := [], alts := [], laidByText := true, laidKinds := [.data, .data, .data, .data, .sentinel, .sentinel, .pinned], laidTests := true, laidLooks := .later }
def ChiefLastsUptoCardSaid : Prop := Claim7.holds Tryz.pinned (.plain (OpenSpec.upto chiefLastsSpec)) chiefLastsUptoCard
end Rows
end Go.Proofs.YtcfmnoimehcfnaaGreatDoor
