/-
  DERIVED. GIVEN WITH THE SEED: THE CARDS: each row of YtjckakeolmbidaaGreatDoorRows.lean that lists a variable, with what it lists TIED to the program's text (the seventh form; the later family's looks); each row that meets fmt, with fmt's text TOLD by the authors' own Lean function (tested against real Go, not proved from fmt's source: count such statements apart). THE CARD IS WHAT COUNTS. Prove the row's statement (the work); the ties are given (YtjckakeolmbidaaGreatDoorTie.lean); close each card by the builder's one call (the guide's Derived/Test/ToyasCard.lean, 'card_holds'). Laid BY PROGRAM, IN A SANDBOX (cutbox-door.mjs). By AI agents, Wed Nov 11 2026. No macro, syntax, notation, axiom, sorry.
-/
import Derived.Test.YtjckakeolmbidaaGreatDoorRows
import GoSem.ClaimSeven
namespace Go.Proofs.YtjckakeolmbidaaGreatDoor
namespace Rows

/-- THE TIED CARD OF 'wharfingerlaw21.ShipperPlays'. -/
def shipperPlaysCard : Claim7 := { stood := { row := shipperPlaysRow, standIns := [], harness := (true, "9b8bb9f80385b1bf9d95e4ab8c0f5c7d42b85636ac5a4e9c0e7c6bccb10d8189"), looks := true }, kinds := [], alts := [], laidByText := true, laidKinds := [.data, .data, .data, .data, .sentinel, .sentinel, .pinned], laidTests := true, laidLooks := .later }
def ShipperPlaysCardSaid : Prop := Claim7.holds Tryz.pinned (.plain (OpenSpec.ofChange shipperPlaysSpec)) shipperPlaysCard

/-- THE TIED CARD OF 'wharfingerlaw19.ServicePlays'. -/
def servicePlaysCard : Claim7 := { stood := { row := servicePlaysRow, standIns := [], harness := (true, "9b8bb9f80385b1bf9d95e4ab8c0f5c7d42b85636ac5a4e9c0e7c6bccb10d8189"), looks := true }, kinds := [], alts := [], laidByText := true, laidKinds := [.data, .data, .data, .data, .sentinel, .sentinel, .pinned], laidTests := true, laidLooks := .later }
def ServicePlaysCardSaid : Prop := Claim7.holds Tryz.pinned (.plain (OpenSpec.ofChange servicePlaysSpec)) servicePlaysCard

/-- THE TIED CARD OF 'wharfingerlaw20.KeeperNone'. -/
def keeperNoneCard : Claim7 := { stood := { row := keeperNoneRow, standIns := [], harness := (true, "9b8bb9f80385b1bf9d95e4ab8c0f5c7d42b85636ac5a4e9c0e7c6bccb10d8189"), looks := true }, kinds := [], alts := [], laidByText := true, laidKinds := [.data, .data, .data, .data, .sentinel, .sentinel, .pinned], laidTests := true, laidLooks := .later }
def KeeperNoneCardSaid : Prop := Claim7.holds Tryz.pinned (.plain (OpenSpec.ofChange keeperNoneSpec)) keeperNoneCard

/-- THE TIED CARD OF 'wharfingerlaw20.KeeperLasts'. -/
def keeperLastsCard : Claim7 := { stood := { row := keeperLastsRow, standIns := [], harness := (true, "9b8bb9f80385b1bf9d95e4ab8c0f5c7d42b85636ac5a4e9c0e7c6bccb10d8189"), looks := true }, kinds := [], alts := [], laidByText := true, laidKinds := [.data, .data, .data, .data, .sentinel, .sentinel, .pinned], laidTests := true, laidLooks := .later }
def KeeperLastsCardSaid : Prop := Claim7.holds Tryz.pinned (.plain (OpenSpec.ofChange keeperLastsSpec)) keeperLastsCard

/-- THE TIED CARD OF 'wharfingerlaw20.KeeperForced'. -/
def keeperForcedCard : Claim7 := { stood := { row := keeperForcedRow, standIns := [], harness := (true, "9b8bb9f80385b1bf9d95e4ab8c0f5c7d42b85636ac5a4e9c0e7c6bccb10d8189"), looks := true }, kinds := [], alts := [], laidByText := true, laidKinds := [.data, .data, .data, .data, .sentinel, .sentinel, .pinned], laidTests := true, laidLooks := .later }
def KeeperForcedCardSaid : Prop := Claim7.holds Tryz.pinned (.plain (OpenSpec.ofChange keeperForcedSpec)) keeperForcedCard

/-- THE TIED CARD OF 'wharfingerlaw20.KeeperNil'. -/
def keeperNilCard : Claim7 := { stood := { row := keeperNilRow, standIns := [], harness := (true, "9b8bb9f80385b1bf9d95e4ab8c0f5c7d42b85636ac5a4e9c0e7c6bccb10d8189"), looks := true }, kinds := [], alts := [], laidByText := true, laidKinds := [.data, .data, .data, .data, .sentinel, .sentinel, .pinned], laidTests := true, laidLooks := .later }
def KeeperNilCardSaid : Prop := Claim7.holds Tryz.pinned (.plain (OpenSpec.ofChange keeperNilSpec)) keeperNilCard

/-- THE TIED CARD OF 'wharfingerlaw20.KeeperPlays'. -/
def keeperPlaysCard : Claim7 := { stood := { row := keeperPlaysRow, standIns := [], harness := (true, "9b8bb9f80385b1bf9d95e4ab8c0f5c7d42b85636ac5a4e9c0e7c6bccb10d8189"), looks := true }, kinds := [], alts := [], laidByText := true, laidKinds := [.data, .data, .data, .data, .sentinel, .sentinel, .pinned], laidTests := true, laidLooks := .later }
def KeeperPlaysCardSaid : Prop := Claim7.holds Tryz.pinned (.plain (OpenSpec.ofChange keeperPlaysSpec)) keeperPlaysCard

/-- THE SECOND FORM's CARD OF 'wharfingerlaw21.ShipperPlays'. -/
def shipperPlaysUptoCard : Claim7 := { stood := { row := shipperPlaysUptoRow, standIns := [], harness := (true, "9b8bb9f80385b1bf9d95e4ab8c0f5c7d42b85636ac5a4e9c0e7c6bccb10d8189"), looks := true }, kinds := [], alts := [], laidByText := true, laidKinds := [.data, .data, .data, .data, .sentinel, .sentinel, .pinned], laidTests := true, laidLooks := .later }
def ShipperPlaysUptoCardSaid : Prop := Claim7.holds Tryz.pinned (.plain (OpenSpec.upto shipperPlaysSpec)) shipperPlaysUptoCard

/-- THE SECOND FORM's CARD OF 'wharfingerlaw19.ServicePlays'. -/
def servicePlaysUptoCard : Claim7 := { stood := { row := servicePlaysUptoRow, standIns := [], harness := (true, "9b8bb9f80385b1bf9d95e4ab8c0f5c7d42b85636ac5a4e9c0e7c6bccb10d8189"), looks := true }, kinds := [], alts := [], laidByText := true, laidKinds := [.data, .data, .data, .data, .sentinel, .sentinel, .pinned], laidTests := true, laidLooks := .later }
def ServicePlaysUptoCardSaid : Prop := Claim7.holds Tryz.pinned (.plain (OpenSpec.upto servicePlaysSpec)) servicePlaysUptoCard

/-- THE SECOND FORM's CARD OF 'wharfingerlaw20.KeeperNone'. -/
def keeperNoneUptoCard : Claim7 := { stood := { row := keeperNoneUptoRow, standIns := [], harness := (true, "9b8bb9f80385b1bf9d95e4ab8c0f5c7d42b85636ac5a4e9c0e7c6bccb10d8189"), looks := true }, kinds := [], alts := [], laidByText := true, laidKinds := [.data, .data, .data, .data, .sentinel, .sentinel, .pinned], laidTests := true, laidLooks := .later }
def KeeperNoneUptoCardSaid : Prop := Claim7.holds Tryz.pinned (.plain (OpenSpec.upto keeperNoneSpec)) keeperNoneUptoCard

/-- THE SECOND FORM's CARD OF 'wharfingerlaw20.KeeperLasts'. -/
def keeperLastsUptoCard : Claim7 := { stood := { row := keeperLastsUptoRow, standIns := [], harness := (true, "9b8bb9f80385b1bf9d95e4ab8c0f5c7d42b85636ac5a4e9c0e7c6bccb10d8189"), looks := true }, kinds := [], alts := [], laidByText := true, laidKinds := [.data, .data, .data, .data, .sentinel, .sentinel, .pinned], laidTests := true, laidLooks := .later }
def KeeperLastsUptoCardSaid : Prop := Claim7.holds Tryz.pinned (.plain (OpenSpec.upto keeperLastsSpec)) keeperLastsUptoCard

/-- THE SECOND FORM's CARD OF 'wharfingerlaw20.KeeperForced'. -/
def keeperForcedUptoCard : Claim7 := { stood := { row := keeperForcedUptoRow, standIns := [], harness := (true, "9b8bb9f80385b1bf9d95e4ab8c0f5c7d42b85636ac5a4e9c0e7c6bccb10d8189"), looks := true }, kinds := [], alts := [], laidByText := true, laidKinds := [.data, .data, .data, .data, .sentinel, .sentinel, .pinned], laidTests := true, laidLooks := .later }
def KeeperForcedUptoCardSaid : Prop := Claim7.holds Tryz.pinned (.plain (OpenSpec.upto keeperForcedSpec)) keeperForcedUptoCard

/-- THE SECOND FORM's CARD OF 'wharfingerlaw20.KeeperNil'. -/
def keeperNilUptoCard : Claim7 := { stood := { row := keeperNilUptoRow, standIns := [], harness := (true, "9b8bb9f80385b1bf9d95e4ab8c0f5c7d42b85636ac5a4e9c0e7c6bccb10d8189"), looks := true }, kinds := [], alts := [], laidByText := true, laidKinds := [.data, .data, .data, .data, .sentinel, .sentinel, .pinned], laidTests := true, laidLooks := .later }
def KeeperNilUptoCardSaid : Prop := Claim7.holds Tryz.pinned (.plain (OpenSpec.upto keeperNilSpec)) keeperNilUptoCard

/-- THE SECOND FORM's CARD OF 'wharfingerlaw20.KeeperPlays'. -/
def keeperPlaysUptoCard : Claim7 := { stood := { row := keeperPlaysUptoRow, standIns := [], harness := (true, "9b8bb9f80385b1bf9d95e4ab8c0f5c7d42b85636ac5a4e9c0e7c6bccb10d8189"), looks := true }, kinds := [], alts := [], laidByText := true, laidKinds := [.data, .data, .data, .data, .sentinel, .sentinel, .pinned], laidTests := true, laidLooks := .later }
def KeeperPlaysUptoCardSaid : Prop := Claim7.holds Tryz.pinned (.plain (OpenSpec.upto keeperPlaysSpec)) keeperPlaysUptoCard
end Rows
end Go.Proofs.YtjckakeolmbidaaGreatDoor
