/-
  DERIVED. GIVEN WITH THE SEED: THE CARDS: each row of YtjckakeolmbidaaDoorRows.lean that lists a variable, with what it lists TIED to the program's text (the seventh form; the later family's looks); each row that meets fmt, with fmt's text TOLD by the authors' own Lean function (tested against real Go, not proved from fmt's source: count such statements apart). THE CARD IS WHAT COUNTS. Prove the row's statement (the work); the ties are given (YtjckakeolmbidaaDoorTie.lean); close each card by the builder's one call (the guide's Derived/Test/ToyasCard.lean, 'card_holds'). Laid BY PROGRAM, IN A SANDBOX (cutbox-door.mjs). By AI agents, Wed Nov 11 2026. No macro, syntax, notation, axiom, sorry.
-/
import Derived.Test.YtjckakeolmbidaaDoorRows
import GoSem.ClaimSeven
namespace Go.Proofs.YtjckakeolmbidaaDoor
namespace Rows

/-- THE TIED CARD OF 'wharfingerlaw20.KeeperAsks'. -/
def keeperAsksCard : Claim7 := { stood := { row := keeperAsksRow, standIns := [], harness := (true, "eaa786d3ab033339d9131f4d7a146f7827052e2aec14c9646ca3352adaac56b3"), looks := true }, kinds := [], alts := [], laidByText := true, laidKinds := [.data, .data, .data], laidTests := true, laidLooks := .later }
def KeeperAsksCardSaid : Prop := Claim7.holds Tryd.pinned (.plain (OpenSpec.ofChange keeperAsksSpec)) keeperAsksCard

/-- THE TIED CARD OF 'wharfingerlaw20.KeeperFull'. -/
def keeperFullCard : Claim7 := { stood := { row := keeperFullRow, standIns := [], harness := (true, "eaa786d3ab033339d9131f4d7a146f7827052e2aec14c9646ca3352adaac56b3"), looks := true }, kinds := [], alts := [], laidByText := true, laidKinds := [.data, .data, .data], laidTests := true, laidLooks := .later }
def KeeperFullCardSaid : Prop := Claim7.holds Tryd.pinned (.plain (OpenSpec.ofChange keeperFullSpec)) keeperFullCard

/-- THE TIED CARD OF 'wharfingerlaw21.ShipperOnce'. -/
def shipperOnceCard : Claim7 := { stood := { row := shipperOnceRow, standIns := [], harness := (true, "eaa786d3ab033339d9131f4d7a146f7827052e2aec14c9646ca3352adaac56b3"), looks := true }, kinds := [], alts := [], laidByText := true, laidKinds := [.data, .data, .data, .data, .sentinel, .sentinel, .pinned], laidTests := true, laidLooks := .later }
def ShipperOnceCardSaid : Prop := Claim7.holds Tryd.pinned (.plain (OpenSpec.ofChange shipperOnceSpec)) shipperOnceCard

/-- THE TIED CARD OF 'wharfingerlaw19.ServiceLasts'. -/
def serviceLastsCard : Claim7 := { stood := { row := serviceLastsRow, standIns := [], harness := (true, "eaa786d3ab033339d9131f4d7a146f7827052e2aec14c9646ca3352adaac56b3"), looks := true }, kinds := [], alts := [], laidByText := true, laidKinds := [.data, .data, .data, .data, .sentinel, .sentinel, .pinned], laidTests := true, laidLooks := .later }
def ServiceLastsCardSaid : Prop := Claim7.holds Tryd.pinned (.plain (OpenSpec.ofChange serviceLastsSpec)) serviceLastsCard

/-- THE TIED CARD OF 'wharfingerlaw19.ServiceOrders'. -/
def serviceOrdersCard : Claim7 := { stood := { row := serviceOrdersRow, standIns := [], harness := (true, "eaa786d3ab033339d9131f4d7a146f7827052e2aec14c9646ca3352adaac56b3"), looks := true }, kinds := [], alts := [], laidByText := true, laidKinds := [.data, .data, .data, .data, .sentinel, .sentinel, .pinned], laidTests := true, laidLooks := .later }
def ServiceOrdersCardSaid : Prop := Claim7.holds Tryd.pinned (.plain (OpenSpec.ofChange serviceOrdersSpec)) serviceOrdersCard

/-- THE SECOND FORM's CARD OF 'wharfingerlaw20.KeeperAsks'. -/
def keeperAsksUptoCard : Claim7 := { stood := { row := keeperAsksUptoRow, standIns := [], harness := (true, "eaa786d3ab033339d9131f4d7a146f7827052e2aec14c9646ca3352adaac56b3"), looks := true }, kinds := [], alts := [], laidByText := true, laidKinds := [.data, .data, .data], laidTests := true, laidLooks := .later }
def KeeperAsksUptoCardSaid : Prop := Claim7.holds Tryd.pinned (.plain (OpenSpec.upto keeperAsksSpec)) keeperAsksUptoCard

/-- THE SECOND FORM's CARD OF 'wharfingerlaw20.KeeperFull'. -/
def keeperFullUptoCard : Claim7 := { stood := { row := keeperFullUptoRow, standIns := [], harness := (true, "eaa786d3ab033339d9131f4d7a146f7827052e2aec14c9646ca3352adaac56b3"), looks := true }, kinds := [], alts := [], laidByText := true, laidKinds := [.data, .data, .data], laidTests := true, laidLooks := .later }
def KeeperFullUptoCardSaid : Prop := Claim7.holds Tryd.pinned (.plain (OpenSpec.upto keeperFullSpec)) keeperFullUptoCard

/-- THE SECOND FORM's CARD OF 'wharfingerlaw21.ShipperOnce'. -/
def shipperOnceUptoCard : Claim7 := { stood := { row := shipperOnceUptoRow, standIns := [], harness := (true, "eaa786d3ab033339d9131f4d7a146f7827052e2aec14c9646ca3352adaac56b3"), looks := true }, kinds := [], alts := [], laidByText := true, laidKinds := [.data, .data, .data, .data, .sentinel, .sentinel, .pinned], laidTests := true, laidLooks := .later }
def ShipperOnceUptoCardSaid : Prop := Claim7.holds Tryd.pinned (.plain (OpenSpec.upto shipperOnceSpec)) shipperOnceUptoCard

/-- THE SECOND FORM's CARD OF 'wharfingerlaw19.ServiceLasts'. -/
def serviceLastsUptoCard : Claim7 := { stood := { row := serviceLastsUptoRow, standIns := [], harness := (true, "eaa786d3ab033339d9131f4d7a146f7827052e2aec14c9646ca3352adaac56b3"), looks := true }, kinds := [], alts := [], laidByText := true, laidKinds := [.data, .data, .data, .data, .sentinel, .sentinel, .pinned], laidTests := true, laidLooks := .later }
def ServiceLastsUptoCardSaid : Prop := Claim7.holds Tryd.pinned (.plain (OpenSpec.upto serviceLastsSpec)) serviceLastsUptoCard

/-- THE SECOND FORM's CARD OF 'wharfingerlaw19.ServiceOrders'. -/
def serviceOrdersUptoCard : Claim7 := { stood := { row := serviceOrdersUptoRow, standIns := [], harness := (true, "eaa786d3ab033339d9131f4d7a146f7827052e2aec14c9646ca3352adaac56b3"), looks := true }, kinds := [], alts := [], laidByText := true, laidKinds := [.data, .data, .data, .data, .sentinel, .sentinel, .pinned], laidTests := true, laidLooks := .later }
def ServiceOrdersUptoCardSaid : Prop := Claim7.holds Tryd.pinned (.plain (OpenSpec.upto serviceOrdersSpec)) serviceOrdersUptoCard
end Rows
end Go.Proofs.YtjckakeolmbidaaDoor
