/-
  DERIVED. GIVEN WITH THE SEED: THE CARDS: each row of YteppbgalecjlfaaDoorRows.lean that lists a variable, with what it lists TIED to the program's text (the seventh form; the later family's looks); each row that meets fmt, with fmt's text TOLD by the authors' own Lean function (tested against real Go, not proved from fmt's source: count such statements apart). THE CARD IS WHAT COUNTS. Prove the row's statement (the work); the ties are given (YteppbgalecjlfaaDoorTie.lean); close each card by the builder's one call (the guide's Derived/Test/ToyasCard.lean, 'card_holds'). Laid BY PROGRAM, IN A SANDBOX (cutbox-door.mjs). By AI agents, Wed Nov 11 2026. No macro, syntax, notation, axiom, sorry.
-/
import Derived.Test.YteppbgalecjlfaaDoorRows
import GoSem.ClaimSeven
namespace Go.Proofs.YteppbgalecjlfaaDoor
namespace Rows

/-- THE TIED CARD OF 'wharfingerlaw4.JournalRoom'. -/
def journalRoomCard : Claim7 := { stood := { row := journalRoomRow, standIns := [], harness := (true, "613cc421b8a0d26a72dcd9f371b73842a1806f1eee42b8385b425d18d67174b2"), looks := true }, kinds := [], alts := [], laidByText := true, laidKinds := [.data, .data, .data, .data, .sentinel, .sentinel, .pinned], laidTests := true, laidLooks := .later }
def JournalRoomCardSaid : Prop := Claim7.holds Tryd.pinned (.plain (OpenSpec.ofChange journalRoomSpec)) journalRoomCard

/-- THE TIED CARD OF 'wharfingerlaw4.JournalAgain'. -/
def journalAgainCard : Claim7 := { stood := { row := journalAgainRow, standIns := [], harness := (true, "613cc421b8a0d26a72dcd9f371b73842a1806f1eee42b8385b425d18d67174b2"), looks := true }, kinds := [], alts := [], laidByText := true, laidKinds := [.data, .data, .data, .data, .sentinel, .sentinel, .pinned], laidTests := true, laidLooks := .later }
def JournalAgainCardSaid : Prop := Claim7.holds Tryd.pinned (.plain (OpenSpec.ofChange journalAgainSpec)) journalAgainCard

/-- THE TIED CARD OF 'wharfingerlaw4.JournalTold'. -/
def journalToldCard : Claim7 := { stood := { row := journalToldRow, standIns := [], harness := (true, "613cc421b8a0d26a72dcd9f371b73842a1806f1eee42b8385b425d18d67174b2"), looks := true }, kinds := [], alts := [], laidByText := true, laidKinds := [.data, .data, .data, .data, .sentinel, .sentinel, .pinned], laidTests := true, laidLooks := .later }
def JournalToldCardSaid : Prop := Claim7.holds Tryd.pinned (.plain (OpenSpec.ofChange journalToldSpec)) journalToldCard

/-- THE TIED CARD OF 'wharfingerlaw4.JournalPlays'. -/
def journalPlaysCard : Claim7 := { stood := { row := journalPlaysRow, standIns := [], harness := (true, "613cc421b8a0d26a72dcd9f371b73842a1806f1eee42b8385b425d18d67174b2"), looks := true }, kinds := [], alts := [], laidByText := true, laidKinds := [.data, .data, .data, .data, .sentinel, .sentinel, .pinned], laidTests := true, laidLooks := .later }
def JournalPlaysCardSaid : Prop := Claim7.holds Tryd.pinned (.plain (OpenSpec.ofChange journalPlaysSpec)) journalPlaysCard

/-- THE TIED CARD OF 'wharfingerlaw4.JournalNil'. -/
def journalNilCard : Claim7 := { stood := { row := journalNilRow, standIns := [], harness := (true, "613cc421b8a0d26a72dcd9f371b73842a1806f1eee42b8385b425d18d67174b2"), looks := true }, kinds := [], alts := [], laidByText := true, laidKinds := [.data, .data, .data, .data, .sentinel, .sentinel, .pinned], laidTests := true, laidLooks := .later }
def JournalNilCardSaid : Prop := Claim7.holds Tryd.pinned (.plain (OpenSpec.ofChange journalNilSpec)) journalNilCard

/-- THE TIED CARD OF 'wharfingerlaw4.JournalSure'. -/
def journalSureCard : Claim7 := { stood := { row := journalSureRow, standIns := [], harness := (true, "613cc421b8a0d26a72dcd9f371b73842a1806f1eee42b8385b425d18d67174b2"), looks := true }, kinds := [], alts := [], laidByText := true, laidKinds := [.data, .data, .data, .data, .sentinel, .sentinel, .pinned], laidTests := true, laidLooks := .later }
def JournalSureCardSaid : Prop := Claim7.holds Tryd.pinned (.plain (OpenSpec.ofChange journalSureSpec)) journalSureCard

/-- THE SECOND FORM's CARD OF 'wharfingerlaw4.JournalRoom'. -/
def journalRoomUptoCard : Claim7 := { stood := { row := journalRoomUptoRow, standIns := [], harness := (true, "613cc421b8a0d26a72dcd9f371b73842a1806f1eee42b8385b425d18d67174b2"), looks := true }, kinds := [], alts := [], laidByText := true, laidKinds := [.data, .data, .data, .data, .sentinel, .sentinel, .pinned], laidTests := true, laidLooks := .later }
def JournalRoomUptoCardSaid : Prop := Claim7.holds Tryd.pinned (.plain (OpenSpec.upto journalRoomSpec)) journalRoomUptoCard

/-- THE SECOND FORM's CARD OF 'wharfingerlaw4.JournalAgain'. -/
def journalAgainUptoCard : Claim7 := { stood := { row := journalAgainUptoRow, standIns := [], harness := (true, "613cc421b8a0d26a72dcd9f371b73842a1806f1eee42b8385b425d18d67174b2"), looks := true }, kinds := [], alts := [], laidByText := true, laidKinds := [.data, .data, .data, .data, .sentinel, .sentinel, .pinned], laidTests := true, laidLooks := .later }
def JournalAgainUptoCardSaid : Prop := Claim7.holds Tryd.pinned (.plain (OpenSpec.upto journalAgainSpec)) journalAgainUptoCard

/-- THE SECOND FORM's CARD OF 'wharfingerlaw4.JournalTold'. -/
def journalToldUptoCard : Claim7 := { stood := { row := journalToldUptoRow, standIns := [], harness := (true, "613cc421b8a0d26a72dcd9f371b73842a1806f1eee42b8385b425d18d67174b2"), looks := true }, kinds := [], alts := [], laidByText := true, laidKinds := [.data, .data, .data, .data, .sentinel, .sentinel, .pinned], laidTests := true, laidLooks := .later }
def JournalToldUptoCardSaid : Prop := Claim7.holds Tryd.pinned (.plain (OpenSpec.upto journalToldSpec)) journalToldUptoCard

/-- THE SECOND FORM's CARD OF 'wharfingerlaw4.JournalPlays'. -/
def journalPlaysUptoCard : Claim7 := { stood := { row := journalPlaysUptoRow, standIns := [], harness := (true, "613cc421b8a0d26a72dcd9f371b73842a1806f1eee42b8385b425d18d67174b2"), looks := true }, kinds := [], alts := [], laidByText := true, laidKinds := [.data, .data, .data, .data, .sentinel, .sentinel, .pinned], laidTests := true, laidLooks := .later }
def JournalPlaysUptoCardSaid : Prop := Claim7.holds Tryd.pinned (.plain (OpenSpec.upto journalPlaysSpec)) journalPlaysUptoCard

/-- THE SECOND FORM's CARD OF 'wharfingerlaw4.JournalNil'. -/
def journalNilUptoCard : Claim7 := { stood := { row := journalNilUptoRow, standIns := [], harness := (true, "613cc421b8a0d26a72dcd9f371b73842a1806f1eee42b8385b425d18d67174b2"), looks := true }, kinds := [], alts := [], laidByText := true, laidKinds := [.data, .data, .data, .data, .sentinel, .sentinel, .pinned], laidTests := true, laidLooks := .later }
def JournalNilUptoCardSaid : Prop := Claim7.holds Tryd.pinned (.plain (OpenSpec.upto journalNilSpec)) journalNilUptoCard

/-- THE SECOND FORM's CARD OF 'wharfingerlaw4.JournalSure'. -/
def journalSureUptoCard : Claim7 := { stood := { row := journalSureUptoRow, standIns := [], harness := (true, "613cc421b8a0d26a72dcd9f371b73842a1806f1eee42b8385b425d18d67174b2"), looks := true }, kinds := [], alts := [], laidByText := true, laidKinds := [.data, .data, .data, .data, .sentinel, .sentinel, .pinned], laidTests := true, laidLooks := .later }
def JournalSureUptoCardSaid : Prop := Claim7.holds Tryd.pinned (.plain (OpenSpec.upto journalSureSpec)) journalSureUptoCard
end Rows
end Go.Proofs.YteppbgalecjlfaaDoor
