/-
  DERIVED. GIVEN WITH THE SEED: THE CARDS: each row of YtkhmhgleglhcjaaDoorRows.lean that lists a variable, with what it lists TIED to the program's text (the seventh form; the later family's looks); each row that meets fmt, with fmt's text TOLD by the authors' own Lean function (tested against real Go, not proved from fmt's source: count such statements apart). THE CARD IS WHAT COUNTS. Prove the row's statement (the work); the ties are given (YtkhmhgleglhcjaaDoorTie.lean); close each card by the builder's one call (the guide's Derived/Test/ToyasCard.lean, 'card_holds'). Laid BY PROGRAM, IN A SANDBOX (cutbox-door.mjs). By AI agents, Wed Nov 11 2026. No macro, syntax, notation, axiom, sorry.
-/
import Derived.Test.YtkhmhgleglhcjaaDoorRows
import GoSem.ClaimSeven
namespace Go.Proofs.YtkhmhgleglhcjaaDoor
namespace Rows

/-- THE TIED CARD OF 'wharfingerlaw3.EntryBack'. -/
def entryBackCard : Claim7 := { stood := { row := entryBackRow, standIns := [], harness := (true, "733692188bfe34407960a9b3639a6693bcf14739db20ca44de396caa6f49f3d8"), looks := true }, kinds := [], alts := [], laidByText := true, laidKinds := [.data, .data, .data, .data, .sentinel, .sentinel, .pinned], laidTests := true, laidLooks := .later }
def EntryBackCardSaid : Prop := Claim7.holds Tryd.pinned (.plain (OpenSpec.ofChange entryBackSpec)) entryBackCard

/-- THE TIED CARD OF 'wharfingerlaw3.EntryTorn'. -/
def entryTornCard : Claim7 := { stood := { row := entryTornRow, standIns := [], harness := (true, "733692188bfe34407960a9b3639a6693bcf14739db20ca44de396caa6f49f3d8"), looks := true }, kinds := [], alts := [], laidByText := true, laidKinds := [.data, .data, .data, .data, .sentinel, .sentinel, .pinned], laidTests := true, laidLooks := .later }
def EntryTornCardSaid : Prop := Claim7.holds Tryd.pinned (.plain (OpenSpec.ofChange entryTornSpec)) entryTornCard

/-- THE TIED CARD OF 'wharfingerlaw3.EntryWords'. -/
def entryWordsCard : Claim7 := { stood := { row := entryWordsRow, standIns := [], harness := (true, "733692188bfe34407960a9b3639a6693bcf14739db20ca44de396caa6f49f3d8"), looks := true }, kinds := [], alts := [], laidByText := true, laidKinds := [.data, .data, .data, .data, .sentinel, .sentinel, .pinned], laidTests := true, laidLooks := .later }
def EntryWordsCardSaid : Prop := Claim7.holds Tryd.pinned (.plain (OpenSpec.ofChange entryWordsSpec)) entryWordsCard

/-- THE TIED CARD OF 'wharfingerlaw3.EntryForms'. -/
def entryFormsCard : Claim7 := { stood := { row := entryFormsRow, standIns := [], harness := (true, "733692188bfe34407960a9b3639a6693bcf14739db20ca44de396caa6f49f3d8"), looks := true }, kinds := [], alts := [], laidByText := true, laidKinds := [.data, .data, .data, .data, .sentinel, .sentinel, .pinned], laidTests := true, laidLooks := .later }
def EntryFormsCardSaid : Prop := Claim7.holds Tryd.pinned (.plain (OpenSpec.ofChange entryFormsSpec)) entryFormsCard

/-- THE TIED CARD OF 'wharfingerlaw3.EntryOne'. -/
def entryOneCard : Claim7 := { stood := { row := entryOneRow, standIns := [], harness := (true, "733692188bfe34407960a9b3639a6693bcf14739db20ca44de396caa6f49f3d8"), looks := true }, kinds := [], alts := [], laidByText := true, laidKinds := [.data, .data, .data, .data, .sentinel, .sentinel, .pinned], laidTests := true, laidLooks := .later }
def EntryOneCardSaid : Prop := Claim7.holds Tryd.pinned (.plain (OpenSpec.ofChange entryOneSpec)) entryOneCard

/-- THE TIED CARD OF 'wharfingerlaw21.ShipperNil'. -/
def shipperNilCard : Claim7 := { stood := { row := shipperNilRow, standIns := [], harness := (true, "733692188bfe34407960a9b3639a6693bcf14739db20ca44de396caa6f49f3d8"), looks := true }, kinds := [], alts := [], laidByText := true, laidKinds := [.data, .data, .data, .data, .sentinel, .sentinel, .pinned], laidTests := true, laidLooks := .later }
def ShipperNilCardSaid : Prop := Claim7.holds Tryd.pinned (.plain (OpenSpec.ofChange shipperNilSpec)) shipperNilCard

/-- THE TIED CARD OF 'wharfingerlaw21.ShipperOnce'. -/
def shipperOnceCard : Claim7 := { stood := { row := shipperOnceRow, standIns := [], harness := (true, "733692188bfe34407960a9b3639a6693bcf14739db20ca44de396caa6f49f3d8"), looks := true }, kinds := [], alts := [], laidByText := true, laidKinds := [.data, .data, .data, .data, .sentinel, .sentinel, .pinned], laidTests := true, laidLooks := .later }
def ShipperOnceCardSaid : Prop := Claim7.holds Tryd.pinned (.plain (OpenSpec.ofChange shipperOnceSpec)) shipperOnceCard

/-- THE TIED CARD OF 'wharfingerlaw19.ServiceNil'. -/
def serviceNilCard : Claim7 := { stood := { row := serviceNilRow, standIns := [], harness := (true, "733692188bfe34407960a9b3639a6693bcf14739db20ca44de396caa6f49f3d8"), looks := true }, kinds := [], alts := [], laidByText := true, laidKinds := [.data, .data, .data, .data, .sentinel, .sentinel, .pinned], laidTests := true, laidLooks := .later }
def ServiceNilCardSaid : Prop := Claim7.holds Tryd.pinned (.plain (OpenSpec.ofChange serviceNilSpec)) serviceNilCard

/-- THE TIED CARD OF 'wharfingerlaw19.ServiceLasts'. -/
def serviceLastsCard : Claim7 := { stood := { row := serviceLastsRow, standIns := [], harness := (true, "733692188bfe34407960a9b3639a6693bcf14739db20ca44de396caa6f49f3d8"), looks := true }, kinds := [], alts := [], laidByText := true, laidKinds := [.data, .data, .data, .data, .sentinel, .sentinel, .pinned], laidTests := true, laidLooks := .later }
def ServiceLastsCardSaid : Prop := Claim7.holds Tryd.pinned (.plain (OpenSpec.ofChange serviceLastsSpec)) serviceLastsCard

/-- THE TIED CARD OF 'wharfingerlaw19.ServiceOrders'. -/
def serviceOrdersCard : Claim7 := { stood := { row := serviceOrdersRow, standIns := [], harness := (true, "733692188bfe34407960a9b3639a6693bcf14739db20ca44de396caa6f49f3d8"), looks := true }, kinds := [], alts := [], laidByText := true, laidKinds := [.data, .data, .data, .data, .sentinel, .sentinel, .pinned], laidTests := true, laidLooks := .later }
def ServiceOrdersCardSaid : Prop := Claim7.holds Tryd.pinned (.plain (OpenSpec.ofChange serviceOrdersSpec)) serviceOrdersCard

/-- THE SECOND FORM's CARD OF 'wharfingerlaw3.EntryBack'. -/
def entryBackUptoCard : Claim7 := { stood := { row := entryBackUptoRow, standIns := [], harness := (true, "733692188bfe34407960a9b3639a6693bcf14739db20ca44de396caa6f49f3d8"), looks := true }, kinds := [], alts := [], laidByText := true, laidKinds := [.data, .data, .data, .data, .sentinel, .sentinel, .pinned], laidTests := true, laidLooks := .later }
def EntryBackUptoCardSaid : Prop := Claim7.holds Tryd.pinned (.plain (OpenSpec.upto entryBackSpec)) entryBackUptoCard

/-- THE SECOND FORM's CARD OF 'wharfingerlaw3.EntryTorn'. -/
def entryTornUptoCard : Claim7 := { stood := { row := entryTornUptoRow, standIns := [], harness := (true, "733692188bfe34407960a9b3639a6693bcf14739db20ca44de396caa6f49f3d8"), looks := true }, kinds := [], alts := [], laidByText := true, laidKinds := [.data, .data, .data, .data, .sentinel, .sentinel, .pinned], laidTests := true, laidLooks := .later }
def EntryTornUptoCardSaid : Prop := Claim7.holds Tryd.pinned (.plain (OpenSpec.upto entryTornSpec)) entryTornUptoCard

/-- THE SECOND FORM's CARD OF 'wharfingerlaw3.EntryWords'. -/
def entryWordsUptoCard : Claim7 := { stood := { row := entryWordsUptoRow, standIns := [], harness := (true, "733692188bfe34407960a9b3639a6693bcf14739db20ca44de396caa6f49f3d8"), looks := true }, kinds := [], alts := [], laidByText := true, laidKinds := [.data, .data, .data, .data, .sentinel, .sentinel, .pinned], laidTests := true, laidLooks := .later }
def EntryWordsUptoCardSaid : Prop := Claim7.holds Tryd.pinned (.plain (OpenSpec.upto entryWordsSpec)) entryWordsUptoCard

/-- THE SECOND FORM's CARD OF 'wharfingerlaw3.EntryForms'. -/
def entryFormsUptoCard : Claim7 := { stood := { row := entryFormsUptoRow, standIns := [], harness := (true, "733692188bfe34407960a9b3639a6693bcf14739db20ca44de396caa6f49f3d8"), looks := true }, kinds := [], alts := [], laidByText := true, laidKinds := [.data, .data, .data, .data, .sentinel, .sentinel, .pinned], laidTests := true, laidLooks := .later }
def EntryFormsUptoCardSaid : Prop := Claim7.holds Tryd.pinned (.plain (OpenSpec.upto entryFormsSpec)) entryFormsUptoCard

/-- THE SECOND FORM's CARD OF 'wharfingerlaw3.EntryOne'. -/
def entryOneUptoCard : Claim7 := { stood := { row := entryOneUptoRow, standIns := [], harness := (true, "733692188bfe34407960a9b3639a6693bcf14739db20ca44de396caa6f49f3d8"), looks := true }, kinds := [], alts := [], laidByText := true, laidKinds := [.data, .data, .data, .data, .sentinel, .sentinel, .pinned], laidTests := true, laidLooks := .later }
def EntryOneUptoCardSaid : Prop := Claim7.holds Tryd.pinned (.plain (OpenSpec.upto entryOneSpec)) entryOneUptoCard

/-- THE SECOND FORM's CARD OF 'wharfingerlaw21.ShipperNil'. -/
def shipperNilUptoCard : Claim7 := { stood := { row := shipperNilUptoRow, standIns := [], harness := (true, "733692188bfe34407960a9b3639a6693bcf14739db20ca44de396caa6f49f3d8"), looks := true }, kinds := [], alts := [], laidByText := true, laidKinds := [.data, .data, .data, .data, .sentinel, .sentinel, .pinned], laidTests := true, laidLooks := .later }
def ShipperNilUptoCardSaid : Prop := Claim7.holds Tryd.pinned (.plain (OpenSpec.upto shipperNilSpec)) shipperNilUptoCard

/-- THE SECOND FORM's CARD OF 'wharfingerlaw21.ShipperOnce'. -/
def shipperOnceUptoCard : Claim7 := { stood := { row := shipperOnceUptoRow, standIns := [], harness := (true, "733692188bfe34407960a9b3639a6693bcf14739db20ca44de396caa6f49f3d8"), looks := true }, kinds := [], alts := [], laidByText := true, laidKinds := [.data, .data, .data, .data, .sentinel, .sentinel, .pinned], laidTests := true, laidLooks := .later }
def ShipperOnceUptoCardSaid : Prop := Claim7.holds Tryd.pinned (.plain (OpenSpec.upto shipperOnceSpec)) shipperOnceUptoCard

/-- THE SECOND FORM's CARD OF 'wharfingerlaw19.ServiceNil'. -/
def serviceNilUptoCard : Claim7 := { stood := { row := serviceNilUptoRow, standIns := [], harness := (true, "733692188bfe34407960a9b3639a6693bcf14739db20ca44de396caa6f49f3d8"), looks := true }, kinds := [], alts := [], laidByText := true, laidKinds := [.data, .data, .data, .data, .sentinel, .sentinel, .pinned], laidTests := true, laidLooks := .later }
def ServiceNilUptoCardSaid : Prop := Claim7.holds Tryd.pinned (.plain (OpenSpec.upto serviceNilSpec)) serviceNilUptoCard

/-- THE SECOND FORM's CARD OF 'wharfingerlaw19.ServiceLasts'. -/
def serviceLastsUptoCard : Claim7 := { stood := { row := serviceLastsUptoRow, standIns := [], harness := (true, "733692188bfe34407960a9b3639a6693bcf14739db20ca44de396caa6f49f3d8"), looks := true }, kinds := [], alts := [], laidByText := true, laidKinds := [.data, .data, .data, .data, .sentinel, .sentinel, .pinned], laidTests := true, laidLooks := .later }
def ServiceLastsUptoCardSaid : Prop := Claim7.holds Tryd.pinned (.plain (OpenSpec.upto serviceLastsSpec)) serviceLastsUptoCard

/-- THE SECOND FORM's CARD OF 'wharfingerlaw19.ServiceOrders'. -/
def serviceOrdersUptoCard : Claim7 := { stood := { row := serviceOrdersUptoRow, standIns := [], harness := (true, "733692188bfe34407960a9b3639a6693bcf14739db20ca44de396caa6f49f3d8"), looks := true }, kinds := [], alts := [], laidByText := true, laidKinds := [.data, .data, .data, .data, .sentinel, .sentinel, .pinned], laidTests := true, laidLooks := .later }
def ServiceOrdersUptoCardSaid : Prop := Claim7.holds Tryd.pinned (.plain (OpenSpec.upto serviceOrdersSpec)) serviceOrdersUptoCard
end Rows
end Go.Proofs.YtkhmhgleglhcjaaDoor
