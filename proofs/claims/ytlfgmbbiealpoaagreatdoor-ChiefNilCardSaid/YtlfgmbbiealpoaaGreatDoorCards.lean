/-
  DERIVED. GIVEN WITH THE SEED: THE CARDS: each row of YtlfgmbbiealpoaaGreatDoorRows.lean that lists a variable, with what it lists TIED to the program's text (the seventh form; the later family's looks); each row that meets fmt, with fmt's text TOLD by the authors' own Lean function (tested against real Go, not proved from fmt's source: count such statements apart). THE CARD IS WHAT COUNTS. Prove the row's statement (the work); the ties are given (YtlfgmbbiealpoaaGreatDoorTie.lean); close each card by the builder's one call (the guide's Derived/Test/ToyasCard.lean, 'card_holds'). Laid BY PROGRAM, IN A SANDBOX (cutbox-door.mjs). By AI agents, Wed Nov 11 2026. No macro, syntax, notation, axiom, sorry.
-/
import Derived.Test.YtlfgmbbiealpoaaGreatDoorRows
import GoSem.ClaimSeven
namespace Go.Proofs.YtlfgmbbiealpoaaGreatDoor
namespace Rows

/-- THE TIED CARD OF 'wharfingerlaw24.DeskNil'. -/
def deskNilCard : Claim7 := { stood := { row := deskNilRow, standIns := [], harness := (true, "2d15c1594fddb50522b462fb2d7dec92efa0eb3f725aea0f564a7e287067d91b"), looks := true }, kinds := [], alts := [], laidByText := true, laidKinds := [.data, .data, .data], laidTests := true, laidLooks := .later }
def DeskNilCardSaid : Prop := Claim7.holds Tryz.pinned (.plain (OpenSpec.ofChange deskNilSpec)) deskNilCard

/-- THE TIED CARD OF 'wharfingerlaw24.DeskWords'. -/
def deskWordsCard : Claim7 := { stood := { row := deskWordsRow, standIns := [], harness := (true, "2d15c1594fddb50522b462fb2d7dec92efa0eb3f725aea0f564a7e287067d91b"), looks := true }, kinds := [], alts := [], laidByText := true, laidKinds := [.data, .data, .data], laidTests := true, laidLooks := .later }
def DeskWordsCardSaid : Prop := Claim7.holds Tryz.pinned (.plain (OpenSpec.ofChange deskWordsSpec)) deskWordsCard

/-- THE TIED CARD OF 'wharfingerlaw24.DeskRefuses'. -/
def deskRefusesCard : Claim7 := { stood := { row := deskRefusesRow, standIns := [], harness := (true, "2d15c1594fddb50522b462fb2d7dec92efa0eb3f725aea0f564a7e287067d91b"), looks := true }, kinds := [], alts := [], laidByText := true, laidKinds := [.data, .data, .data], laidTests := true, laidLooks := .later }
def DeskRefusesCardSaid : Prop := Claim7.holds Tryz.pinned (.plain (OpenSpec.ofChange deskRefusesSpec)) deskRefusesCard

/-- THE TIED CARD OF 'wharfingerlaw24.DeskLets'. -/
def deskLetsCard : Claim7 := { stood := { row := deskLetsRow, standIns := [], harness := (true, "2d15c1594fddb50522b462fb2d7dec92efa0eb3f725aea0f564a7e287067d91b"), looks := true }, kinds := [], alts := [], laidByText := true, laidKinds := [.data, .data, .data], laidTests := true, laidLooks := .later }
def DeskLetsCardSaid : Prop := Claim7.holds Tryz.pinned (.plain (OpenSpec.ofChange deskLetsSpec)) deskLetsCard

/-- THE TIED CARD OF 'wharfingerlaw24.DeskDamage'. -/
def deskDamageCard : Claim7 := { stood := { row := deskDamageRow, standIns := [], harness := (true, "2d15c1594fddb50522b462fb2d7dec92efa0eb3f725aea0f564a7e287067d91b"), looks := true }, kinds := [], alts := [], laidByText := true, laidKinds := [.data, .data, .data, .data, .sentinel, .sentinel, .pinned], laidTests := true, laidLooks := .later }
def DeskDamageCardSaid : Prop := Claim7.holds Tryz.pinned (.plain (OpenSpec.ofChange deskDamageSpec)) deskDamageCard

/-- THE TIED CARD OF 'wharfingerlaw22.ChiefNil'. -/
def chiefNilCard : Claim7 := { stood := { row := chiefNilRow, standIns := [], harness := (true, "2d15c1594fddb50522b462fb2d7dec92efa0eb3f725aea0f564a7e287067d91b"), looks := true }, kinds := [], alts := [], laidByText := true, laidKinds := [.data, .data, .data, .data, .sentinel, .sentinel, .pinned], laidTests := true, laidLooks := .later }
def ChiefNilCardSaid : Prop := Claim7.holds Tryz.pinned (.plain (OpenSpec.ofChange chiefNilSpec)) chiefNilCard

/-- THE TIED CARD OF 'wharfingerlaw22.ChiefLasts'. -/
def chiefLastsCard : Claim7 := { stood := { row := chiefLastsRow, standIns := [], harness := (true, "2d15c1594fddb50522b462fb2d7dec92efa0eb3f725aea0f564a7e287067d91b"), looks := true }, kinds := [], alts := [], laidByText := true, laidKinds := [.data, .data, .data, .data, .sentinel, .sentinel, .pinned], laidTests := true, laidLooks := .later }
def ChiefLastsCardSaid : Prop := Claim7.holds Tryz.pinned (.plain (OpenSpec.ofChange chiefLastsSpec)) chiefLastsCard

/-- THE TIED CARD OF 'wharfingerlaw25.HarbourNil'. -/
def harbourNilCard : Claim7 := { stood := { row := harbourNilRow, standIns := [], harness := (true, "2d15c1594fddb50522b462fb2d7dec92efa0eb3f725aea0f564a7e287067d91b"), looks := true }, kinds := [], alts := [], laidByText := true, laidKinds := [.data, .data, .data], laidTests := true, laidLooks := .later }
def HarbourNilCardSaid : Prop := Claim7.holds Tryz.pinned (.plain (OpenSpec.ofChange harbourNilSpec)) harbourNilCard

/-- THE TIED CARD OF 'wharfingerlaw25.HarbourForces'. -/
def harbourForcesCard : Claim7 := { stood := { row := harbourForcesRow, standIns := [], harness := (true, "2d15c1594fddb50522b462fb2d7dec92efa0eb3f725aea0f564a7e287067d91b"), looks := true }, kinds := [], alts := [], laidByText := true, laidKinds := [.data, .data, .data], laidTests := true, laidLooks := .later }
def HarbourForcesCardSaid : Prop := Claim7.holds Tryz.pinned (.plain (OpenSpec.ofChange harbourForcesSpec)) harbourForcesCard

/-- THE TIED CARD OF 'wharfingerlaw26.AuditNil'. -/
def auditNilCard : Claim7 := { stood := { row := auditNilRow, standIns := [], harness := (true, "2d15c1594fddb50522b462fb2d7dec92efa0eb3f725aea0f564a7e287067d91b"), looks := true }, kinds := [], alts := [], laidByText := true, laidKinds := [.data, .data, .data], laidTests := true, laidLooks := .later }
def AuditNilCardSaid : Prop := Claim7.holds Tryz.pinned (.plain (OpenSpec.ofChange auditNilSpec)) auditNilCard

/-- THE TIED CARD OF 'wharfingerlaw26.AuditSums'. -/
def auditSumsCard : Claim7 := { stood := { row := auditSumsRow, standIns := [], harness := (true, "2d15c1594fddb50522b462fb2d7dec92efa0eb3f725aea0f564a7e287067d91b"), looks := true }, kinds := [], alts := [], laidByText := true, laidKinds := [.data, .data, .data], laidTests := true, laidLooks := .later }
def AuditSumsCardSaid : Prop := Claim7.holds Tryz.pinned (.plain (OpenSpec.ofChange auditSumsSpec)) auditSumsCard

/-- THE TIED CARD OF 'wharfingerlaw25.HarbourDown'. -/
def harbourDownCard : Claim7 := { stood := { row := harbourDownRow, standIns := [], harness := (true, "2d15c1594fddb50522b462fb2d7dec92efa0eb3f725aea0f564a7e287067d91b"), looks := true }, kinds := [], alts := [], laidByText := true, laidKinds := [.data, .data, .data], laidTests := true, laidLooks := .later }
def HarbourDownCardSaid : Prop := Claim7.holds Tryz.pinned (.plain (OpenSpec.ofChange harbourDownSpec)) harbourDownCard

/-- THE SECOND FORM's CARD OF 'wharfingerlaw24.DeskNil'. -/
def deskNilUptoCard : Claim7 := { stood := { row := deskNilUptoRow, standIns := [], harness := (true, "2d15c1594fddb50522b462fb2d7dec92efa0eb3f725aea0f564a7e287067d91b"), looks := true }, kinds := [], alts := [], laidByText := true, laidKinds := [.data, .data, .data], laidTests := true, laidLooks := .later }
def DeskNilUptoCardSaid : Prop := Claim7.holds Tryz.pinned (.plain (OpenSpec.upto deskNilSpec)) deskNilUptoCard

/-- THE SECOND FORM's CARD OF 'wharfingerlaw24.DeskWords'. -/
def deskWordsUptoCard : Claim7 := { stood := { row := deskWordsUptoRow, standIns := [], harness := (true, "2d15c1594fddb50522b462fb2d7dec92efa0eb3f725aea0f564a7e287067d91b"), looks := true }, kinds := [], alts := [], laidByText := true, laidKinds := [.data, .data, .data], laidTests := true, laidLooks := .later }
def DeskWordsUptoCardSaid : Prop := Claim7.holds Tryz.pinned (.plain (OpenSpec.upto deskWordsSpec)) deskWordsUptoCard

/-- THE SECOND FORM's CARD OF 'wharfingerlaw24.DeskRefuses'. -/
def deskRefusesUptoCard : Claim7 := { stood := { row := deskRefusesUptoRow, standIns := [], harness := (true, "2d15c1594fddb50522b462fb2d7dec92efa0eb3f725aea0f564a7e287067d91b"), looks := true }, kinds := [], alts := [], laidByText := true, laidKinds := [.data, .data, .data], laidTests := true, laidLooks := .later }
def DeskRefusesUptoCardSaid : Prop := Claim7.holds Tryz.pinned (.plain (OpenSpec.upto deskRefusesSpec)) deskRefusesUptoCard

/-- THE SECOND FORM's CARD OF 'wharfingerlaw24.DeskLets'. -/
def deskLetsUptoCard : Claim7 := { stood := { row := deskLetsUptoRow, standIns := [], harness := (true, "2d15c1594fddb50522b462fb2d7dec92efa0eb3f725aea0f564a7e287067d91b"), looks := true }, kinds := [], alts := [], laidByText := true, laidKinds := [.data, .data, .data], laidTests := true, laidLooks := .later }
def DeskLetsUptoCardSaid : Prop := Claim7.holds Tryz.pinned (.plain (OpenSpec.upto deskLetsSpec)) deskLetsUptoCard

/-- THE SECOND FORM's CARD OF 'wharfingerlaw24.DeskDamage'. -/
def deskDamageUptoCard : Claim7 := { stood := { row := deskDamageUptoRow, standIns := [], harness := (true, "2d15c1594fddb50522b462fb2d7dec92efa0eb3f725aea0f564a7e287067d91b"), looks := true }, kinds := [], alts := [], laidByText := true, laidKinds := [.data, .data, .data, .data, .sentinel, .sentinel, .pinned], laidTests := true, laidLooks := .later }
def DeskDamageUptoCardSaid : Prop := Claim7.holds Tryz.pinned (.plain (OpenSpec.upto deskDamageSpec)) deskDamageUptoCard

/-- THE SECOND FORM's CARD OF 'wharfingerlaw22.ChiefNil'. -/
def chiefNilUptoCard : Claim7 := { stood := { row := chiefNilUptoRow, standIns := [], harness := (true, "2d15c1594fddb50522b462fb2d7dec92efa0eb3f725aea0f564a7e287067d91b"), looks := true }, kinds := [], alts := [], laidByText := true, laidKinds := [.data, .data, .data, .data, .sentinel, .sentinel, .pinned], laidTests := true, laidLooks := .later }
def ChiefNilUptoCardSaid : Prop := Claim7.holds Tryz.pinned (.plain (OpenSpec.upto chiefNilSpec)) chiefNilUptoCard

/-- THE SECOND FORM's CARD OF 'wharfingerlaw22.ChiefLasts'. -/
def chiefLastsUptoCard : Claim7 := { stood := { row := chiefLastsUptoRow, standIns := [], harness := (true, "2d15c1594fddb50522b462fb2d7dec92efa0eb3f725aea0f564a7e287067d91b"), looks := true }, kinds := [], alts := [], laidByText := true, laidKinds := [.data, .data, .data, .data, .sentinel, .sentinel, .pinned], laidTests := true, laidLooks := .later }
def ChiefLastsUptoCardSaid : Prop := Claim7.holds Tryz.pinned (.plain (OpenSpec.upto chiefLastsSpec)) chiefLastsUptoCard

/-- THE SECOND FORM's CARD OF 'wharfingerlaw25.HarbourNil'. -/
def harbourNilUptoCard : Claim7 := { stood := { row := harbourNilUptoRow, standIns := [], harness := (true, "2d15c1594fddb50522b462fb2d7dec92efa0eb3f725aea0f564a7e287067d91b"), looks := true }, kinds := [], alts := [], laidByText := true, laidKinds := [.data, .data, .data], laidTests := true, laidLooks := .later }
def HarbourNilUptoCardSaid : Prop := Claim7.holds Tryz.pinned (.plain (OpenSpec.upto harbourNilSpec)) harbourNilUptoCard

/-- THE SECOND FORM's CARD OF 'wharfingerlaw25.HarbourForces'. -/
def harbourForcesUptoCard : Claim7 := { stood := { row := harbourForcesUptoRow, standIns := [], harness := (true, "2d15c1594fddb50522b462fb2d7dec92efa0eb3f725aea0f564a7e287067d91b"), looks := true }, kinds := [], alts := [], laidByText := true, laidKinds := [.data, .data, .data], laidTests := true, laidLooks := .later }
def HarbourForcesUptoCardSaid : Prop := Claim7.holds Tryz.pinned (.plain (OpenSpec.upto harbourForcesSpec)) harbourForcesUptoCard

/-- THE SECOND FORM's CARD OF 'wharfingerlaw26.AuditNil'. -/
def auditNilUptoCard : Claim7 := { stood := { row := auditNilUptoRow, standIns := [], harness := (true, "2d15c1594fddb50522b462fb2d7dec92efa0eb3f725aea0f564a7e287067d91b"), looks := true }, kinds := [], alts := [], laidByText := true, laidKinds := [.data, .data, .data], laidTests := true, laidLooks := .later }
def AuditNilUptoCardSaid : Prop := Claim7.holds Tryz.pinned (.plain (OpenSpec.upto auditNilSpec)) auditNilUptoCard

/-- THE SECOND FORM's CARD OF 'wharfingerlaw26.AuditSums'. -/
def auditSumsUptoCard : Claim7 := { stood := { row := auditSumsUptoRow, standIns := [], harness := (true, "2d15c1594fddb50522b462fb2d7dec92efa0eb3f725aea0f564a7e287067d91b"), looks := true }, kinds := [], alts := [], laidByText := true, laidKinds := [.data, .data, .data], laidTests := true, laidLooks := .later }
def AuditSumsUptoCardSaid : Prop := Claim7.holds Tryz.pinned (.plain (OpenSpec.upto auditSumsSpec)) auditSumsUptoCard

/-- THE SECOND FORM's CARD OF 'wharfingerlaw25.HarbourDown'. -/
def harbourDownUptoCard : Claim7 := { stood := { row := harbourDownUptoRow, standIns := [], harness := (true, "2d15c1594fddb50522b462fb2d7dec92efa0eb3f725aea0f564a7e287067d91b"), looks := true }, kinds := [], alts := [], laidByText := true, laidKinds := [.data, .data, .data], laidTests := true, laidLooks := .later }
def HarbourDownUptoCardSaid : Prop := Claim7.holds Tryz.pinned (.plain (OpenSpec.upto harbourDownSpec)) harbourDownUptoCard
end Rows
end Go.Proofs.YtlfgmbbiealpoaaGreatDoor
