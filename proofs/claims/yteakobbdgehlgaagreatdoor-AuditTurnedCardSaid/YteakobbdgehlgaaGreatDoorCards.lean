/-
  DERIVED. GIVEN WITH THE SEED: THE CARDS: each row of YteakobbdgehlgaaGreatDoorRows.lean that lists a variable, with what it lists TIED to the program's text (the seventh form; the later family's looks); each row that meets fmt, with fmt's text TOLD by the authors' own Lean function (tested against real Go, not proved from fmt's source: count such statements apart). THE CARD IS WHAT COUNTS. Prove the row's statement (the work); the ties are given (YteakobbdgehlgaaGreatDoorTie.lean); close each card by the builder's one call (the guide's Derived/Test/ToyasCard.lean, 'card_holds'). Laid BY PROGRAM, IN A SANDBOX (cutbox-door.mjs). By AI agents, Wed Nov 11 2026. No macro, syntax, notation, axiom, sorry.
-/
import Derived.Test.YteakobbdgehlgaaGreatDoorRows
import GoSem.ClaimSeven
namespace Go.Proofs.YteakobbdgehlgaaGreatDoor
namespace Rows

/-- THE TIED CARD OF 'sordinelaw23.ChainFull'. -/
def chainFullCard : Claim7 := { stood := { row := chainFullRow, standIns := [], harness := (true, "c7f3e5f72acad1a8f5a9374143e2c14ff1ff2dcdbf81ed681ddff2c3fad5e2c2"), looks := false }, kinds := [], alts := [], laidByText := true, laidKinds := [.data, .data], laidTests := true, laidLooks := .later }
def ChainFullCardSaid : Prop := Claim7.holds Tryz.pinned (.plain (OpenSpec.ofChange chainFullSpec)) chainFullCard

/-- THE TIED CARD OF 'sordinelaw23.ChainPlays'. -/
def chainPlaysCard : Claim7 := { stood := { row := chainPlaysRow, standIns := [], harness := (true, "c7f3e5f72acad1a8f5a9374143e2c14ff1ff2dcdbf81ed681ddff2c3fad5e2c2"), looks := false }, kinds := [], alts := [], laidByText := true, laidKinds := [.data, .data], laidTests := true, laidLooks := .later }
def ChainPlaysCardSaid : Prop := Claim7.holds Tryz.pinned (.plain (OpenSpec.ofChange chainPlaysSpec)) chainPlaysCard

/-- THE TIED CARD OF 'sordinelaw23.ChainHeads'. -/
def chainHeadsCard : Claim7 := { stood := { row := chainHeadsRow, standIns := [], harness := (true, "c7f3e5f72acad1a8f5a9374143e2c14ff1ff2dcdbf81ed681ddff2c3fad5e2c2"), looks := false }, kinds := [], alts := [], laidByText := true, laidKinds := [.data, .data], laidTests := true, laidLooks := .later }
def ChainHeadsCardSaid : Prop := Claim7.holds Tryz.pinned (.plain (OpenSpec.ofChange chainHeadsSpec)) chainHeadsCard

/-- THE TIED CARD OF 'sordinelaw24.AuditReads'. -/
def auditReadsCard : Claim7 := { stood := { row := auditReadsRow, standIns := [], harness := (true, "c7f3e5f72acad1a8f5a9374143e2c14ff1ff2dcdbf81ed681ddff2c3fad5e2c2"), looks := false }, kinds := [], alts := [], laidByText := true, laidKinds := [.data, .data], laidTests := true, laidLooks := .later }
def AuditReadsCardSaid : Prop := Claim7.holds Tryz.pinned (.plain (OpenSpec.ofChange auditReadsSpec)) auditReadsCard

/-- THE TIED CARD OF 'sordinelaw24.AuditFront'. -/
def auditFrontCard : Claim7 := { stood := { row := auditFrontRow, standIns := [], harness := (true, "c7f3e5f72acad1a8f5a9374143e2c14ff1ff2dcdbf81ed681ddff2c3fad5e2c2"), looks := false }, kinds := [], alts := [], laidByText := true, laidKinds := [.data], laidTests := true, laidLooks := .later }
def AuditFrontCardSaid : Prop := Claim7.holds Tryz.pinned (.plain (OpenSpec.ofChange auditFrontSpec)) auditFrontCard

/-- THE TIED CARD OF 'sordinelaw24.AuditTakes'. -/
def auditTakesCard : Claim7 := { stood := { row := auditTakesRow, standIns := [], harness := (true, "c7f3e5f72acad1a8f5a9374143e2c14ff1ff2dcdbf81ed681ddff2c3fad5e2c2"), looks := false }, kinds := [], alts := [], laidByText := true, laidKinds := [.data], laidTests := true, laidLooks := .later }
def AuditTakesCardSaid : Prop := Claim7.holds Tryz.pinned (.plain (OpenSpec.ofChange auditTakesSpec)) auditTakesCard

/-- THE TIED CARD OF 'sordinelaw24.AuditTurned'. -/
def auditTurnedCard : Claim7 := { stood := { row := auditTurnedRow, standIns := [], harness := (true, "c7f3e5f72acad1a8f5a9374143e2c14ff1ff2dcdbf81ed681ddff2c3fad5e2c2"), looks := false }, kinds := [], alts := [], laidByText := true, laidKinds := [.data], laidTests := true, laidLooks := .later }
def AuditTurnedCardSaid : Prop := Claim7.holds Tryz.pinned (.plain (OpenSpec.ofChange auditTurnedSpec)) auditTurnedCard

/-- THE TIED CARD OF 'sordinelaw24.AuditExtracts'. -/
def auditExtractsCard : Claim7 := { stood := { row := auditExtractsRow, standIns := [], harness := (true, "c7f3e5f72acad1a8f5a9374143e2c14ff1ff2dcdbf81ed681ddff2c3fad5e2c2"), looks := false }, kinds := [], alts := [], laidByText := true, laidKinds := [.data, .data], laidTests := true, laidLooks := .later }
def AuditExtractsCardSaid : Prop := Claim7.holds Tryz.pinned (.plain (OpenSpec.ofChange auditExtractsSpec)) auditExtractsCard

/-- THE SECOND FORM's CARD OF 'sordinelaw23.ChainFull'. -/
def chainFullUptoCard : Claim7 := { stood := { row := chainFullUptoRow, standIns := [], harness := (true, "c7f3e5f72acad1a8f5a9374143e2c14ff1ff2dcdbf81ed681ddff2c3fad5e2c2"), looks := false }, kinds := [], alts := [], laidByText := true, laidKinds := [.data, .data], laidTests := true, laidLooks := .later }
def ChainFullUptoCardSaid : Prop := Claim7.holds Tryz.pinned (.plain (OpenSpec.upto chainFullSpec)) chainFullUptoCard

/-- THE SECOND FORM's CARD OF 'sordinelaw23.ChainPlays'. -/
def chainPlaysUptoCard : Claim7 := { stood := { row := chainPlaysUptoRow, standIns := [], harness := (true, "c7f3e5f72acad1a8f5a9374143e2c14ff1ff2dcdbf81ed681ddff2c3fad5e2c2"), looks := false }, kinds := [], alts := [], laidByText := true, laidKinds := [.data, .data], laidTests := true, laidLooks := .later }
def ChainPlaysUptoCardSaid : Prop := Claim7.holds Tryz.pinned (.plain (OpenSpec.upto chainPlaysSpec)) chainPlaysUptoCard

/-- THE SECOND FORM's CARD OF 'sordinelaw23.ChainHeads'. -/
def chainHeadsUptoCard : Claim7 := { stood := { row := chainHeadsUptoRow, standIns := [], harness := (true, "c7f3e5f72acad1a8f5a9374143e2c14ff1ff2dcdbf81ed681ddff2c3fad5e2c2"), looks := false }, kinds := [], alts := [], laidByText := true, laidKinds := [.data, .data], laidTests := true, laidLooks := .later }
def ChainHeadsUptoCardSaid : Prop := Claim7.holds Tryz.pinned (.plain (OpenSpec.upto chainHeadsSpec)) chainHeadsUptoCard

/-- THE SECOND FORM's CARD OF 'sordinelaw24.AuditReads'. -/
def auditReadsUptoCard : Claim7 := { stood := { row := auditReadsUptoRow, standIns := [], harness := (true, "c7f3e5f72acad1a8f5a9374143e2c14ff1ff2dcdbf81ed681ddff2c3fad5e2c2"), looks := false }, kinds := [], alts := [], laidByText := true, laidKinds := [.data, .data], laidTests := true, laidLooks := .later }
def AuditReadsUptoCardSaid : Prop := Claim7.holds Tryz.pinned (.plain (OpenSpec.upto auditReadsSpec)) auditReadsUptoCard

/-- THE SECOND FORM's CARD OF 'sordinelaw24.AuditFront'. -/
def auditFrontUptoCard : Claim7 := { stood := { row := auditFrontUptoRow, standIns := [], harness := (true, "c7f3e5f72acad1a8f5a9374143e2c14ff1ff2dcdbf81ed681ddff2c3fad5e2c2"), looks := false }, kinds := [], alts := [], laidByText := true, laidKinds := [.data], laidTests := true, laidLooks := .later }
def AuditFrontUptoCardSaid : Prop := Claim7.holds Tryz.pinned (.plain (OpenSpec.upto auditFrontSpec)) auditFrontUptoCard

/-- THE SECOND FORM's CARD OF 'sordinelaw24.AuditTakes'. -/
def auditTakesUptoCard : Claim7 := { stood := { row := auditTakesUptoRow, standIns := [], harness := (true, "c7f3e5f72acad1a8f5a9374143e2c14ff1ff2dcdbf81ed681ddff2c3fad5e2c2"), looks := false }, kinds := [], alts := [], laidByText := true, laidKinds := [.data], laidTests := true, laidLooks := .later }
def AuditTakesUptoCardSaid : Prop := Claim7.holds Tryz.pinned (.plain (OpenSpec.upto auditTakesSpec)) auditTakesUptoCard

/-- THE SECOND FORM's CARD OF 'sordinelaw24.AuditTurned'. -/
def auditTurnedUptoCard : Claim7 := { stood := { row := auditTurnedUptoRow, standIns := [], harness := (true, "c7f3e5f72acad1a8f5a9374143e2c14ff1ff2dcdbf81ed681ddff2c3fad5e2c2"), looks := false }, kinds := [], alts := [], laidByText := true, laidKinds := [.data], laidTests := true, laidLooks := .later }
def AuditTurnedUptoCardSaid : Prop := Claim7.holds Tryz.pinned (.plain (OpenSpec.upto auditTurnedSpec)) auditTurnedUptoCard

/-- THE SECOND FORM's CARD OF 'sordinelaw24.AuditExtracts'. -/
def auditExtractsUptoCard : Claim7 := { stood := { row := auditExtractsUptoRow, standIns := [], harness := (true, "c7f3e5f72acad1a8f5a9374143e2c14ff1ff2dcdbf81ed681ddff2c3fad5e2c2"), looks := false }, kinds := [], alts := [], laidByText := true, laidKinds := [.data, .data], laidTests := true, laidLooks := .later }
def AuditExtractsUptoCardSaid : Prop := Claim7.holds Tryz.pinned (.plain (OpenSpec.upto auditExtractsSpec)) auditExtractsUptoCard
end Rows
end Go.Proofs.YteakobbdgehlgaaGreatDoor
