/-
  DERIVED. GIVEN WITH THE SEED: THE CARDS: each row of YtgnoebkcephdmaaDoorRows.lean that lists a variable, with what it lists TIED to the program's text (the seventh form; the later family's looks); each row that meets fmt, with fmt's text TOLD by the authors' own Lean function (tested against real Go, not proved from fmt's source: count such statements apart). THE CARD IS WHAT COUNTS. Prove the row's statement (the work); the ties are given (YtgnoebkcephdmaaDoorTie.lean); close each card by the builder's one call (the guide's Derived/Test/ToyasCard.lean, 'card_holds'). Laid BY PROGRAM, IN A SANDBOX (cutbox-door.mjs). By AI agents, Wed Nov 11 2026. No macro, syntax, notation, axiom, sorry.
-/
import Derived.Test.YtgnoebkcephdmaaDoorRows
import GoSem.ClaimSeven
namespace Go.Proofs.YtgnoebkcephdmaaDoor
namespace Rows

/-- THE TIED CARD OF 'sordinelaw23.ChainRuns'. -/
def chainRunsCard : Claim7 := { stood := { row := chainRunsRow, standIns := [], harness := (true, "a7c3abb47d712c352c218252d18778e806caff5c63fa22eac723bac4f75189ea"), looks := false }, kinds := [], alts := [], laidByText := true, laidKinds := [.data, .data], laidTests := true, laidLooks := .later }
def ChainRunsCardSaid : Prop := Claim7.holds Tryd.pinned (.plain (OpenSpec.ofChange chainRunsSpec)) chainRunsCard

/-- THE TIED CARD OF 'sordinelaw24.AuditRuns'. -/
def auditRunsCard : Claim7 := { stood := { row := auditRunsRow, standIns := [], harness := (true, "a7c3abb47d712c352c218252d18778e806caff5c63fa22eac723bac4f75189ea"), looks := false }, kinds := [], alts := [], laidByText := true, laidKinds := [.data], laidTests := true, laidLooks := .later }
def AuditRunsCardSaid : Prop := Claim7.holds Tryd.pinned (.plain (OpenSpec.ofChange auditRunsSpec)) auditRunsCard

/-- THE SECOND FORM's CARD OF 'sordinelaw23.ChainRuns'. -/
def chainRunsUptoCard : Claim7 := { stood := { row := chainRunsUptoRow, standIns := [], harness := (true, "a7c3abb47d712c352c218252d18778e806caff5c63fa22eac723bac4f75189ea"), looks := false }, kinds := [], alts := [], laidByText := true, laidKinds := [.data, .data], laidTests := true, laidLooks := .later }
def ChainRunsUptoCardSaid : Prop := Claim7.holds Tryd.pinned (.plain (OpenSpec.upto chainRunsSpec)) chainRunsUptoCard

/-- THE SECOND FORM's CARD OF 'sordinelaw24.AuditRuns'. -/
def auditRunsUptoCard : Claim7 := { stood := { row := auditRunsUptoRow, standIns := [], harness := (true, "a7c3abb47d712c352c218252d18778e806caff5c63fa22eac723bac4f75189ea"), looks := false }, kinds := [], alts := [], laidByText := true, laidKinds := [.data], laidTests := true, laidLooks := .later }
def AuditRunsUptoCardSaid : Prop := Claim7.holds Tryd.pinned (.plain (OpenSpec.upto auditRunsSpec)) auditRunsUptoCard
end Rows
end Go.Proofs.YtgnoebkcephdmaaDoor
