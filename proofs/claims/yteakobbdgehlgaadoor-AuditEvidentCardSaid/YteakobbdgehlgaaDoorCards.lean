/-
  DERIVED. GIVEN WITH THE SEED: THE CARDS: each row of YteakobbdgehlgaaDoorRows.lean that lists a variable, with what it lists TIED to the program's text (the seventh form; the later family's looks); each row that meets fmt, with fmt's text TOLD by the authors' own Lean function (tested against real Go, not proved from fmt's source: count such statements apart). THE CARD IS WHAT COUNTS. Prove the row's statement (the work); the ties are given (YteakobbdgehlgaaDoorTie.lean); close each card by the builder's one call (the guide's Derived/Test/ToyasCard.lean, 'card_holds'). Laid BY PROGRAM, IN A SANDBOX (cutbox-door.mjs). By AI agents, Wed Nov 11 2026. No macro, syntax, notation, axiom, sorry.
-/
import Derived.Test.YteakobbdgehlgaaDoorRows
import GoSem.ClaimSeven
namespace Go.Proofs.YteakobbdgehlgaaDoor
namespace Rows

/-- THE TIED CARD OF 'sordinelaw24.AuditEvident'. -/
def auditEvidentCard : Claim7 := { stood := { row := auditEvidentRow, standIns := [], harness := (true, "c713a24bdaab48566b049a7e1e0956e0986f340b697dd6113d38aeadf171e1c9"), looks := false }, kinds := [], alts := [], laidByText := true, laidKinds := [.data], laidTests := true, laidLooks := .later }
def AuditEvidentCardSaid : Prop := Claim7.holds Tryd.pinned (.plain (OpenSpec.ofChange auditEvidentSpec)) auditEvidentCard

/-- THE SECOND FORM's CARD OF 'sordinelaw24.AuditEvident'. -/
def auditEvidentUptoCard : Claim7 := { stood := { row := auditEvidentUptoRow, standIns := [], harness := (true, "c713a24bdaab48566b049a7e1e0956e0986f340b697dd6113d38aeadf171e1c9"), looks := false }, kinds := [], alts := [], laidByText := true, laidKinds := [.data], laidTests := true, laidLooks := .later }
def AuditEvidentUptoCardSaid : Prop := Claim7.holds Tryd.pinned (.plain (OpenSpec.upto auditEvidentSpec)) auditEvidentUptoCard
end Rows
end Go.Proofs.YteakobbdgehlgaaDoor
