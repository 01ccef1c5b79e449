/- What a row's closed facts ask of the program alone: reckoned once. No condition. -/
import Derived.Test.YtmkmhhjkdaklbaaGreatRows
import Derived.Test.YtmkmhhjkdaklbaaGreatAbArg
set_option linter.unusedSimpArgs false
set_option linter.unusedVariables false
namespace Go.Proofs.YtmkmhhjkdaklbaaGreat
open Go
theorem and_t {a b : Bool} (h1 : a = true) (h2 : b = true) : (a && b) = true := by rw [h1, h2]; rfl
theorem pf_laid : laidOutB Tryz.pinned.checked.prog = true := by kernel_rfl
theorem pf_stops : Tryz.pinned.checked.prog.stopsHeard = true := by kernel_rfl
theorem pf_enter : Tryz.pinned.checked.prog.mayEnter = true := by kernel_rfl
theorem pf_lifts : Tryz.pinned.checked.prog.liftsFinal = false := by kernel_rfl
theorem lift_t {a : Bool} (h : a = false) : (a == Tryz.pinned.checked.prog.liftsFinal) = true := by rw [h, pf_lifts]; rfl
end Go.Proofs.YtmkmhhjkdaklbaaGreat
