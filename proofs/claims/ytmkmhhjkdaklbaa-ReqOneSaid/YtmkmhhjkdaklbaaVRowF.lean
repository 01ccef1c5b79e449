/- What a row's closed facts ask of the program alone: reckoned once. No condition. -/
import Derived.Test.YtmkmhhjkdaklbaaRows
import Derived.Test.YtmkmhhjkdaklbaaAbArg
set_option linter.unusedSimpArgs false
set_option linter.unusedVariables false
set_option linter.unusedSectionVars false
namespace Go.Proofs.Ytmkmhhjkdaklbaa
open Go
theorem and_t {a b:Bool} (h1:a=true) (h2:b=true):(a&&b)=true:=by rw[h1,h2];rfl
theorem zaY:laidOutB Try.pinned.checked.prog=true:=by kernel_rfl
theorem z9T:Try.pinned.checked.prog.stopsHeard=true:=by kernel_rfl
theorem z9U:Try.pinned.checked.prog.mayEnter=true:=by kernel_rfl
theorem z9V:Try.pinned.checked.prog.liftsFinal=false:=by kernel_rfl
theorem zbU {a:Bool} (h:a=false):(a==Try.pinned.checked.prog.liftsFinal)=true:=by rw[h,z9V];rfl
end Go.Proofs.Ytmkmhhjkdaklbaa
