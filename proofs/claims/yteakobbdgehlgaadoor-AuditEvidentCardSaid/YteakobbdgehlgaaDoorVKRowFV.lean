/- What a row's closed facts ask of the program alone: reckoned once. No condition. -/
import Derived.Test.YteakobbdgehlgaaDoorRows
import Derived.Test.YteakobbdgehlgaaDoorAbArgV
set_option linter.unusedSimpArgs false
set_option linter.unusedVariables false
set_option linter.unusedSectionVars false
namespace Go.Proofs.YteakobbdgehlgaaDoor
open Go
theorem and_t {a b:Bool} (h1:a=true) (h2:b=true):(a&&b)=true:=by rw[h1,h2];rfl
theorem zbK:laidOutB Tryd.pinned.checked.prog=true:=by kernel_rfl
theorem zai:Tryd.pinned.checked.prog.stopsHeard=true:=by kernel_rfl
theorem zaj:Tryd.pinned.checked.prog.mayEnter=true:=by kernel_rfl
theorem zak:Tryd.pinned.checked.prog.liftsFinal=false:=by kernel_rfl
theorem zcT {a:Bool} (h:a=false):(a==Tryd.pinned.checked.prog.liftsFinal)=true:=by rw[h,zak];rfl
end Go.Proofs.YteakobbdgehlgaaDoor
