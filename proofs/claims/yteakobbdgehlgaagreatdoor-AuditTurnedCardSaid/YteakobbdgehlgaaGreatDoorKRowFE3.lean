/- What a row's closed facts ask of the program alone: reckoned once. No condition. -/
import Derived.Test.YteakobbdgehlgaaGreatDoorRows
import Derived.Test.YteakobbdgehlgaaGreatDoorAbArgE3
set_option linter.unusedSimpArgs false
set_option linter.unusedVariables false
set_option linter.unusedSectionVars false
namespace Go.Proofs.YteakobbdgehlgaaGreatDoor
open Go
theorem and_t {a b:Bool} (h1:a=true) (h2:b=true):(a&&b)=true:=by rw[h1,h2];rfl
theorem zi9:laidOutB Tryz.pinned.checked.prog=true:=by kernel_rfl
theorem zfZ:Tryz.pinned.checked.prog.stopsHeard=true:=by kernel_rfl
theorem zg0:Tryz.pinned.checked.prog.mayEnter=true:=by kernel_rfl
theorem zg1:Tryz.pinned.checked.prog.liftsFinal=false:=by kernel_rfl
theorem zjr {a:Bool} (h:a=false):(a==Tryz.pinned.checked.prog.liftsFinal)=true:=by rw[h,zg1];rfl
end Go.Proofs.YteakobbdgehlgaaGreatDoor
