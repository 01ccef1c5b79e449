/- What a row's closed facts ask of the program alone: reckoned once. No condition. -/
import Derived.Test.YtmkmhhjkdaklbaaGreatRows
import Derived.Test.YtmkmhhjkdaklbaaGreatAbArgq
set_option linter.unusedSimpArgs false
set_option linter.unusedVariables false
set_option linter.unusedSectionVars false
namespace Go.Proofs.YtmkmhhjkdaklbaaGreat
open Go
theorem and_t {a b:Bool} (h1:a=true) (h2:b=true):(a&&b)=true:=by rw[h1,h2];rfl
theorem zco:laidOutB Tryz.pinned.checked.prog=true:=by kernel_rfl
theorem zb4:Tryz.pinned.checked.prog.stopsHeard=true:=by kernel_rfl
theorem zb5:Tryz.pinned.checked.prog.mayEnter=true:=by kernel_rfl
theorem zb6:Tryz.pinned.checked.prog.liftsFinal=false:=by kernel_rfl
theorem zd4 {a:Bool} (h:a=false):(a==Tryz.pinned.checked.prog.liftsFinal)=true:=by rw[h,zb6];rfl
end Go.Proofs.YtmkmhhjkdaklbaaGreat
