/- The evaluator a third time, its frame laid as a tree: each look takes few steps. It answers what the first one answers. No condition. -/
import Derived.Test.YtmkmhhjkdaklbaaGreatAbArgx
set_option linter.unusedSimpArgs false
set_option linter.unusedVariables false
set_option linter.unusedSectionVars false
namespace Go.Ab
open Go
inductive ET where
 |lf (v:AV)
 |nd (l r:ET)
/- A value brought to its form: each way by itself. -/
noncomputable def ET.get (t:ET):Nat→AV :=
 ET.rec (motive:=fun _=>Nat→AV) (fun v _=>v) (fun _ _ gl gr i=>Bool.rec (motive:=fun _=>AV) (gl (i/2)) (gr (i/2)) (Nat.beq (i%2) 1)) t
end Go.Ab
