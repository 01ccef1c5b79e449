/- Closed runs, call by call: the kernel reckons them. No condition. -/
import Derived.Test.YtoadgajhkhejiaaMRun
import Derived.Test.YtoadgajhkhejiaaAbTree
namespace Go.Proofs.Ytoadgajhkhejiaa
open Go Go.Ab
/- 177 steps -/
/- 177 steps -/
/- 221 steps -/
/- 133 steps -/
/- 265 steps -/
/- 150 steps -/
/- 150 steps -/
/- 194 steps -/
/- 106 steps -/
/- 238 steps -/
/- 1032 steps -/
/- 128 steps -/
/- 4011 steps -/
/- 1286 steps -/
/- 493 steps -/
/- 1444 steps -/
/- 936 steps -/
/- 843 steps -/
/- 4269 steps -/
/- 85 steps -/
/- 6858 steps -/
theorem mr_ok : Ans Try.prog 14 [] [] (.pl (.bool true)) [] := evFT_ok allF extF [] 300 100 _ _ _ _ _ (by kernel_rfl)
end Go.Proofs.Ytoadgajhkhejiaa
