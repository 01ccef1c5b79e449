/- A closed run, call by call: the kernel reckons it. No condition. -/
import Derived.Test.YthlkjemalepnlaaWRun
import Derived.Test.YthlkjemalepnlaaAbTree
namespace Go.Proofs.Ythlkjemalepnlaa
open Go Go.Ab
/- 5425 steps -/
theorem m0_ok : Ans Try.prog 8 [] [] (.pl (.bool true)) [] := evFT_ok allF extF [] 300 100 _ _ _ _ _ (by kernel_rfl)
def m0 : Memo Try.prog := ⟨_, _, _, _, _, m0_ok⟩


end Go.Proofs.Ythlkjemalepnlaa
