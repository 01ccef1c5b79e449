/- ReqRuns answers true: the code is run by the kernel. No condition. -/
import Derived.Test.YtgnoebkcephdmaaRows
import Derived.Test.YtgnoebkcephdmaaTRun
import Derived.Test.YtgnoebkcephdmaaAbFast
import Derived.Test.YtgnoebkcephdmaaAbLaw
namespace Go.Proofs.Ytgnoebkcephdmaa
open Go Go.Ab Go.ChangeShapes Go.WideShapes Go.ChangeAt Go.RowKit

theorem own_knob : ownKnob Try.prog.godebug = none := by kernel_rfl
theorem laid_out : laidOutB Try.prog = true := by kernel_rfl

/- 5425 steps -/
theorem m0_ok : Ans Try.prog 6 [] [] (.pl (.bool true)) [] := evFM_ok allF extF [] 300 100 _ _ _ _ _ (by kernel_rfl)
def m0 : Memo Try.prog := ⟨_, _, _, _, _, m0_ok⟩


theorem reqRuns_ans : Ans Try.prog 6 [] [] (.pl (.bool true)) [] := m0_ok

theorem reqRuns_lifted (os : Os) (started : os.Started) (H : Type) (enc : TypeId × Value → H) :
    ReturnsInHanded {} Try.checked os 6 .any (Rows.reqRunsSpec.pre6 enc Try.prog Try.f6 Rows.reqRunsRow.domain false) (Rows.reqRunsSpec.post enc Try.prog Try.f6 false true false false) := by
  refine returnsInHanded_of_change (C := Try.checked) own_knob started (by kernel_rfl) Try.func6
    (ChangeSpec.witness6 (enc := enc) (C := Try.checked) false ⟨#[], #[], []⟩ 8 (by kernel_rfl) (by kernel_rfl) (by kernel_rfl) (by kernel_rfl)) ?_
  intro W base args ds gs before hval0 hW hcnd _
  have hW' := hW
  obtain ⟨p, q, hA0, hV, rfl, hfz, hnd⟩ := hW
  have hA : DataW.TrodAll enc Try.prog W 0 (fun _ => true) true Try.f6.params.toList args.toList ds p := hA0
  rw [Try.params6] at hA
  obtain ⟨ha, rfl, rfl⟩ := trodAll_nil hA
  have : args = #[] := by cases args; simpa using ha
  subst this
  refine (Ans.law (P := Try.prog) (W := W) (vs := []) Try.func6 (by kernel_rfl) (by kernel_rfl) reqRuns_ans ⟨rfl, fun j h => by simp at h⟩).mono fun e W' ⟨v, he, hk, M', R', hr⟩ => ?_
  cases hr
  exact ⟨_, he, law_post (P := Try.prog) laid_out (by rw [Try.params6]; simp) rfl rfl (tb := 4) (by kernel_rfl) hW' (fun ds h => by
    match ds, h with
    | [], _ => exact ⟨rfl, rfl, rfl⟩) hk⟩

theorem reqRuns_holds : Rows.ReqRunsSaid :=
  OpenClaim.holds_of_wide 6 Try.f6 rfl rfl rfl rfl rfl rfl rfl ⟨rfl, rfl, rfl, rfl, rfl⟩ rfl rfl rfl rfl rfl (by kernel_rfl) Try.func6 (by kernel_rfl)
    (of_decide_eq_true (by kernel_rfl)) (by unfold Func.isWrapper; first | (rw [if_pos (by decide +kernel)]; kernel_rfl) | (rw [if_neg (by decide +kernel)]; exact ⟨rfl, rfl⟩))
    (fun os started H enc _ => reqRuns_lifted os started H enc)

end Go.Proofs.Ytgnoebkcephdmaa
