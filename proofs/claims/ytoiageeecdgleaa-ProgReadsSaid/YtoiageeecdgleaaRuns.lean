/- ProgRuns answers true: the code is run by the kernel. No condition. -/
import Derived.Test.YtoiageeecdgleaaRows
import Derived.Test.YtoiageeecdgleaaRunF
import Derived.Test.YtoiageeecdgleaaAbLaw
namespace Go.Proofs.Ytoiageeecdgleaa
open Go Go.Ab Go.ChangeShapes Go.WideShapes Go.ChangeAt Go.RowKit

theorem Try.own : ownKnob Try.prog.godebug = none := by kernel_rfl
theorem Try.laidOut : laidOutB Try.prog = true := by kernel_rfl

theorem runs_ans : Ans Try.prog 3 [] [] (.pl (.bool true)) [] := evF_ok allF extF 100 30 3 [] [] _ _ (by kernel_rfl)

theorem progRuns_lifted (os : Os) (started : os.Started) (H : Type) (enc : TypeId × Value → H) :
    ReturnsInHanded {} Try.checked os 3 .any (Rows.progRunsSpec.pre6 enc Try.prog Try.f3 Rows.progRunsRow.domain false) (Rows.progRunsSpec.post enc Try.prog Try.f3 false true false false) := by
  refine returnsInHanded_of_change (C := Try.checked) Try.own started (by kernel_rfl) Try.func3
    (ChangeSpec.witness6 (enc := enc) (C := Try.checked) false ⟨#[], #[], []⟩ 8 (by kernel_rfl) (by kernel_rfl) (by kernel_rfl) (by kernel_rfl)) ?_
  intro W base args ds gs before hval0 hW hcnd _
  have hW' := hW
  obtain ⟨p, q, hA0, hV, rfl, hfz, hnd⟩ := hW
  have hA : DataW.TrodAll enc Try.prog W 0 (fun _ => true) true Try.f3.params.toList args.toList ds p := hA0
  rw [Try.params3] at hA
  obtain ⟨ha, rfl, rfl⟩ := trodAll_nil hA
  have : args = #[] := by cases args; simpa using ha
  subst this
  refine (Ans.law (P := Try.prog) (W := W) (vs := []) Try.func3 (by kernel_rfl) (by kernel_rfl) runs_ans ⟨rfl, fun j h => by simp at h⟩).mono fun e W' ⟨v, he, hk, M', R', hr⟩ => ?_
  cases hr
  exact ⟨_, he, law_post (P := Try.prog) Try.laidOut (by rw [Try.params3]; simp) rfl rfl (tb := 4) (by kernel_rfl) hW' (fun ds h => by
    match ds, h with
    | [], _ => exact ⟨rfl, rfl, rfl⟩) hk⟩

theorem progRuns_holds : Rows.ProgRunsSaid :=
  OpenClaim.holds_of_wide 3 Try.f3 rfl rfl rfl rfl rfl rfl rfl ⟨rfl, rfl, rfl, rfl, rfl⟩ rfl rfl rfl rfl rfl (by kernel_rfl) Try.func3 (by kernel_rfl)
    (of_decide_eq_true (by kernel_rfl)) (by unfold Func.isWrapper; first | (rw [if_pos (by decide +kernel)]; kernel_rfl) | (rw [if_neg (by decide +kernel)]; exact ⟨rfl, rfl⟩))
    (fun os started H enc _ => progRuns_lifted os started H enc)

end Go.Proofs.Ytoiageeecdgleaa
