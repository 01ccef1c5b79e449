/- RespRuns answers true: the code is run by the kernel. No condition. -/
import Derived.Test.YtgnoebkcephdmabGreatRows
import Derived.Test.YtgnoebkcephdmabGreatZRun
import Derived.Test.YtgnoebkcephdmabGreatAbFast
import Derived.Test.YtgnoebkcephdmabGreatAbLaw
namespace Go.Proofs.YtgnoebkcephdmabGreat
open Go Go.Ab Go.ChangeShapes Go.WideShapes Go.ChangeAt Go.RowKit

theorem own_knob : ownKnob Tryz.prog.godebug = none := by kernel_rfl
theorem laid_out : laidOutB Tryz.prog = true := by kernel_rfl

/- 1251 steps -/
theorem m0_ok : Ans Tryz.prog 3 [] [] (.pl (.bool true)) [] := evFM_ok allF extF [] 300 100 _ _ _ _ _ (by kernel_rfl)
def m0 : Memo Tryz.prog := ⟨_, _, _, _, _, m0_ok⟩


theorem respRuns_ans : Ans Tryz.prog 3 [] [] (.pl (.bool true)) [] := m0_ok

theorem respRuns_lifted (os : Os) (started : os.Started) (H : Type) (enc : TypeId × Value → H) :
    ReturnsInHanded {} Tryz.checked os 3 .any (Rows.respRunsSpec.pre6 enc Tryz.prog Tryz.f3 Rows.respRunsRow.domain false) (Rows.respRunsSpec.post enc Tryz.prog Tryz.f3 false true false false) := by
  refine returnsInHanded_of_change (C := Tryz.checked) own_knob started (by kernel_rfl) Tryz.func3
    (ChangeSpec.witness6 (enc := enc) (C := Tryz.checked) false ⟨#[], #[], []⟩ 8 (by kernel_rfl) (by kernel_rfl) (by kernel_rfl) (by kernel_rfl)) ?_
  intro W base args ds gs before hval0 hW hcnd _
  have hW' := hW
  obtain ⟨p, q, hA0, hV, rfl, hfz, hnd⟩ := hW
  have hA : DataW.TrodAll enc Tryz.prog W 0 (fun _ => true) true Tryz.f3.params.toList args.toList ds p := hA0
  rw [Tryz.params3] at hA
  obtain ⟨ha, rfl, rfl⟩ := trodAll_nil hA
  have : args = #[] := by cases args; simpa using ha
  subst this
  refine (Ans.law (P := Tryz.prog) (W := W) (vs := []) Tryz.func3 (by kernel_rfl) (by kernel_rfl) respRuns_ans ⟨rfl, fun j h => by simp at h⟩).mono fun e W' ⟨v, he, hk, M', R', hr⟩ => ?_
  cases hr
  exact ⟨_, he, law_post (P := Tryz.prog) laid_out (by rw [Tryz.params3]; simp) rfl rfl (tb := 4) (by kernel_rfl) hW' (fun ds h => by
    match ds, h with
    | [], _ => exact ⟨rfl, rfl, rfl⟩) hk⟩

theorem respRuns_holds : Rows.RespRunsSaid :=
  OpenClaim.holds_of_wide 3 Tryz.f3 rfl rfl rfl rfl rfl rfl rfl ⟨rfl, rfl, rfl, rfl, rfl⟩ rfl rfl rfl rfl rfl (by kernel_rfl) Tryz.func3 (by kernel_rfl)
    (of_decide_eq_true (by kernel_rfl)) (by unfold Func.isWrapper; first | (rw [if_pos (by decide +kernel)]; kernel_rfl) | (rw [if_neg (by decide +kernel)]; exact ⟨rfl, rfl⟩))
    (fun os started H enc _ => respRuns_lifted os started H enc)

end Go.Proofs.YtgnoebkcephdmabGreat
