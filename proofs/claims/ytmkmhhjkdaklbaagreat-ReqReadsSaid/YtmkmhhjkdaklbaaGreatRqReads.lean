/- ReqReads answers true at any input. No condition. -/
import Derived.Test.YtmkmhhjkdaklbaaGreatRqR0
import Derived.Test.YtmkmhhjkdaklbaaGreatRd3
import Derived.Test.YtmkmhhjkdaklbaaGreatRowF
set_option linter.unusedSimpArgs false
set_option linter.unusedVariables false
namespace Go.Proofs.YtmkmhhjkdaklbaaGreat
open Go Go.Ab Go.Cod Go.ChangeShapes Go.WideShapes Go.ChangeAt Go.RowKit
set_option maxRecDepth 100000
theorem own_knob : ownKnob Tryz.prog.godebug = none := by kernel_rfl
theorem laid_out : laidOutB Tryz.prog = true := by kernel_rfl
theorem reqReads_lifted (os : Os) (started : os.Started) (H : Type) (enc : TypeId × Value → H) :
  ReturnsInHanded {} Tryz.checked os 13 .any (Rows.reqReadsSpec.pre6 enc Tryz.prog Tryz.f13 Rows.reqReadsRow.domain false) (Rows.reqReadsSpec.post enc Tryz.prog Tryz.f13 false true false false) := by
 refine returnsInHanded_of_change (C := Tryz.checked) own_knob started (by kernel_rfl) Tryz.func13
  (ChangeSpec.witness6 (enc := enc) (C := Tryz.checked) false ⟨#[], #[.slice none 0 0], []⟩ 8 (by kernel_rfl) (by kernel_rfl) (by kernel_rfl) (by kernel_rfl)) ?_
 intro W base args ds gs before hval0 hW hcnd _
 have hval : ∀ (j : Nat) t v, Tryz.f13.params[j]? = some t → args[j]? = some v → Value.okWide Tryz.prog W .any base t v := hval0
 have hW' := hW
 obtain ⟨p, q, hA0, hV, rfl, hfz, hnd⟩ := hW
 have hA : DataW.TrodAll enc Tryz.prog W 0 (fun _ => true) true Tryz.f13.params.toList args.toList ds p := hA0
 rw [Tryz.params13] at hA hval
 obtain ⟨v0, vs0, d0, ds0, a0, b0, hargs, rfl, rfl, h0, hA⟩ := trodAll_cons hA
 obtain ⟨rfl, rfl, rfl⟩ := trodAll_nil hA
 have : args = #[v0] := by cases args; simpa using hargs
 subst this
 obtain ⟨b, r0⟩ := byts_arg (hval 0 29 v0 rfl rfl) h0
 refine (Ans.law (P := Tryz.prog) (W := W) (vs := [v0]) Tryz.func13 (by kernel_rfl) (by kernel_rfl) (reqReads_ans b) (Reps.cons r0 Reps.nil)).mono fun e W' ⟨v, he, hk, M', R', hr⟩ => ?_
 cases hr
 exact ⟨_, he, law_post (P := Tryz.prog) laid_out (by
   intro t ht
   rw [Tryz.params13] at ht
   have hm : t ∈ [29] := by
    have := ht
    simp only [List.mem_cons, List.not_mem_nil, or_false] at this ⊢
    simp [this]
   clear ht
   simp only [List.mem_cons, List.not_mem_nil, or_false] at hm
   subst hm
   exact ⟨by kernel_rfl, of_decide_eq_true (by kernel_rfl)⟩) rfl rfl (tb := 4) (by kernel_rfl) hW' (fun ds h => by
  match ds, h with
  | [_], _ => exact ⟨rfl, rfl, rfl⟩) hk⟩
theorem reqReads_rf1 : (Rows.reqReadsRow.inPlace == Tryz.pinned.checked.prog.inPlace 13) = true := by kernel_rfl
theorem reqReads_rf2 : (Rows.reqReadsRow.unfollowed == Tryz.pinned.checked.prog.unfollowed 13) = true := by kernel_rfl
theorem reqReads_rf3 : (Rows.reqReadsRow.recurses == Tryz.pinned.checked.prog.recurses 13) = true := by kernel_rfl
theorem reqReads_rf4 : (Rows.reqReadsRow.named == Tryz.pinned.checked.prog.varsNamed 13) = true := by kernel_rfl
theorem reqReads_holds : Rows.ReqReadsSaid :=
 OpenClaim.holds_of_wide 13 Tryz.f13 rfl rfl rfl rfl rfl rfl rfl ⟨rfl, rfl, rfl, rfl, rfl⟩ rfl rfl rfl rfl rfl (by kernel_rfl) Tryz.func13 (by
   unfold joinedFacts
   repeat' (with_reducible (first | refine and_t ?_ ?_ | exact pf_stops | exact pf_enter | apply lift_t | exact reqReads_rf1 | exact reqReads_rf2 | exact reqReads_rf3 | exact reqReads_rf4 | exact pf_laid))
   all_goals kernel_rfl)
  (of_decide_eq_true (by kernel_rfl)) (by unfold Func.isWrapper; first | (rw [if_pos (by decide +kernel)]; kernel_rfl) | (rw [if_neg (by decide +kernel)]; exact ⟨rfl, rfl⟩))
  (fun os started H enc _ => reqReads_lifted os started H enc)
end Go.Proofs.YtmkmhhjkdaklbaaGreat
