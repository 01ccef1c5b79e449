/- RuleBytes answers true at any input. No condition. -/
import Derived.Test.YtmkmhhjkdaklbaaGreatRuB0
import Derived.Test.YtmkmhhjkdaklbaaGreatRowF
set_option linter.unusedSimpArgs false
set_option linter.unusedVariables false
namespace Go.Proofs.YtmkmhhjkdaklbaaGreat
open Go Go.Ab Go.Cod Go.ChangeShapes Go.WideShapes Go.ChangeAt Go.RowKit
set_option maxRecDepth 100000
theorem own_knob : ownKnob Tryz.prog.godebug = none := by kernel_rfl
theorem laid_out : laidOutB Tryz.prog = true := by kernel_rfl
theorem ruleBytes_lifted (os : Os) (started : os.Started) (H : Type) (enc : TypeId × Value → H) :
  ReturnsInHanded {} Tryz.checked os 3 .any (Rows.ruleBytesSpec.pre6 enc Tryz.prog Tryz.f3 Rows.ruleBytesRow.domain false) (Rows.ruleBytesSpec.post enc Tryz.prog Tryz.f3 false true false false) := by
 refine returnsInHanded_of_change (C := Tryz.checked) own_knob started (by kernel_rfl) Tryz.func3
  (ChangeSpec.witness6 (enc := enc) (C := Tryz.checked) false ⟨#[], #[.agg #[.slice none 0 0, .slice none 0 0, .bool false, .float .f64 0, .float .f64 0, .slice none 0 0], .slice none 0 0], []⟩ 8 (by kernel_rfl) (by kernel_rfl) (by kernel_rfl) (by kernel_rfl)) ?_
 intro W base args ds gs before hval0 hW hcnd _
 have hval : ∀ (j : Nat) t v, Tryz.f3.params[j]? = some t → args[j]? = some v → Value.okWide Tryz.prog W .any base t v := hval0
 have hW' := hW
 obtain ⟨p, q, hA0, hV, rfl, hfz, hnd⟩ := hW
 have hA : DataW.TrodAll enc Tryz.prog W 0 (fun _ => true) true Tryz.f3.params.toList args.toList ds p := hA0
 rw [Tryz.params3] at hA hval
 obtain ⟨v0, vs0, d0, ds0, a0, b0, hargs, rfl, rfl, h0, hA⟩ := trodAll_cons hA
 obtain ⟨v1, vs1, d1, ds1, a1, b1, rfl, rfl, rfl, h1, hA⟩ := trodAll_cons hA
 obtain ⟨rfl, rfl, rfl⟩ := trodAll_nil hA
 have : args = #[v0, v1] := by cases args; simpa using hargs
 subst this
 obtain ⟨r, r0⟩ := rule_arg (hval 0 28 v0 rfl rfl) h0
 obtain ⟨b, r1⟩ := byts_arg (hval 1 29 v1 rfl rfl) h1
 refine (Ans.law (P := Tryz.prog) (W := W) (vs := [v0, v1]) Tryz.func3 (by kernel_rfl) (by kernel_rfl) (ruleBytes_ans r b) (Reps.cons r0 (Reps.cons r1 Reps.nil))).mono fun e W' ⟨v, he, hk, M', R', hr⟩ => ?_
 cases hr
 exact ⟨_, he, law_post (P := Tryz.prog) laid_out (by
   intro t ht
   rw [Tryz.params3] at ht
   have hm : t ∈ [28, 29] := by
    have := ht
    simp only [List.mem_cons, List.not_mem_nil, or_false] at this ⊢
    rcases this with h | h <;> simp [h]
   clear ht
   simp only [List.mem_cons, List.not_mem_nil, or_false] at hm
   rcases hm with rfl | rfl
   · exact ⟨by kernel_rfl, of_decide_eq_true (by kernel_rfl)⟩
   · exact ⟨by kernel_rfl, of_decide_eq_true (by kernel_rfl)⟩) rfl rfl (tb := 4) (by kernel_rfl) hW' (fun ds h => by
  match ds, h with
  | [_, _], _ => exact ⟨rfl, rfl, rfl⟩) hk⟩
theorem ruleBytes_rf1 : (Rows.ruleBytesRow.inPlace == Tryz.pinned.checked.prog.inPlace 3) = true := by kernel_rfl
theorem ruleBytes_rf2 : (Rows.ruleBytesRow.unfollowed == Tryz.pinned.checked.prog.unfollowed 3) = true := by kernel_rfl
theorem ruleBytes_rf3 : (Rows.ruleBytesRow.recurses == Tryz.pinned.checked.prog.recurses 3) = true := by kernel_rfl
theorem ruleBytes_rf4 : (Rows.ruleBytesRow.named == Tryz.pinned.checked.prog.varsNamed 3) = true := by kernel_rfl
theorem ruleBytes_holds : Rows.RuleBytesSaid :=
 OpenClaim.holds_of_wide 3 Tryz.f3 rfl rfl rfl rfl rfl rfl rfl ⟨rfl, rfl, rfl, rfl, rfl⟩ rfl rfl rfl rfl rfl (by kernel_rfl) Tryz.func3 (by
   unfold joinedFacts
   repeat' (with_reducible (first | refine and_t ?_ ?_ | exact pf_stops | exact pf_enter | apply lift_t | exact ruleBytes_rf1 | exact ruleBytes_rf2 | exact ruleBytes_rf3 | exact ruleBytes_rf4 | exact pf_laid))
   all_goals kernel_rfl)
  (of_decide_eq_true (by kernel_rfl)) (by unfold Func.isWrapper; first | (rw [if_pos (by decide +kernel)]; kernel_rfl) | (rw [if_neg (by decide +kernel)]; exact ⟨rfl, rfl⟩))
  (fun os started H enc _ => ruleBytes_lifted os started H enc)
end Go.Proofs.YtmkmhhjkdaklbaaGreat
