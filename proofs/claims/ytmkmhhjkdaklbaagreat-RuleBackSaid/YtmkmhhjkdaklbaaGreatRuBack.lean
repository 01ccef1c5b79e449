/- RuleBack answers true at any input. No condition. -/
import Derived.Test.YtmkmhhjkdaklbaaGreatRuBack0
import Derived.Test.YtmkmhhjkdaklbaaGreatRowF
set_option linter.unusedSimpArgs false
set_option linter.unusedVariables false
namespace Go.Proofs.YtmkmhhjkdaklbaaGreat
open Go Go.Ab Go.Cod Go.ChangeShapes Go.WideShapes Go.ChangeAt Go.RowKit
set_option maxRecDepth 100000
theorem own_knob : ownKnob Tryz.prog.godebug = none := by kernel_rfl
theorem laid_out : laidOutB Tryz.prog = true := by kernel_rfl
theorem ruleBack_lifted (os : Os) (started : os.Started) (H : Type) (enc : TypeId × Value → H) :
  ReturnsInHanded {} Tryz.checked os 4 .any (Rows.ruleBackSpec.pre6 enc Tryz.prog Tryz.f4 Rows.ruleBackRow.domain false) (Rows.ruleBackSpec.post enc Tryz.prog Tryz.f4 false true false false) := by
 refine returnsInHanded_of_change (C := Tryz.checked) own_knob started (by kernel_rfl) Tryz.func4
  (ChangeSpec.witness6 (enc := enc) (C := Tryz.checked) false ⟨#[], #[.agg #[.slice none 0 0, .slice none 0 0, .int .i64 0, .float .f64 0, .float .f64 0, .slice none 0 0], .agg #[.slice none 0 0, .slice none 0 0, .int .i64 0, .float .f64 0, .float .f64 0, .slice none 0 0], .slice none 0 0, .int .i64 0], []⟩ 8 (by kernel_rfl) (by kernel_rfl) (by kernel_rfl) (by kernel_rfl)) ?_
 intro W base args ds gs before hval0 hW hcnd _
 have hval : ∀ (j : Nat) t v, Tryz.f4.params[j]? = some t → args[j]? = some v → Value.okWide Tryz.prog W .any base t v := hval0
 have hW' := hW
 obtain ⟨p, q, hA0, hV, rfl, hfz, hnd⟩ := hW
 have hA : DataW.TrodAll enc Tryz.prog W 0 (fun _ => true) true Tryz.f4.params.toList args.toList ds p := hA0
 rw [Tryz.params4] at hA hval
 obtain ⟨v0, vs0, d0, ds0, a0, b0, hargs, rfl, rfl, h0, hA⟩ := trodAll_cons hA
 obtain ⟨v1, vs1, d1, ds1, a1, b1, rfl, rfl, rfl, h1, hA⟩ := trodAll_cons hA
 obtain ⟨v2, vs2, d2, ds2, a2, b2, rfl, rfl, rfl, h2, hA⟩ := trodAll_cons hA
 obtain ⟨v3, vs3, d3, ds3, a3, b3, rfl, rfl, rfl, h3, hA⟩ := trodAll_cons hA
 obtain ⟨rfl, rfl, rfl⟩ := trodAll_nil hA
 have : args = #[v0, v1, v2, v3] := by cases args; simpa using hargs
 subst this
 obtain ⟨r, w1, w2, r0⟩ := drule_argW (hval 0 42 v0 rfl rfl) h0
 obtain ⟨o, w3, w4, r1⟩ := drule_argW (hval 1 42 v1 rfl rfl) h1
 obtain ⟨b, r2⟩ := byts_arg (hval 2 29 v2 rfl rfl) h2
 obtain ⟨c, r3⟩ := int_arg (hval 3 3 v3 rfl rfl) h3
 refine (Ans.law (P := Tryz.prog) (W := W) (vs := [v0, v1, v2, v3]) Tryz.func4 (by kernel_rfl) (by kernel_rfl) (ruleBack_ans r o w1 w2 w3 w4 b c) (Reps.cons r0 (Reps.cons r1 (Reps.cons r2 (Reps.cons r3 Reps.nil))))).mono fun e W' ⟨v, he, hk, M', R', hr⟩ => ?_
 cases hr
 exact ⟨_, he, law_post (P := Tryz.prog) laid_out (by
   intro t ht
   rw [Tryz.params4] at ht
   have hm : t ∈ [42, 29, 3] := by
    have := ht
    simp only [List.mem_cons, List.not_mem_nil, or_false] at this ⊢
    rcases this with h | h | h | h <;> simp [h]
   clear ht
   simp only [List.mem_cons, List.not_mem_nil, or_false] at hm
   rcases hm with rfl | rfl | rfl
   · exact ⟨by kernel_rfl, of_decide_eq_true (by kernel_rfl)⟩
   · exact ⟨by kernel_rfl, of_decide_eq_true (by kernel_rfl)⟩
   · exact ⟨by kernel_rfl, of_decide_eq_true (by kernel_rfl)⟩) rfl rfl (tb := 4) (by kernel_rfl) hW' (fun ds h => by
  match ds, h with
  | [_, _, _, _], _ => exact ⟨rfl, rfl, rfl⟩) hk⟩
theorem ruleBack_rf1 : (Rows.ruleBackRow.inPlace == Tryz.pinned.checked.prog.inPlace 4) = true := by kernel_rfl
theorem ruleBack_rf2 : (Rows.ruleBackRow.unfollowed == Tryz.pinned.checked.prog.unfollowed 4) = true := by kernel_rfl
theorem ruleBack_rf3 : (Rows.ruleBackRow.recurses == Tryz.pinned.checked.prog.recurses 4) = true := by kernel_rfl
theorem ruleBack_rf4 : (Rows.ruleBackRow.named == Tryz.pinned.checked.prog.varsNamed 4) = true := by kernel_rfl
theorem ruleBack_holds : Rows.RuleBackSaid :=
 OpenClaim.holds_of_wide 4 Tryz.f4 rfl rfl rfl rfl rfl rfl rfl ⟨rfl, rfl, rfl, rfl, rfl⟩ rfl rfl rfl rfl rfl (by kernel_rfl) Tryz.func4 (by
   unfold joinedFacts
   repeat' (with_reducible (first | refine and_t ?_ ?_ | exact pf_stops | exact pf_enter | apply lift_t | exact ruleBack_rf1 | exact ruleBack_rf2 | exact ruleBack_rf3 | exact ruleBack_rf4 | exact pf_laid))
   all_goals kernel_rfl)
  (of_decide_eq_true (by kernel_rfl)) (by unfold Func.isWrapper; first | (rw [if_pos (by decide +kernel)]; kernel_rfl) | (rw [if_neg (by decide +kernel)]; exact ⟨rfl, rfl⟩))
  (fun os started H enc _ => ruleBack_lifted os started H enc)
end Go.Proofs.YtmkmhhjkdaklbaaGreat
