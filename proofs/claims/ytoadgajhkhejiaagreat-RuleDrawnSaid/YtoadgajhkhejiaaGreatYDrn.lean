/- RuleDrawn answers true at any input. No condition. -/
import Derived.Test.YtoadgajhkhejiaaGreatYNine2
import Derived.Test.YtoadgajhkhejiaaGreatYPDoc1
set_option linter.unusedSimpArgs false
set_option linter.unusedVariables false
namespace Go.Proofs.YtoadgajhkhejiaaGreat
open Go Go.Ab Go.ChangeShapes Go.WideShapes Go.ChangeAt Go.RowKit
set_option maxRecDepth 100000
theorem nm5_sz : ∀ n ∈ nm5, n.size ≤ 100000 := by decide +kernel
theorem drawn_sm (d : RuD) : RSm (drawnRu d) where
 src := (must_list d.ds).2.2
 tgt := (must_list d.es).2.2
 eq := fun s hs => nm5_sz s ((drawnEq_sub d.ns).subset hs)
theorem beq_same (b : Bool) : (b == b) = true := by cases b <;> rfl
theorem drn_rest (d : RuD) (xa xb : List Int) (x y : Nat) :
  Ans Tryz.prog 4 [duV d, daV xa x, daV xb y] [] (.pl (.bool true)) [] := by
 have hru := fun σ => rule_ans σ d
 have haa := fun σ => alert_ans σ xa x
 have hab := fun σ => alert_ans σ xb y
 have his := drawn_is d
 have hsm := drawn_sm d
 generalize drawnRu d = q at hru his hsm
 have hgx := drawnLabs_get xa
 have hgy := drawnLabs_get xb
 have hlx : (drawnLabs xa).length ≤ 1000 := by have := (drawnLabs_ok xa).1; omega
 have hly : (drawnLabs xb).length ≤ 1000 := by have := (drawnLabs_ok xb).1; omega
 have i1 := fun σ => ruis_ans σ q
 have l1 := fun σ => rularge_ans σ q
 have l2 := fun σ => drularge_ans σ q hsm
 have s1 := fun σ => rusrc_ans σ q 0 _ x hlx hgx
 have s2 := fun σ => drusrc_ans σ q hsm 0 _ x hlx hgx
 have t1 := fun σ => rutgt_ans σ q 0 _ x hlx hgx
 have t2 := fun σ => drutgt_ans σ q hsm 0 _ x hlx hgx
 have m1 := fun σ => mutes_ans σ q 0 _ x 0 _ y hlx hgx hly hgy
 have m2 := fun σ => drumutes_ans σ q hsm 0 _ x 0 _ y hlx hgx hly hgy
 have n1 := fun σ => mutes_ans σ q 0 _ y 0 _ x hly hgy hlx hgx
 have n2 := fun σ => drumutes_ans σ q hsm 0 _ y 0 _ x hly hgy hlx hgx
 rw [his] at i1
 clear his hsm hgx hgy hlx hly
 generalize ruSrc q (drawnLabs xa) x = bs at *
 generalize ruTgt q (drawnLabs xa) = bt at *
 generalize ruMutes q (drawnLabs xa) x (drawnLabs xb) y = bm at *
 generalize ruMutes q (drawnLabs xb) y (drawnLabs xa) x = bn at *
 generalize ruLarge q = bl at *
 generalize drawnLabs xa = Lx at *
 generalize drawnLabs xb = Ly at *
 refine Ans.of_run t4 ?_
 unfold duV duC at *
 unfold ruV at *
 unfold alV at *
 simp -implicitDefEqProofs only [c4, r4, go_sem, D_callS]
 first | refine CD.intro (hru _) ?_ | refine CS.intro hru ?_
 simp -implicitDefEqProofs only [go_sem, D_callS]
 first | refine CD.intro (haa _) ?_ | refine CS.intro haa ?_
 simp -implicitDefEqProofs only [go_sem, D_callS]
 first | refine CD.intro (hab _) ?_ | refine CS.intro hab ?_
 simp -implicitDefEqProofs only [go_sem, D_callS]
 first | refine CD.intro (i1 _) ?_ | refine CS.intro i1 ?_
 simp -implicitDefEqProofs only [go_sem, D_callS]
 first | refine CD.intro (l1 _) ?_ | refine CS.intro l1 ?_
 simp -implicitDefEqProofs only [go_sem, D_callS]
 first | refine CD.intro (l2 _) ?_ | refine CS.intro l2 ?_
 simp -implicitDefEqProofs only [go_sem, D_callS, beq_same]
 first | refine CD.intro (s1 _) ?_ | refine CS.intro s1 ?_
 simp -implicitDefEqProofs only [go_sem, D_callS, beq_same]
 first | refine CD.intro (s2 _) ?_ | refine CS.intro s2 ?_
 simp -implicitDefEqProofs only [go_sem, D_callS, beq_same]
 first | refine CD.intro (t1 _) ?_ | refine CS.intro t1 ?_
 simp -implicitDefEqProofs only [go_sem, D_callS, beq_same]
 first | refine CD.intro (t2 _) ?_ | refine CS.intro t2 ?_
 simp -implicitDefEqProofs only [go_sem, D_callS, beq_same]
 first | refine CD.intro (m1 _) ?_ | refine CS.intro m1 ?_
 simp -implicitDefEqProofs only [go_sem, D_callS, beq_same]
 first | refine CD.intro (m2 _) ?_ | refine CS.intro m2 ?_
 simp -implicitDefEqProofs only [go_sem, D_callS, beq_same]
 first | refine CD.intro (n1 _) ?_ | refine CS.intro n1 ?_
 simp -implicitDefEqProofs only [go_sem, D_callS, beq_same]
 first | refine CD.intro (n2 _) ?_ | refine CS.intro n2 ?_
 simp -implicitDefEqProofs only [go_sem, D_callS, beq_same]
 first | refine CD.intro (rr_a _) ?_ | refine CS.intro rr_a ?_
 simp -implicitDefEqProofs only [go_sem]
 exact Fini.trim2 (σ' := []) rfl rfl (Nat.le_refl _) (.pl _) (fun o ho => by cases ho)
theorem own_knob : ownKnob Tryz.prog.godebug = none := by kernel_rfl
theorem laid_out : laidOutB Tryz.prog = true := by kernel_rfl
theorem ruleDrawn_lifted (os : Os) (started : os.Started) (H : Type) (enc : TypeId × Value → H) :
  ReturnsInHanded {} Tryz.checked os 4 .any (Rows.ruleDrawnSpec.pre6 enc Tryz.prog Tryz.f4 Rows.ruleDrawnRow.domain false) (Rows.ruleDrawnSpec.post enc Tryz.prog Tryz.f4 false true false false) := by
 refine returnsInHanded_of_change (C := Tryz.checked) own_knob started (by kernel_rfl) Tryz.func4
  (ChangeSpec.witness6 (enc := enc) (C := Tryz.checked) false ⟨#[], #[.agg #[.slice none 0 0, .slice none 0 0, .int .i64 0, .float .f64 0, .float .f64 0, .slice none 0 0], .agg #[.slice none 0 0, .float .f64 0], .agg #[.slice none 0 0, .float .f64 0]], []⟩ 8 (by kernel_rfl) (by kernel_rfl) (by kernel_rfl) (by kernel_rfl)) ?_
 intro W base args ds gs before hval0 hW hcnd _
 have hval : ∀ (j : Nat) t v, Tryz.f4.params[j]? = some t → args[j]? = some v → Value.okWide Tryz.prog W .any base t v := hval0
 have hW' := hW
 obtain ⟨p, q, hA0, hV, rfl, hfz, hnd⟩ := hW
 have hA : DataW.TrodAll enc Tryz.prog W 0 (fun _ => true) true Tryz.f4.params.toList args.toList ds p := hA0
 rw [Tryz.params4] at hA hval
 obtain ⟨v0, vs0, d0, ds0, a0, b0, hargs, rfl, rfl, h0, hA⟩ := trodAll_cons hA
 obtain ⟨v1, vs1, d1, ds1, a1, b1, rfl, rfl, rfl, h1, hA⟩ := trodAll_cons hA
 obtain ⟨v2, vs2, d2, ds2, a2, b2, rfl, rfl, rfl, h2, hA⟩ := trodAll_cons hA
 obtain ⟨rfl, rfl, rfl⟩ := trodAll_nil hA
 have : args = #[v0, v1, v2] := by cases args; simpa using hargs
 subst this
 obtain ⟨dd, r0⟩ := drule_arg (hval 0 47 v0 rfl rfl) h0
 obtain ⟨xa, x, r1⟩ := dalert_arg (hval 1 31 v1 rfl rfl) h1
 obtain ⟨xb, y, r2⟩ := dalert_arg (hval 2 31 v2 rfl rfl) h2
 refine (Ans.law (P := Tryz.prog) (W := W) (vs := [v0, v1, v2]) Tryz.func4 (by kernel_rfl) (by kernel_rfl) ((drn_rest dd xa xb x y)) (Reps.cons r0 (Reps.cons r1 (Reps.cons r2 Reps.nil)))).mono fun e W' ⟨v, he, hk, M', R', hr⟩ => ?_
 cases hr
 exact ⟨_, he, law_post (P := Tryz.prog) laid_out (by
   intro t ht
   rw [Tryz.params4] at ht
   have hm : t ∈ [47, 31] := by
    have := ht
    simp only [List.mem_cons, List.not_mem_nil, or_false] at this ⊢
    rcases this with h | h | h <;> simp [h]
   clear ht
   simp only [List.mem_cons, List.not_mem_nil, or_false] at hm
   rcases hm with rfl | rfl
   · exact ⟨by kernel_rfl, of_decide_eq_true (by kernel_rfl)⟩
   · exact ⟨by kernel_rfl, of_decide_eq_true (by kernel_rfl)⟩) rfl rfl (tb := 4) (by kernel_rfl) hW' (fun ds h => by
  match ds, h with
  | [_, _, _], _ => exact ⟨rfl, rfl, rfl⟩) hk⟩
theorem ruleDrawn_holds : Rows.RuleDrawnSaid :=
 OpenClaim.holds_of_wide 4 Tryz.f4 rfl rfl rfl rfl rfl rfl rfl ⟨rfl, rfl, rfl, rfl, rfl⟩ rfl rfl rfl rfl rfl (by kernel_rfl) Tryz.func4 (by kernel_rfl)
  (of_decide_eq_true (by kernel_rfl)) (by unfold Func.isWrapper; first | (rw [if_pos (by decide +kernel)]; kernel_rfl) | (rw [if_neg (by decide +kernel)]; exact ⟨rfl, rfl⟩))
  (fun os started H enc _ => ruleDrawn_lifted os started H enc)
end Go.Proofs.YtoadgajhkhejiaaGreat
