/- RuleAsk answers true at any input. No condition. -/
import Derived.Test.YtoadgajhkhejiaaGreatYNine3A
import Derived.Test.YtoadgajhkhejiaaGreatYPDoc1A
set_option linter.unusedSimpArgs false
set_option linter.unusedVariables false
namespace Go.Proofs.YtoadgajhkhejiaaGreat
open Go Go.Ab Go.ChangeShapes Go.WideShapes Go.ChangeAt Go.RowKit
set_option maxRecDepth 100000
theorem beq_same' (b : Bool) : (b == b) = true := by cases b <;> rfl
theorem weigh_sm {r : RuM} (h : ¬ 300 < weighR r) : RSm r ∧ r.eq.length ≤ 300 := by
 have h1 := weighS_len r.eq (weigh2 r) (by unfold weighR at h; omega)
 have h2 : weigh2 r ≤ 300 := by omega
 have h3 : weighL (r.src.map matP) 0 ≤ 300 ∧ weighL (r.tgt.map matP) 0 ≤ 300 := by
  unfold weigh2 at h2
  split at h2 <;> omega
 have w1 := weighL_len _ _ h3.1
 have w2 := weighL_len _ _ h3.2
 refine ⟨⟨fun x hx => ?_, fun x hx => ?_, fun s hs => ?_⟩, by omega⟩
 · have := (w1.2 (matP x) (List.mem_map.2 ⟨x, hx, rfl⟩)).1
   simp only [matP] at this
   omega
 · have := (w2.2 (matP x) (List.mem_map.2 ⟨x, hx, rfl⟩)).1
   simp only [matP] at this
   omega
 · have := h1.2 s hs
   omega
theorem ask_rest (q : RuM) (xa : List Int) (x : Nat) : Ans Tryz.prog 3 [ruV q, daV xa x] [] (.pl (.bool true)) [] := by
 have haa := fun σ => alert_ans σ xa x
 have hgx := drawnLabs_get xa
 have hlx : (drawnLabs xa).length ≤ 1000 := by have := (drawnLabs_ok xa).1; omega
 have hw := fun σ => weighrule_ans σ q
 have d3 : decide ((300 : Int) < weighR q) = decide (300 < weighR q) := decNN 300 _
 have hsm := fun h => @weigh_sm q h
 generalize weighR q = w at hw d3 hsm
 have i1 := fun σ => ruis_ans σ q
 have l1 := fun σ => rularge_ans σ q
 have s1 := fun σ => rusrc_ans σ q 0 _ x hlx hgx
 have t1 := fun σ => rutgt_ans σ q 0 _ x hlx hgx
 refine Ans.of_run t3 ?_
 by_cases hb : 300 < w
 · rw [decide_eq_true hb] at d3
   unfold ruV at *
   simp -implicitDefEqProofs only [c3, r3, go_sem]
   refine CO.intro (hw _) ?_
   simp -implicitDefEqProofs only [go_sem, d3]
   refine CO.intro (rr_a _) ?_
   simp -implicitDefEqProofs only [go_sem]
   exact Fini.trim2 (σ' := []) rfl rfl (Nat.le_refl _) (.pl _) (fun o ho => by cases ho)
 · rw [decide_eq_false hb] at d3
   obtain ⟨hsm, hq4⟩ := hsm hb
   have i2 := fun σ => druis_ans σ q hsm
   have l2 := fun σ => drularge_ans σ q hsm
   have s2 := fun σ => drusrc_ans σ q hsm 0 _ x hlx hgx
   have t2 := fun σ => drutgt_ans σ q hsm 0 _ x hlx hgx
   have k1 := fun σ => key_ans σ q 0 _ x hlx hgx (by omega)
   have k2 := fun σ => dproject_ans σ _ q.eq hlx hgx (by omega)
   clear hsm hgx hlx
   generalize (⟨(keyL (drawnLabs xa) q.eq).toArray⟩ : ByteArray) = ky at *
   generalize ruSrc q (drawnLabs xa) x = bs at *
   generalize ruTgt q (drawnLabs xa) = bt at *
   generalize ruLarge q = bl at *
   generalize ruIs q = bi at *
   generalize drawnLabs xa = Lx at *
   have hk : (ky.toList == ky.toList) = true := by simp
   unfold ruV at *
   unfold alV at *
   simp -implicitDefEqProofs only [c3, r3, go_sem]
   refine CO.intro (hw _) ?_
   simp -implicitDefEqProofs only [go_sem, d3]
   refine CO.intro (haa _) ?_
   simp -implicitDefEqProofs only [go_sem, D_callS]
   first | refine CD.intro (i1 _) ?_ | refine CS.intro i1 ?_
   simp -implicitDefEqProofs only [go_sem, D_callS, beq_same']
   first | refine CD.intro (i2 _) ?_ | refine CS.intro i2 ?_
   simp -implicitDefEqProofs only [go_sem, D_callS, beq_same']
   first | refine CD.intro (l1 _) ?_ | refine CS.intro l1 ?_
   simp -implicitDefEqProofs only [go_sem, D_callS, beq_same']
   first | refine CD.intro (l2 _) ?_ | refine CS.intro l2 ?_
   simp -implicitDefEqProofs only [go_sem, D_callS, beq_same']
   first | refine CD.intro (s1 _) ?_ | refine CS.intro s1 ?_
   simp -implicitDefEqProofs only [go_sem, D_callS, beq_same']
   first | refine CD.intro (s2 _) ?_ | refine CS.intro s2 ?_
   simp -implicitDefEqProofs only [go_sem, D_callS, beq_same']
   first | refine CD.intro (t1 _) ?_ | refine CS.intro t1 ?_
   simp -implicitDefEqProofs only [go_sem, D_callS, beq_same']
   first | refine CD.intro (t2 _) ?_ | refine CS.intro t2 ?_
   simp -implicitDefEqProofs only [go_sem, D_callS, beq_same']
   first | refine CD.intro (k1 _) ?_ | refine CS.intro k1 ?_
   simp -implicitDefEqProofs only [go_sem, D_callS, beq_same']
   first | refine CD.intro (k2 _) ?_ | refine CS.intro k2 ?_
   simp -implicitDefEqProofs only [go_sem, D_callS, beq_same', hk]
   first | refine CD.intro (rr_a _) ?_ | refine CS.intro rr_a ?_
   simp -implicitDefEqProofs only [go_sem]
   exact Fini.trim2 (σ' := []) rfl rfl (Nat.le_refl _) (.pl _) (fun o ho => by cases ho)
theorem own_knob : ownKnob Tryz.prog.godebug = none := by kernel_rfl
theorem laid_out : laidOutB Tryz.prog = true := by kernel_rfl
theorem ruleAsk_lifted (os : Os) (started : os.Started) (H : Type) (enc : TypeId × Value → H) :
  ReturnsInHanded {} Tryz.checked os 3 .any (Rows.ruleAskSpec.pre6 enc Tryz.prog Tryz.f3 Rows.ruleAskRow.domain false) (Rows.ruleAskSpec.post enc Tryz.prog Tryz.f3 false true false false) := by
 refine returnsInHanded_of_change (C := Tryz.checked) own_knob started (by kernel_rfl) Tryz.func3
  (ChangeSpec.witness6 (enc := enc) (C := Tryz.checked) false ⟨#[], #[.agg #[.slice none 0 0, .slice none 0 0, .bool false, .float .f64 0, .float .f64 0, .slice none 0 0], .agg #[.slice none 0 0, .float .f64 0]], []⟩ 8 (by kernel_rfl) (by kernel_rfl) (by kernel_rfl) (by kernel_rfl)) ?_
 intro W base args ds gs before hval0 hW hcnd _
 have hval : ∀ (j : Nat) t v, Tryz.f3.params[j]? = some t → args[j]? = some v → Value.okWide Tryz.prog W .any base t v := hval0
 have hW' := hW
 obtain ⟨p, q, hA0, hV, rfl, hfz, hnd⟩ := hW
 have hA : DataW.TrodAll enc Tryz.prog W 0 (fun _ => true) true Tryz.f3.params.toList args.toList ds p := hA0
 rw [Tryz.params3] at hA hval
 obtain ⟨v0, vs0, d0, ds0, a0, b0, hargs, rfl, rfl, h0, hA⟩ := trodAll_cons hA
 obtain ⟨v1, vs1, d1, ds1, a1, b1, rfl, rfl, rfl, h1, hA⟩ := trodAll_cons hA
 obtain ⟨rfl, rfl, rfl⟩ := trodAll_nil hA
 have : args = #[v0, v1] := by cases args; simpa using hargs
 subst this
 obtain ⟨r, r0⟩ := rule_arg (hval 0 28 v0 rfl rfl) h0
 obtain ⟨xa, x, r1⟩ := dalert_arg (hval 1 31 v1 rfl rfl) h1
 refine (Ans.law (P := Tryz.prog) (W := W) (vs := [v0, v1]) Tryz.func3 (by kernel_rfl) (by kernel_rfl) ((ask_rest r xa x)) (Reps.cons r0 (Reps.cons r1 Reps.nil))).mono fun e W' ⟨v, he, hk, M', R', hr⟩ => ?_
 cases hr
 exact ⟨_, he, law_post (P := Tryz.prog) laid_out (by
   intro t ht
   rw [Tryz.params3] at ht
   have hm : t ∈ [28, 31] := by
    have := ht
    simp only [List.mem_cons, List.not_mem_nil, or_false] at this ⊢
    rcases this with h | h <;> simp [h]
   clear ht
   simp only [List.mem_cons, List.not_mem_nil, or_false] at hm
   rcases hm with rfl | rfl
   · exact ⟨by kernel_rfl, of_decide_eq_true (by kernel_rfl)⟩
   · exact ⟨by kernel_rfl, of_decide_eq_true (by kernel_rfl)⟩) rfl rfl (tb := 4) (by kernel_rfl) hW' (fun ds h => by
  match ds, h with
  | [_, _], _ => exact ⟨rfl, rfl, rfl⟩) hk⟩
theorem ruleAsk_holds : Rows.RuleAskSaid :=
 OpenClaim.holds_of_wide 3 Tryz.f3 rfl rfl rfl rfl rfl rfl rfl ⟨rfl, rfl, rfl, rfl, rfl⟩ rfl rfl rfl rfl rfl (by kernel_rfl) Tryz.func3 (by kernel_rfl)
  (of_decide_eq_true (by kernel_rfl)) (by unfold Func.isWrapper; first | (rw [if_pos (by decide +kernel)]; kernel_rfl) | (rw [if_neg (by decide +kernel)]; exact ⟨rfl, rfl⟩))
  (fun os started H enc _ => ruleAsk_lifted os started H enc)
end Go.Proofs.YtoadgajhkhejiaaGreat
