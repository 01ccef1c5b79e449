/- ChainTexts: the tied card. No condition. -/
import Derived.Test.YthlkjemalepnlaaGreatDoorLCard
set_option linter.unusedSimpArgs false
set_option linter.unusedVariables false
namespace Go.Proofs.YthlkjemalepnlaaGreatDoor
open Go Go.Ab Go.ChangeShapes Go.WideShapes Go.ChangeAt Go.RowKit
set_option maxRecDepth 100000

theorem chainTexts_lifted (os : Os) (started : os.Started) (H : Type) (enc : TypeId × Value → H) :
    ReturnsInHanded {} Tryz.checked os 4 .any (fun w args => (Rows.chainTextsSpec.pre enc Tryz.prog Tryz.f4 [] false w args ∧ laidMetH Tryz.prog laidL w) ∧ sizedMet enc Tryz.prog Tryz.f4 (OpenSpec.ofChange Rows.chainTextsSpec) false w args)
      (Rows.chainTextsSpec.post enc Tryz.prog Tryz.f4 false true false false) := by
  refine returnsInHanded_of_change_and (C := Tryz.checked) (X := fun w _ => laidMetH Tryz.prog laidL w) (fun _ _ _ hh h => h.of_heap hh) own_knob started (by kernel_rfl) Tryz.func4
    (ChangeSpec.witness_shaped (enc := enc) (C := Tryz.checked) (os := os) (X := fun w _ => laidMetH Tryz.prog laidL w) false (World.doorLaid Tryz.prog 19 os) #[.int .i64 0, .int .i64 0, .agg (Array.replicate 32 (.int .u8 0)), .agg (Array.replicate 32 (.int .u8 0)), .slice none 0 0, .slice none 0 0] 8 rfl (World.shaped_of_RefB (by kernel_rfl) (by kernel_rfl)) (by kernel_rfl) (by kernel_rfl) (by kernel_rfl) (door_met os _)) ?_
  intro W base args ds gs before hval0 hW _ _ hL _
  have hval : ∀ (j : Nat) t v, Tryz.f4.params[j]? = some t → args[j]? = some v → Value.okWide Tryz.prog W .any base t v := hval0
  have hW' := hW
  obtain ⟨p, q, hA0, hV, rfl, hfz, hnd⟩ := hW
  have hA : DataW.TrodAll enc Tryz.prog W 0 (fun _ => true) true Tryz.f4.params.toList args.toList ds p := hA0
  rw [Tryz.params4] at hA hval
  obtain ⟨v0, vs0, d0, ds0, a0, b0, hargs, rfl, rfl, h0, hA⟩ := trodAll_cons hA
  obtain ⟨v1, vs1, d1, ds1, a1, b1, rfl, rfl, rfl, h1, hA⟩ := trodAll_cons hA
  obtain ⟨v2, vs2, d2, ds2, a2, b2, rfl, rfl, rfl, h2, hA⟩ := trodAll_cons hA
  obtain ⟨v3, vs3, d3, ds3, a3, b3, rfl, rfl, rfl, h3, hA⟩ := trodAll_cons hA
  obtain ⟨v4, vs4, d4, ds4, a4, b4, rfl, rfl, rfl, h4, hA⟩ := trodAll_cons hA
  obtain ⟨v5, vs5, d5, ds5, a5, b5, rfl, rfl, rfl, h5, hA⟩ := trodAll_cons hA
  obtain ⟨rfl, rfl, rfl⟩ := trodAll_nil hA
  have : args = #[v0, v1, v2, v3, v4, v5] := by cases args; simpa using hargs
  subst this
  obtain ⟨a, ha, r0⟩ := int_arg (hval 0 3 v0 rfl rfl) h0
  obtain ⟨b, hb, r1⟩ := int_arg (hval 1 3 v1 rfl rfl) h1
  obtain ⟨ps, hp, op, r2⟩ := dig_arg (base := base) (okWide_dig (hval 2 22 v2 rfl rfl)) h2
  obtain ⟨qs, hq, oq, r3⟩ := dig_arg (base := base) (okWide_dig (hval 3 22 v3 rfl rfl)) h3
  obtain ⟨xs, ox, r4⟩ := sl_arg (hval 4 23 v4 rfl rfl) h4
  obtain ⟨ys, oy, r5⟩ := sl_arg (hval 5 23 v5 rfl rfl) h5
  refine (Ans.lawG (P := Tryz.prog) (W := W) (vs := [v0, v1, v2, v3, v4, v5]) Tryz.func4 (by kernel_rfl) (by kernel_rfl) (chainTexts_ans a b ps qs xs ys ha hb hp hq op oq ox oy chainRuns_ans) (of_laid hL) (Reps.cons (rep_any r0) (Reps.cons (rep_any r1) (Reps.cons (rep_any r2) (Reps.cons (rep_any r3) (Reps.cons (rep_any r4) (Reps.cons (rep_any r5) Reps.nil))))))).mono fun e W' ⟨v, he, hk, M', R', hr⟩ => ?_
  cases hr
  exact ⟨_, he, law_post (P := Tryz.prog) laid_out (by
      intro t ht
      rw [Tryz.params4] at ht
      refine tys_ok t ?_
      simp only [List.mem_cons, List.not_mem_nil, or_false] at ht
      rcases ht with rfl | rfl | rfl | rfl | rfl | rfl <;> simp) rfl rfl (tb := 4) (by kernel_rfl) hW' (fun ds h => by
    match ds, h with
    | [_, _, _, _, _, _], _ => exact ⟨rfl, rfl, rfl⟩) hk⟩

theorem chainTexts_holds : Rows.ChainTextsSaid :=
  OpenClaim.holds_of_wide 4 Tryz.f4 rfl rfl rfl rfl rfl rfl rfl ⟨rfl, rfl, rfl, rfl, rfl⟩ rfl rfl rfl rfl rfl (by kernel_rfl) Tryz.func4 (by kernel_rfl)
    (of_decide_eq_true (by kernel_rfl)) (by unfold Func.isWrapper; first | (rw [if_pos (by decide +kernel)]; kernel_rfl) | (rw [if_neg (by decide +kernel)]; exact ⟨rfl, rfl⟩))
    (fun os started H enc _ => chainTexts_lifted os started H enc)

theorem chainTexts_card_holds : Rows.ChainTextsCardSaid :=
  Claim7.holds_tied_plain_at .later [] [.data, .data] true (true, "8c7f9782229915ed5f077410046bf355ff7aaa926f919cb81e2d44852ebf8dbe") false
    chainTexts_holds (fun _ h => by cases h) (by kernel_rfl) (fun _ h => by cases h) chainTexts_row_tie rfl ⟨rfl, rfl⟩ (by kernel_rfl) rfl
    (fun f fn hf hfn => by
      obtain rfl : f = 4 := Option.some.inj ((show Tryz.prog.funcNamed "sordine/sordinelaw23.ChainTexts" = some 4 by kernel_rfl).symm.trans hf) |>.symm
      obtain rfl : fn = Tryz.f4 := (Option.some.inj (Tryz.func4.symm.trans hfn)).symm
      exact ⟨by kernel_rfl, fun j t ht => by
        rw [Tryz.params4] at ht
        have hm : t ∈ [3, 22, 23] := by
          have := Array.mem_of_getElem? ht
          simp only [List.mem_toArray, List.mem_cons, List.not_mem_nil, or_false] at this
          rcases this with rfl | rfl | rfl | rfl | rfl | rfl <;> simp
        have hall : ([3, 22, 23].all fun u => !Tryz.prog.wantsStandIn u) = true := by kernel_rfl
        exact (show Tryz.prog.wantsStandIn t = false by simpa using List.all_eq_true.1 hall t hm)⟩)
    (by kernel_rfl)
end Go.Proofs.YthlkjemalepnlaaGreatDoor
