/- MatchBytes answers true at any input. No condition. -/
import Derived.Test.YtoadgajhkhejiaaMr4
import Derived.Test.YtoadgajhkhejiaaPDoc1
set_option linter.unusedSimpArgs false
set_option linter.unusedVariables false
namespace Go.Proofs.Ytoadgajhkhejiaa
open Go Go.Ab Go.Cod Go.ChangeShapes Go.WideShapes Go.ChangeAt Go.RowKit
set_option maxRecDepth 100000
theorem mr_by (σ : St) : Ans Try.prog 14 [] σ (Bo true) σ := mr_ok.frame (bel_all rfl) σ
theorem matchBytes_ans (M : List Mtr) (b : Byt) : Ans Try.prog 11 [.sl 3 (mvs3 M), .sl 1 (byv b)] [] (.pl (.bool true)) [] := by
  · have hsm : ∀ σ, Ans Try.prog 13 [.sl 3 (mvs3 M), .nils] σ (Bo (smallB M [])) σ := fun σ => (small_ans σ M []).subA (.cons (.refl _) (.cons (.nils 2) .nil))
    refine Ans.of_run t11 ?_
    simp -implicitDefEqProofs only [c11, r11, go_sem, List.reduceReplicate, Nat.reduceAdd, Nat.reduceSub, Nat.reduceLT, Nat.reduceLeDiff, Nat.reduceMul, Nat.reduceEqDiff, reduceCtorEq, Int.reduceLE, Int.reduceLT, Int.reduceEq, Int.reduceNe, Int.reduceBEq, Int.reduceBNe, Int.reduceAdd, Int.reduceSub]
    refine CO.intro (hsm _) ?_
    have d0 : decide ((300 : Int) < b.length) = decide (300 < b.length) := decNN 300 _
    cases hs : smallB M [] with
    | false =>
      simp -implicitDefEqProofs only [go_sem, List.reduceReplicate, Nat.reduceAdd, Nat.reduceSub, Nat.reduceLT, Nat.reduceLeDiff, Nat.reduceMul, Nat.reduceEqDiff, reduceCtorEq, Int.reduceLE, Int.reduceLT, Int.reduceEq, Int.reduceNe, Int.reduceBEq, Int.reduceBNe, Int.reduceAdd, Int.reduceSub]
      refine CO.intro (mr_by _) ?_
      simp -implicitDefEqProofs only [go_sem, List.reduceReplicate, Nat.reduceAdd, Nat.reduceSub, Nat.reduceLT, Nat.reduceLeDiff, Nat.reduceMul, Nat.reduceEqDiff, reduceCtorEq, Int.reduceLE, Int.reduceLT, Int.reduceEq, Int.reduceNe, Int.reduceBEq, Int.reduceBNe, Int.reduceAdd, Int.reduceSub]
      exact Fini.ret rfl
    | true =>
    by_cases hb : 300 < b.length
    · simp -implicitDefEqProofs only [go_sem, List.reduceReplicate, Nat.reduceAdd, Nat.reduceSub, Nat.reduceLT, Nat.reduceLeDiff, Nat.reduceMul, Nat.reduceEqDiff, reduceCtorEq, Int.reduceLE, Int.reduceLT, Int.reduceEq, Int.reduceNe, Int.reduceBEq, Int.reduceBNe, Int.reduceAdd, Int.reduceSub, byv_len, d0, decide_eq_true hb]
      refine CO.intro (mr_by _) ?_
      simp -implicitDefEqProofs only [go_sem, List.reduceReplicate, Nat.reduceAdd, Nat.reduceSub, Nat.reduceLT, Nat.reduceLeDiff, Nat.reduceMul, Nat.reduceEqDiff, reduceCtorEq, Int.reduceLE, Int.reduceLT, Int.reduceEq, Int.reduceNe, Int.reduceBEq, Int.reduceBNe, Int.reduceAdd, Int.reduceSub]
      exact Fini.ret rfl
    · have hsz : ∀ x ∈ M, x.2.1.size ≤ 100000 := by
        intro x hx
        unfold smallB at hs
        simp only [Bool.and_eq_true, decide_eq_true_eq] at hs
        have h2 := weighL_len (M.map matP) 0 hs.1
        have := (h2.2 (matP x) (List.mem_map.2 ⟨x, hx, rfl⟩)).1
        simp only [matP] at this
        omega
      simp -implicitDefEqProofs only [go_sem, List.reduceReplicate, Nat.reduceAdd, Nat.reduceSub, Nat.reduceLT, Nat.reduceLeDiff, Nat.reduceMul, Nat.reduceEqDiff, reduceCtorEq, Int.reduceLE, Int.reduceLT, Int.reduceEq, Int.reduceNe, Int.reduceBEq, Int.reduceBNe, Int.reduceAdd, Int.reduceSub, byv_len, d0, decide_eq_false hb]
      refine CO.intro (mread_ans _ b (by omega)) ?_
      have i1 := fun σ => mbytes_ans σ M
      have i2 := fun σ => dbytes_ans σ M hsz
      generalize bytesL M = bl at i1 i2
      have key : ∀ (A : List Mtr) (k : Nat) (ok : Bool), A.length ≤ 1000 → readV (listR b) b (fun M => .sl 3 (mvs3 M)) (.sl 3 []) = .tup [.sl 3 (mvs3 A), I k, Bo ok] →
          ∀ σ, Ans Try.prog 45 [.sl 3 (mvs3 A), .sl 3 (mvs3 A)] σ (Bo true) σ := fun A k ok hA _ σ => by
        have := samem_ans σ A A hA
        rw [sameM_refl] at this; exact this
      obtain ⟨A, k, ok, hA, hv⟩ : ∃ (A : List Mtr) (k : Nat) (ok : Bool), A.length ≤ 1000 ∧ readV (listR b) b (fun M => .sl 3 (mvs3 M)) (.sl 3 []) = .tup [.sl 3 (mvs3 A), I k, Bo ok] := by
        unfold readV
        cases hr : listR b with
        | none => exact ⟨[], 0, false, by simp, rfl⟩
        | some p => exact ⟨p.1, _, true, by have := (listB_at (listB_fits.bwd b p.1 p.2 hr).1).1; omega, rfl⟩
      have hsm2 := key A k ok hA hv
      have hd := dread_ans [] b (by omega)
      rw [hv] at hd ⊢
      have e0 : ∀ b : Bool, (b == b) = true := fun b => by cases b <;> rfl
      simp -implicitDefEqProofs only [go_sem, List.reduceReplicate, Nat.reduceAdd, Nat.reduceSub, Nat.reduceLT, Nat.reduceLeDiff, Nat.reduceMul, Nat.reduceEqDiff, reduceCtorEq, Int.reduceLE, Int.reduceLT, Int.reduceEq, Int.reduceNe, Int.reduceBEq, Int.reduceBNe, Int.reduceAdd, Int.reduceSub]
      refine CO.intro hd ?_
      simp -implicitDefEqProofs only [go_sem, List.reduceReplicate, Nat.reduceAdd, Nat.reduceSub, Nat.reduceLT, Nat.reduceLeDiff, Nat.reduceMul, Nat.reduceEqDiff, reduceCtorEq, Int.reduceLE, Int.reduceLT, Int.reduceEq, Int.reduceNe, Int.reduceBEq, Int.reduceBNe, Int.reduceAdd, Int.reduceSub]
      refine CD.intro (i1 _) ?_
      simp -implicitDefEqProofs only [go_sem, List.reduceReplicate, Nat.reduceAdd, Nat.reduceSub, Nat.reduceLT, Nat.reduceLeDiff, Nat.reduceMul, Nat.reduceEqDiff, reduceCtorEq, Int.reduceLE, Int.reduceLT, Int.reduceEq, Int.reduceNe, Int.reduceBEq, Int.reduceBNe, Int.reduceAdd, Int.reduceSub, byv_all', bc, byteL_byv, textOf_byv, AV.isStr]
      refine CD.intro (i2 _) ?_
      simp -implicitDefEqProofs only [go_sem, List.reduceReplicate, Nat.reduceAdd, Nat.reduceSub, Nat.reduceLT, Nat.reduceLeDiff, Nat.reduceMul, Nat.reduceEqDiff, reduceCtorEq, Int.reduceLE, Int.reduceLT, Int.reduceEq, Int.reduceNe, Int.reduceBEq, Int.reduceBNe, Int.reduceAdd, Int.reduceSub, byv_all', bc, byteL_byv, textOf_byv, AV.isStr, e0]
      refine CD.intro (hsm2 _) ?_
      simp -implicitDefEqProofs only [go_sem, List.reduceReplicate, Nat.reduceAdd, Nat.reduceSub, Nat.reduceLT, Nat.reduceLeDiff, Nat.reduceMul, Nat.reduceEqDiff, reduceCtorEq, Int.reduceLE, Int.reduceLT, Int.reduceEq, Int.reduceNe, Int.reduceBEq, Int.reduceBNe, Int.reduceAdd, Int.reduceSub]
      refine CD.intro (mr_by _) ?_
      simp -implicitDefEqProofs only [go_sem, List.reduceReplicate, Nat.reduceAdd, Nat.reduceSub, Nat.reduceLT, Nat.reduceLeDiff, Nat.reduceMul, Nat.reduceEqDiff, reduceCtorEq, Int.reduceLE, Int.reduceLT, Int.reduceEq, Int.reduceNe, Int.reduceBEq, Int.reduceBNe, Int.reduceAdd, Int.reduceSub]
      exact Fini.ret rfl
theorem own_knob : ownKnob Try.prog.godebug = none := by kernel_rfl
theorem laid_out : laidOutB Try.prog = true := by kernel_rfl
theorem matchBytes_lifted (os : Os) (started : os.Started) (H : Type) (enc : TypeId × Value → H) :
    ReturnsInHanded {} Try.checked os 11 .any (Rows.matchBytesSpec.pre6 enc Try.prog Try.f11 Rows.matchBytesRow.domain false) (Rows.matchBytesSpec.post enc Try.prog Try.f11 false true false false) := by
  refine returnsInHanded_of_change (C := Try.checked) own_knob started (by kernel_rfl) Try.func11
    (ChangeSpec.witness6 (enc := enc) (C := Try.checked) false ⟨#[], #[.slice none 0 0, .slice none 0 0], []⟩ 8 (by kernel_rfl) (by kernel_rfl) (by kernel_rfl) (by kernel_rfl)) ?_
  intro W base args ds gs before hval0 hW hcnd _
  have hval : ∀ (j : Nat) t v, Try.f11.params[j]? = some t → args[j]? = some v → Value.okWide Try.prog W .any base t v := hval0
  have hW' := hW
  obtain ⟨p, q, hA0, hV, rfl, hfz, hnd⟩ := hW
  have hA : DataW.TrodAll enc Try.prog W 0 (fun _ => true) true Try.f11.params.toList args.toList ds p := hA0
  rw [Try.params11] at hA hval
  obtain ⟨v0, vs0, d0, ds0, a0, b0, hargs, rfl, rfl, h0, hA⟩ := trodAll_cons hA
  obtain ⟨v1, vs1, d1, ds1, a1, b1, rfl, rfl, rfl, h1, hA⟩ := trodAll_cons hA
  obtain ⟨rfl, rfl, rfl⟩ := trodAll_nil hA
  have : args = #[v0, v1] := by cases args; simpa using hargs
  subst this
  obtain ⟨M, r0⟩ := mtrs_arg (hval 0 26 v0 rfl rfl) h0
  obtain ⟨b, r1⟩ := byts_arg (hval 1 69 v1 rfl rfl) h1
  refine (Ans.law (P := Try.prog) (W := W) (vs := [v0, v1]) Try.func11 (by kernel_rfl) (by kernel_rfl) (matchBytes_ans M b) (Reps.cons r0 (Reps.cons r1 Reps.nil))).mono fun e W' ⟨v, he, hk, M', R', hr⟩ => ?_
  cases hr
  exact ⟨_, he, law_post (P := Try.prog) laid_out (by
      intro t ht
      rw [Try.params11] at ht
      simp only [List.mem_cons, List.not_mem_nil, or_false] at ht
      rcases ht with rfl | rfl
      · exact ⟨by kernel_rfl, of_decide_eq_true (by kernel_rfl)⟩
      · exact ⟨by kernel_rfl, of_decide_eq_true (by kernel_rfl)⟩) rfl rfl (tb := 4) (by kernel_rfl) hW' (fun ds h => by
    match ds, h with
    | [_, _], _ => exact ⟨rfl, rfl, rfl⟩) hk⟩
theorem matchBytes_holds : Rows.MatchBytesSaid :=
  OpenClaim.holds_of_wide 11 Try.f11 rfl rfl rfl rfl rfl rfl rfl ⟨rfl, rfl, rfl, rfl, rfl⟩ rfl rfl rfl rfl rfl (by kernel_rfl) Try.func11 (by kernel_rfl)
    (of_decide_eq_true (by kernel_rfl)) (by unfold Func.isWrapper; first | (rw [if_pos (by decide +kernel)]; kernel_rfl) | (rw [if_neg (by decide +kernel)]; exact ⟨rfl, rfl⟩))
    (fun os started H enc _ => matchBytes_lifted os started H enc)
end Go.Proofs.Ytoadgajhkhejiaa
