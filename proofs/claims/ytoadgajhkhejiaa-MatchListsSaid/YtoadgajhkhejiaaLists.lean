/- MatchLists answers true at any input. No condition. -/
import Derived.Test.YtoadgajhkhejiaaLs4
import Derived.Test.YtoadgajhkhejiaaMArg
set_option linter.unusedSimpArgs false
set_option linter.unusedVariables false
namespace Go.Proofs.Ytoadgajhkhejiaa
open Go Go.Ab Go.ChangeShapes Go.WideShapes Go.ChangeAt Go.RowKit
set_option maxRecDepth 100000
theorem anylarge_ans (σ : St) (M : List Mtr) (hM : M.length ≤ 1000) : Ans Try.prog 27 [.sl 3 (mvs3 M)] σ (Bo (anyLarge M)) σ := by
  refine Ans.of_run t27 ?_
  simp -implicitDefEqProofs only [c27, r27, go_sem, List.reduceReplicate, Nat.reduceAdd, Nat.reduceSub, Nat.reduceLT, Nat.reduceLeDiff, Nat.reduceMul, Nat.reduceEqDiff, reduceCtorEq, Int.reduceLE, Int.reduceLT, Int.reduceEq, Int.reduceNe, Int.reduceBEq, Int.reduceBNe, Int.reduceAdd, Int.reduceSub]
  refine CO.intro (mcontains_ans σ M 18 [] [] largeM (fun x => large_any σ x.1 x.2.1 x.2.2) hM) ?_
  simp -implicitDefEqProofs only [go_sem, List.reduceReplicate, Nat.reduceAdd, Nat.reduceSub, Nat.reduceLT, Nat.reduceLeDiff, Nat.reduceMul, Nat.reduceEqDiff, reduceCtorEq, Int.reduceLE, Int.reduceLT, Int.reduceEq, Int.reduceNe, Int.reduceBEq, Int.reduceBNe, Int.reduceAdd, Int.reduceSub]
  exact Fini.ret rfl
theorem nothold_ans (σ : St) (L : List Lab) (hl : L.length ≤ 1000) (hL : ∀ nm, (getL L nm).size ≤ 100000) (x : Mtr) : Ans Try.prog 68 [mv3 x, .rp [.sl 2 (lvs L)]] σ (Bo (!holdsM L x)) σ := by
  have h := holds_any σ x.1 x.2.1 x.2.2 (.sl 2 (lvs L)) (getL L x.2.1) (fun σ => get_ans σ L x.2.1 hl) (hL _)
  refine Ans.of_run t68 ?_
  unfold holdsM
  simp -implicitDefEqProofs only [c68, r68, go_sem, List.reduceReplicate, Nat.reduceAdd, Nat.reduceSub, Nat.reduceLT, Nat.reduceLeDiff, Nat.reduceMul, Nat.reduceEqDiff, reduceCtorEq, Int.reduceLE, Int.reduceLT, Int.reduceEq, Int.reduceNe, Int.reduceBEq, Int.reduceBNe, Int.reduceAdd, Int.reduceSub, mv3]
  refine CO.intro h ?_
  simp -implicitDefEqProofs only [go_sem, List.reduceReplicate, Nat.reduceAdd, Nat.reduceSub, Nat.reduceLT, Nat.reduceLeDiff, Nat.reduceMul, Nat.reduceEqDiff, reduceCtorEq, Int.reduceLE, Int.reduceLT, Int.reduceEq, Int.reduceNe, Int.reduceBEq, Int.reduceBNe, Int.reduceAdd, Int.reduceSub]
  exact Fini.ret rfl
theorem all_any (σ : St) (M : List Mtr) (L : List Lab) (hM : M.length ≤ 1000) (hl : L.length ≤ 1000) (hL : ∀ nm, (getL L nm).size ≤ 100000) : Ans Try.prog 25 [.sl 3 (mvs3 M), .sl 2 (lvs L)] σ (Bo (allHold M L)) σ := by
  have h := mcontains_ans σ M 68 [] [.rp [.sl 2 (lvs L)]] (fun x => !holdsM L x) (fun x => nothold_ans σ L hl hL x) hM
  have he : (!((List.range M.length).any fun i => !holdsM L (M.getD i noM3))) = allHold M L := by
    unfold allHold
    rw [List.not_any_eq_all_not]; simp
  rw [← he]
  refine Ans.of_run t25 ?_
  simp -implicitDefEqProofs only [c25, r25, go_sem, List.reduceReplicate, Nat.reduceAdd, Nat.reduceSub, Nat.reduceLT, Nat.reduceLeDiff, Nat.reduceMul, Nat.reduceEqDiff, reduceCtorEq, Int.reduceLE, Int.reduceLT, Int.reduceEq, Int.reduceNe, Int.reduceBEq, Int.reduceBNe, Int.reduceAdd, Int.reduceSub]
  refine CO.intro h ?_
  simp -implicitDefEqProofs only [go_sem, List.reduceReplicate, Nat.reduceAdd, Nat.reduceSub, Nat.reduceLT, Nat.reduceLeDiff, Nat.reduceMul, Nat.reduceEqDiff, reduceCtorEq, Int.reduceLE, Int.reduceLT, Int.reduceEq, Int.reduceNe, Int.reduceBEq, Int.reduceBNe, Int.reduceAdd, Int.reduceSub]
  exact Fini.ret rfl
theorem mr_ls (σ : St) : Ans Try.prog 14 [] σ (Bo true) σ := mr_ok.frame (bel_all rfl) σ
theorem lists_ans (M : List Mtr) (L : List Lab) : Ans Try.prog 7 [.sl 3 (mvs3 M), .sl 2 (lvs L)] [] (.pl (.bool true)) [] := by
  refine Ans.of_run t7 ?_
  simp -implicitDefEqProofs only [c7, r7, go_sem, List.reduceReplicate, Nat.reduceAdd, Nat.reduceSub, Nat.reduceLT, Nat.reduceLeDiff, Nat.reduceMul, Nat.reduceEqDiff, reduceCtorEq, Int.reduceLE, Int.reduceLT, Int.reduceEq, Int.reduceNe, Int.reduceBEq, Int.reduceBNe, Int.reduceAdd, Int.reduceSub]
  refine CO.intro (small_ans _ M L) ?_
  cases hs : smallB M L with
  | false =>
    simp -implicitDefEqProofs only [go_sem, List.reduceReplicate, Nat.reduceAdd, Nat.reduceSub, Nat.reduceLT, Nat.reduceLeDiff, Nat.reduceMul, Nat.reduceEqDiff, reduceCtorEq, Int.reduceLE, Int.reduceLT, Int.reduceEq, Int.reduceNe, Int.reduceBEq, Int.reduceBNe, Int.reduceAdd, Int.reduceSub]
    refine CO.intro (mr_ls _) ?_
    simp -implicitDefEqProofs only [go_sem, List.reduceReplicate, Nat.reduceAdd, Nat.reduceSub, Nat.reduceLT, Nat.reduceLeDiff, Nat.reduceMul, Nat.reduceEqDiff, reduceCtorEq, Int.reduceLE, Int.reduceLT, Int.reduceEq, Int.reduceNe, Int.reduceBEq, Int.reduceBNe, Int.reduceAdd, Int.reduceSub]
    exact Fini.ret rfl
  | true =>
  have hsz : (L.length ≤ 300 ∧ ∀ x ∈ L, x.2.size ≤ 300) ∧ M.length ≤ 300 ∧ ∀ x ∈ M, x.2.1.size ≤ 300 := by
    unfold smallB at hs
    simp only [Bool.and_eq_true, decide_eq_true_eq] at hs
    have := weighL_len (L.map labP) 0 hs.2
    have h2 := weighL_len (M.map matP) 0 hs.1
    refine ⟨⟨by simpa using this.1, fun x hx => ?_⟩, by simpa using h2.1, fun x hx => ?_⟩
    · exact (this.2 (labP x) (List.mem_map.2 ⟨x, hx, rfl⟩)).2
    · exact (h2.2 (matP x) (List.mem_map.2 ⟨x, hx, rfl⟩)).1
  simp -implicitDefEqProofs only [go_sem, List.reduceReplicate, Nat.reduceAdd, Nat.reduceSub, Nat.reduceLT, Nat.reduceLeDiff, Nat.reduceMul, Nat.reduceEqDiff, reduceCtorEq, Int.reduceLE, Int.reduceLT, Int.reduceEq, Int.reduceNe, Int.reduceBEq, Int.reduceBNe, Int.reduceAdd, Int.reduceSub]
  refine Go.Ab.L.scan L.length (fun i => !decide (30 < (L.getD i noL).2.size)) (fun i => mkE 49 [(0, .sl 3 (mvs3 M)), (1, .sl 2 (lvs L)), (5, I i)]) (fun _ => []) ?_ ?_ rfl rfl
  · intro i hi hp J hJ
    have hx := lvs_get L i hi
    have hgd : L.getD i noL = L[i] := by rw [List.getD_eq_getElem?_getD, List.getElem?_eq_getElem hi]; rfl
    rw [hgd] at hJ
    generalize L[i] = x at hx hJ
    obtain ⟨a, b⟩ := x
    have d3 : decide ((30 : Int) < b.size) = decide (30 < b.size) := decN 30 _
    have hin := wrap_nat (n := i) (by omega)
    simp only [lv] at hx
    simp -implicitDefEqProofs only [mkE, List.foldl_cons, List.foldl_nil, go_sem, List.reduceReplicate, Nat.reduceAdd, Nat.reduceSub, Nat.reduceLT, Nat.reduceLeDiff, Nat.reduceMul, Nat.reduceEqDiff, reduceCtorEq, Int.reduceLE, Int.reduceLT, Int.reduceEq, Int.reduceNe, Int.reduceBEq, Int.reduceBNe, Int.reduceAdd, Int.reduceSub, lvs_len, nat_lt hi, dec_lt hi, hx, d3]
    cases hb : decide (30 < b.size) with
    | true =>
      simp -implicitDefEqProofs only [go_sem, List.reduceReplicate, Nat.reduceAdd, Nat.reduceSub, Nat.reduceLT, Nat.reduceLeDiff, Nat.reduceMul, Nat.reduceEqDiff, reduceCtorEq, Int.reduceLE, Int.reduceLT, Int.reduceEq, Int.reduceNe, Int.reduceBEq, Int.reduceBNe, Int.reduceAdd, Int.reduceSub]
      refine CO.intro (mr_ls _) ?_
      simp -implicitDefEqProofs only [go_sem, List.reduceReplicate, Nat.reduceAdd, Nat.reduceSub, Nat.reduceLT, Nat.reduceLeDiff, Nat.reduceMul, Nat.reduceEqDiff, reduceCtorEq, Int.reduceLE, Int.reduceLT, Int.reduceEq, Int.reduceNe, Int.reduceBEq, Int.reduceBNe, Int.reduceAdd, Int.reduceSub]
      exact Fini.ret rfl
    | false =>
      simp only [hb] at hJ
      simp -implicitDefEqProofs only [go_sem, List.reduceReplicate, Nat.reduceAdd, Nat.reduceSub, Nat.reduceLT, Nat.reduceLeDiff, Nat.reduceMul, Nat.reduceEqDiff, reduceCtorEq, Int.reduceLE, Int.reduceLT, Int.reduceEq, Int.reduceNe, Int.reduceBEq, Int.reduceBNe, Int.reduceAdd, Int.reduceSub, hin]
      exact hJ rfl
  · intro hp J
    have hlt : ¬ L.length < L.length := Nat.lt_irrefl _
    have hL : ∀ nm, (getL L nm).size ≤ 100000 := fun nm => by
      rcases getL_mem L nm with h | ⟨x, hx, h⟩
      · rw [h]; decide
      · rw [h]; have := hsz.1.2 x hx; omega
    have hn : ∀ x ∈ M, x.2.1.size ≤ 100000 := fun x hx => by have := hsz.2.2 x hx; omega
    have i1 := fun σ => list_any σ M
    have i2 := fun σ => dlist_ans σ M hn
    have l1 := fun σ => anylarge_ans σ M (by omega)
    have l2 := fun σ => danylarge_ans σ M (by omega) hn
    have o1 := fun σ => all_any σ M L (by omega) (by omega) hL
    have o2 := fun σ => dall_ans σ M L (by omega) (by omega) hn hL
    generalize listB M = b1 at i1 i2
    generalize anyLarge M = b2 at l1 l2
    generalize allHold M L = b3 at o1 o2
    have e0 : ∀ b : Bool, (b == b) = true := fun b => by cases b <;> rfl
    simp -implicitDefEqProofs only [mkE, List.foldl_cons, List.foldl_nil, go_sem, List.reduceReplicate, Nat.reduceAdd, Nat.reduceSub, Nat.reduceLT, Nat.reduceLeDiff, Nat.reduceMul, Nat.reduceEqDiff, reduceCtorEq, Int.reduceLE, Int.reduceLT, Int.reduceEq, Int.reduceNe, Int.reduceBEq, Int.reduceBNe, Int.reduceAdd, Int.reduceSub, lvs_len, nat_nlt hlt, dec_nlt hlt, D_callS]
    first | refine CO.intro (i1 _) ?_ | refine CD.intro (i1 _) ?_ | refine CS.intro i1 ?_
    simp -implicitDefEqProofs only [go_sem, List.reduceReplicate, Nat.reduceAdd, Nat.reduceSub, Nat.reduceLT, Nat.reduceLeDiff, Nat.reduceMul, Nat.reduceEqDiff, reduceCtorEq, Int.reduceLE, Int.reduceLT, Int.reduceEq, Int.reduceNe, Int.reduceBEq, Int.reduceBNe, Int.reduceAdd, Int.reduceSub, D_callS, e0]
    first | refine CO.intro (i2 _) ?_ | refine CD.intro (i2 _) ?_ | refine CS.intro i2 ?_
    simp -implicitDefEqProofs only [go_sem, List.reduceReplicate, Nat.reduceAdd, Nat.reduceSub, Nat.reduceLT, Nat.reduceLeDiff, Nat.reduceMul, Nat.reduceEqDiff, reduceCtorEq, Int.reduceLE, Int.reduceLT, Int.reduceEq, Int.reduceNe, Int.reduceBEq, Int.reduceBNe, Int.reduceAdd, Int.reduceSub, D_callS, e0]
    first | refine CO.intro (l1 _) ?_ | refine CD.intro (l1 _) ?_ | refine CS.intro l1 ?_
    simp -implicitDefEqProofs only [go_sem, List.reduceReplicate, Nat.reduceAdd, Nat.reduceSub, Nat.reduceLT, Nat.reduceLeDiff, Nat.reduceMul, Nat.reduceEqDiff, reduceCtorEq, Int.reduceLE, Int.reduceLT, Int.reduceEq, Int.reduceNe, Int.reduceBEq, Int.reduceBNe, Int.reduceAdd, Int.reduceSub, D_callS, e0]
    first | refine CO.intro (l2 _) ?_ | refine CD.intro (l2 _) ?_ | refine CS.intro l2 ?_
    simp -implicitDefEqProofs only [go_sem, List.reduceReplicate, Nat.reduceAdd, Nat.reduceSub, Nat.reduceLT, Nat.reduceLeDiff, Nat.reduceMul, Nat.reduceEqDiff, reduceCtorEq, Int.reduceLE, Int.reduceLT, Int.reduceEq, Int.reduceNe, Int.reduceBEq, Int.reduceBNe, Int.reduceAdd, Int.reduceSub, D_callS, e0]
    first | refine CO.intro (o1 _) ?_ | refine CD.intro (o1 _) ?_ | refine CS.intro o1 ?_
    simp -implicitDefEqProofs only [go_sem, List.reduceReplicate, Nat.reduceAdd, Nat.reduceSub, Nat.reduceLT, Nat.reduceLeDiff, Nat.reduceMul, Nat.reduceEqDiff, reduceCtorEq, Int.reduceLE, Int.reduceLT, Int.reduceEq, Int.reduceNe, Int.reduceBEq, Int.reduceBNe, Int.reduceAdd, Int.reduceSub, D_callS, e0]
    first | refine CO.intro (o2 _) ?_ | refine CD.intro (o2 _) ?_ | refine CS.intro o2 ?_
    simp -implicitDefEqProofs only [go_sem, List.reduceReplicate, Nat.reduceAdd, Nat.reduceSub, Nat.reduceLT, Nat.reduceLeDiff, Nat.reduceMul, Nat.reduceEqDiff, reduceCtorEq, Int.reduceLE, Int.reduceLT, Int.reduceEq, Int.reduceNe, Int.reduceBEq, Int.reduceBNe, Int.reduceAdd, Int.reduceSub, D_callS, e0]
    first | refine CO.intro (mr_ls _) ?_ | refine CD.intro (mr_ls _) ?_ | refine CS.intro mr_ls ?_
    simp -implicitDefEqProofs only [go_sem, List.reduceReplicate, Nat.reduceAdd, Nat.reduceSub, Nat.reduceLT, Nat.reduceLeDiff, Nat.reduceMul, Nat.reduceEqDiff, reduceCtorEq, Int.reduceLE, Int.reduceLT, Int.reduceEq, Int.reduceNe, Int.reduceBEq, Int.reduceBNe, Int.reduceAdd, Int.reduceSub]
    exact Fini.ret rfl
theorem own_knob : ownKnob Try.prog.godebug = none := by kernel_rfl
theorem laid_out : laidOutB Try.prog = true := by kernel_rfl
theorem matchLists_lifted (os : Os) (started : os.Started) (H : Type) (enc : TypeId × Value → H) :
    ReturnsInHanded {} Try.checked os 7 .any (Rows.matchListsSpec.pre6 enc Try.prog Try.f7 Rows.matchListsRow.domain false) (Rows.matchListsSpec.post enc Try.prog Try.f7 false true false false) := by
  refine returnsInHanded_of_change (C := Try.checked) own_knob started (by kernel_rfl) Try.func7
    (ChangeSpec.witness6 (enc := enc) (C := Try.checked) false ⟨#[], #[.slice none 0 0, .slice none 0 0], []⟩ 8 (by kernel_rfl) (by kernel_rfl) (by kernel_rfl) (by kernel_rfl)) ?_
  intro W base args ds gs before hval0 hW hcnd _
  have hval : ∀ (j : Nat) t v, Try.f7.params[j]? = some t → args[j]? = some v → Value.okWide Try.prog W .any base t v := hval0
  have hW' := hW
  obtain ⟨p, q, hA0, hV, rfl, hfz, hnd⟩ := hW
  have hA : DataW.TrodAll enc Try.prog W 0 (fun _ => true) true Try.f7.params.toList args.toList ds p := hA0
  rw [Try.params7] at hA hval
  obtain ⟨v0, vs0, d0, ds0, a0, b0, hargs, rfl, rfl, h0, hA⟩ := trodAll_cons hA
  obtain ⟨v1, vs1, d1, ds1, a1, b1, rfl, rfl, rfl, h1, hA⟩ := trodAll_cons hA
  obtain ⟨rfl, rfl, rfl⟩ := trodAll_nil hA
  have : args = #[v0, v1] := by cases args; simpa using hargs
  subst this
  obtain ⟨M, r0⟩ := mtrs_arg (hval 0 26 v0 rfl rfl) h0
  obtain ⟨L, r1⟩ := labs_arg (hval 1 24 v1 rfl rfl) h1
  refine (Ans.law (P := Try.prog) (W := W) (vs := [v0, v1]) Try.func7 (by kernel_rfl) (by kernel_rfl) (lists_ans M L) (Reps.cons r0 (Reps.cons r1 Reps.nil))).mono fun e W' ⟨v, he, hk, M', R', hr⟩ => ?_
  cases hr
  exact ⟨_, he, law_post (P := Try.prog) laid_out (by
      intro t ht
      rw [Try.params7] at ht
      simp only [List.mem_cons, List.not_mem_nil, or_false] at ht
      rcases ht with rfl | rfl
      · exact ⟨by kernel_rfl, of_decide_eq_true (by kernel_rfl)⟩
      · exact ⟨by kernel_rfl, of_decide_eq_true (by kernel_rfl)⟩) rfl rfl (tb := 4) (by kernel_rfl) hW' (fun ds h => by
    match ds, h with
    | [_, _], _ => exact ⟨rfl, rfl, rfl⟩) hk⟩
theorem matchLists_holds : Rows.MatchListsSaid :=
  OpenClaim.holds_of_wide 7 Try.f7 rfl rfl rfl rfl rfl rfl rfl ⟨rfl, rfl, rfl, rfl, rfl⟩ rfl rfl rfl rfl rfl (by kernel_rfl) Try.func7 (by kernel_rfl)
    (of_decide_eq_true (by kernel_rfl)) (by unfold Func.isWrapper; first | (rw [if_pos (by decide +kernel)]; kernel_rfl) | (rw [if_neg (by decide +kernel)]; exact ⟨rfl, rfl⟩))
    (fun os started H enc _ => matchLists_lifted os started H enc)
end Go.Proofs.Ytoadgajhkhejiaa
