/- MatchNot answers true at any draw. No condition. -/
import Derived.Test.YtoadgajhkhejiaaRows
import Derived.Test.YtoadgajhkhejiaaDr5
import Derived.Test.YtoadgajhkhejiaaAbArg
import Derived.Test.YtoadgajhkhejiaaAbLaw
set_option linter.unusedSimpArgs false
set_option linter.unusedVariables false
namespace Go.Proofs.Ytoadgajhkhejiaa
open Go Go.Ab Go.ChangeShapes Go.WideShapes Go.ChangeAt Go.RowKit
set_option maxRecDepth 100000

theorem mr_a (σ : St) : Ans Try.prog 14 [] σ (Bo true) σ := mr_ok.frame (bel_all rfl) σ
theorem matVal_low (k v : Int) (h : inD k 1 4 < 3) : matVal k v ∈ vals8 := by
  unfold matVal
  rw [if_pos h]
  split
  · simp [vals8]
  · have := valueOf_mem v; simp [vals8, this]
theorem matVal_high (k v : Int) (h : ¬ inD k 1 4 < 3) : matVal k v ∈ pats := by
  unfold matVal
  rw [if_neg h]
  exact patOf_mem v

theorem matchNot_ans (k n v : Int) (ns : List Int) : Ans Try.prog 5 [.agg [I k, I n, I v], .sl 1 (ns.map I)] [] (.pl (.bool true)) [] := by
  have hk := inD_in k 1 4 (by omega)
  have hn := nameOf_mem n
  have hlow := matVal_low k v
  have hhigh := matVal_high k v
  obtain ⟨w, hw, hg⟩ := getv ns (nameOf n)
  have hm := fun σ => matcher_ans σ k n v
  have hl := fun σ => labels_ans σ ns
  generalize setV (labs ns) = x at hg hl
  generalize inD k 1 4 = κ at hk hlow hhigh hm
  generalize nameOf n = nm at hn hm hg
  generalize matVal k v = val at hlow hhigh hm
  refine Ans.of_run' t5 (fun hbel _ => ?_)
  simp -implicitDefEqProofs only [c5, r5, go_sem, List.reduceReplicate, Nat.reduceAdd, Nat.reduceSub, Nat.reduceLT, Nat.reduceLeDiff, Nat.reduceMul, Nat.reduceEqDiff, reduceCtorEq, Int.reduceLE, Int.reduceLT, Int.reduceEq, Int.reduceNe, Int.reduceBEq, Int.reduceBNe, Int.reduceAdd, Int.reduceSub]
  refine CO.intro (hl _) ?_
  simp -implicitDefEqProofs only [go_sem, List.reduceReplicate, Nat.reduceAdd, Nat.reduceSub, Nat.reduceLT, Nat.reduceLeDiff, Nat.reduceMul, Nat.reduceEqDiff, reduceCtorEq, Int.reduceLE, Int.reduceLT, Int.reduceEq, Int.reduceNe, Int.reduceBEq, Int.reduceBNe, Int.reduceAdd, Int.reduceSub]
  refine CO.intro (hm _) ?_
  have h4 : κ = 1 ∨ κ = 2 ∨ κ = 3 ∨ κ = 4 := by omega
  rcases h4 with rfl | rfl | rfl | rfl
  · have hv := hlow (by omega)
    have i1 := fun σ => is1_ans σ nm val hn hv
    have i2 := fun σ => is2_ans σ nm val hn hv
    have l1 := fun σ => large1_ans σ nm val
    have l2 := fun σ => large2_ans σ nm val
    have o1 := fun σ => holds1_ans σ nm val x w hg hn hv
    have o2 := fun σ => holds2_ans σ nm val x w hg hn hv
    generalize (w.toList == val.toList) = b at o1 o2
    simp -implicitDefEqProofs only [go_sem, List.reduceReplicate, Nat.reduceAdd, Nat.reduceSub, Nat.reduceLT, Nat.reduceLeDiff, Nat.reduceMul, Nat.reduceEqDiff, reduceCtorEq, Int.reduceLE, Int.reduceLT, Int.reduceEq, Int.reduceNe, Int.reduceBEq, Int.reduceBNe, Int.reduceAdd, Int.reduceSub, D_callS]
    first | refine CO.intro (i1 _) ?_ | refine CD.intro (i1 _) ?_ | refine CS.intro i1 ?_
    simp -implicitDefEqProofs only [go_sem, List.reduceReplicate, Nat.reduceAdd, Nat.reduceSub, Nat.reduceLT, Nat.reduceLeDiff, Nat.reduceMul, Nat.reduceEqDiff, reduceCtorEq, Int.reduceLE, Int.reduceLT, Int.reduceEq, Int.reduceNe, Int.reduceBEq, Int.reduceBNe, Int.reduceAdd, Int.reduceSub, D_callS]
    first | refine CO.intro (i2 _) ?_ | refine CD.intro (i2 _) ?_ | refine CS.intro i2 ?_
    simp -implicitDefEqProofs only [go_sem, List.reduceReplicate, Nat.reduceAdd, Nat.reduceSub, Nat.reduceLT, Nat.reduceLeDiff, Nat.reduceMul, Nat.reduceEqDiff, reduceCtorEq, Int.reduceLE, Int.reduceLT, Int.reduceEq, Int.reduceNe, Int.reduceBEq, Int.reduceBNe, Int.reduceAdd, Int.reduceSub, D_callS]
    first | refine CO.intro (l1 _) ?_ | refine CD.intro (l1 _) ?_ | refine CS.intro l1 ?_
    simp -implicitDefEqProofs only [go_sem, List.reduceReplicate, Nat.reduceAdd, Nat.reduceSub, Nat.reduceLT, Nat.reduceLeDiff, Nat.reduceMul, Nat.reduceEqDiff, reduceCtorEq, Int.reduceLE, Int.reduceLT, Int.reduceEq, Int.reduceNe, Int.reduceBEq, Int.reduceBNe, Int.reduceAdd, Int.reduceSub, D_callS]
    first | refine CO.intro (l2 _) ?_ | refine CD.intro (l2 _) ?_ | refine CS.intro l2 ?_
    simp -implicitDefEqProofs only [go_sem, List.reduceReplicate, Nat.reduceAdd, Nat.reduceSub, Nat.reduceLT, Nat.reduceLeDiff, Nat.reduceMul, Nat.reduceEqDiff, reduceCtorEq, Int.reduceLE, Int.reduceLT, Int.reduceEq, Int.reduceNe, Int.reduceBEq, Int.reduceBNe, Int.reduceAdd, Int.reduceSub, D_callS, bne_self_eq_false]
    first | refine CO.intro (l1 _) ?_ | refine CD.intro (l1 _) ?_ | refine CS.intro l1 ?_
    simp -implicitDefEqProofs only [go_sem, List.reduceReplicate, Nat.reduceAdd, Nat.reduceSub, Nat.reduceLT, Nat.reduceLeDiff, Nat.reduceMul, Nat.reduceEqDiff, reduceCtorEq, Int.reduceLE, Int.reduceLT, Int.reduceEq, Int.reduceNe, Int.reduceBEq, Int.reduceBNe, Int.reduceAdd, Int.reduceSub, D_callS]
    first | refine CO.intro (o1 _) ?_ | refine CD.intro (o1 _) ?_ | refine CS.intro o1 ?_
    simp -implicitDefEqProofs only [go_sem, List.reduceReplicate, Nat.reduceAdd, Nat.reduceSub, Nat.reduceLT, Nat.reduceLeDiff, Nat.reduceMul, Nat.reduceEqDiff, reduceCtorEq, Int.reduceLE, Int.reduceLT, Int.reduceEq, Int.reduceNe, Int.reduceBEq, Int.reduceBNe, Int.reduceAdd, Int.reduceSub, D_callS]
    first | refine CO.intro (o2 _) ?_ | refine CD.intro (o2 _) ?_ | refine CS.intro o2 ?_
    cases b
    all_goals simp -implicitDefEqProofs only [go_sem, List.reduceReplicate, Nat.reduceAdd, Nat.reduceSub, Nat.reduceLT, Nat.reduceLeDiff, Nat.reduceMul, Nat.reduceEqDiff, reduceCtorEq, Int.reduceLE, Int.reduceLT, Int.reduceEq, Int.reduceNe, Int.reduceBEq, Int.reduceBNe, Int.reduceAdd, Int.reduceSub, D_callS]
    all_goals first | refine CO.intro (mr_a _) ?_ | refine CD.intro (mr_a _) ?_ | refine CS.intro mr_a ?_
    all_goals simp -implicitDefEqProofs only [go_sem, List.reduceReplicate, Nat.reduceAdd, Nat.reduceSub, Nat.reduceLT, Nat.reduceLeDiff, Nat.reduceMul, Nat.reduceEqDiff, reduceCtorEq, Int.reduceLE, Int.reduceLT, Int.reduceEq, Int.reduceNe, Int.reduceBEq, Int.reduceBNe, Int.reduceAdd, Int.reduceSub]
    all_goals exact Fini.trim2 (σ' := []) (ex := [_]) rfl rfl (Nat.le_refl _) (.pl _) (by simp)
  · have hv := hlow (by omega)
    have i1 := fun σ => is1_ans σ nm val hn hv
    have i2 := fun σ => is2_ans σ nm val hn hv
    have l1 := fun σ => large1_ans σ nm val
    have l2 := fun σ => large2_ans σ nm val
    have o1 := fun σ => holds1_ans σ nm val x w hg hn hv
    have o2 := fun σ => holds2_ans σ nm val x w hg hn hv
    generalize (w.toList == val.toList) = b at o1 o2
    simp -implicitDefEqProofs only [go_sem, List.reduceReplicate, Nat.reduceAdd, Nat.reduceSub, Nat.reduceLT, Nat.reduceLeDiff, Nat.reduceMul, Nat.reduceEqDiff, reduceCtorEq, Int.reduceLE, Int.reduceLT, Int.reduceEq, Int.reduceNe, Int.reduceBEq, Int.reduceBNe, Int.reduceAdd, Int.reduceSub, D_callS]
    first | refine CO.intro (i2 _) ?_ | refine CD.intro (i2 _) ?_ | refine CS.intro i2 ?_
    simp -implicitDefEqProofs only [go_sem, List.reduceReplicate, Nat.reduceAdd, Nat.reduceSub, Nat.reduceLT, Nat.reduceLeDiff, Nat.reduceMul, Nat.reduceEqDiff, reduceCtorEq, Int.reduceLE, Int.reduceLT, Int.reduceEq, Int.reduceNe, Int.reduceBEq, Int.reduceBNe, Int.reduceAdd, Int.reduceSub, D_callS]
    first | refine CO.intro (i1 _) ?_ | refine CD.intro (i1 _) ?_ | refine CS.intro i1 ?_
    simp -implicitDefEqProofs only [go_sem, List.reduceReplicate, Nat.reduceAdd, Nat.reduceSub, Nat.reduceLT, Nat.reduceLeDiff, Nat.reduceMul, Nat.reduceEqDiff, reduceCtorEq, Int.reduceLE, Int.reduceLT, Int.reduceEq, Int.reduceNe, Int.reduceBEq, Int.reduceBNe, Int.reduceAdd, Int.reduceSub, D_callS]
    first | refine CO.intro (l2 _) ?_ | refine CD.intro (l2 _) ?_ | refine CS.intro l2 ?_
    simp -implicitDefEqProofs only [go_sem, List.reduceReplicate, Nat.reduceAdd, Nat.reduceSub, Nat.reduceLT, Nat.reduceLeDiff, Nat.reduceMul, Nat.reduceEqDiff, reduceCtorEq, Int.reduceLE, Int.reduceLT, Int.reduceEq, Int.reduceNe, Int.reduceBEq, Int.reduceBNe, Int.reduceAdd, Int.reduceSub, D_callS]
    first | refine CO.intro (l1 _) ?_ | refine CD.intro (l1 _) ?_ | refine CS.intro l1 ?_
    simp -implicitDefEqProofs only [go_sem, List.reduceReplicate, Nat.reduceAdd, Nat.reduceSub, Nat.reduceLT, Nat.reduceLeDiff, Nat.reduceMul, Nat.reduceEqDiff, reduceCtorEq, Int.reduceLE, Int.reduceLT, Int.reduceEq, Int.reduceNe, Int.reduceBEq, Int.reduceBNe, Int.reduceAdd, Int.reduceSub, D_callS, bne_self_eq_false]
    first | refine CO.intro (l2 _) ?_ | refine CD.intro (l2 _) ?_ | refine CS.intro l2 ?_
    simp -implicitDefEqProofs only [go_sem, List.reduceReplicate, Nat.reduceAdd, Nat.reduceSub, Nat.reduceLT, Nat.reduceLeDiff, Nat.reduceMul, Nat.reduceEqDiff, reduceCtorEq, Int.reduceLE, Int.reduceLT, Int.reduceEq, Int.reduceNe, Int.reduceBEq, Int.reduceBNe, Int.reduceAdd, Int.reduceSub, D_callS]
    first | refine CO.intro (o2 _) ?_ | refine CD.intro (o2 _) ?_ | refine CS.intro o2 ?_
    simp -implicitDefEqProofs only [go_sem, List.reduceReplicate, Nat.reduceAdd, Nat.reduceSub, Nat.reduceLT, Nat.reduceLeDiff, Nat.reduceMul, Nat.reduceEqDiff, reduceCtorEq, Int.reduceLE, Int.reduceLT, Int.reduceEq, Int.reduceNe, Int.reduceBEq, Int.reduceBNe, Int.reduceAdd, Int.reduceSub, D_callS]
    first | refine CO.intro (o1 _) ?_ | refine CD.intro (o1 _) ?_ | refine CS.intro o1 ?_
    cases b
    all_goals simp -implicitDefEqProofs only [go_sem, List.reduceReplicate, Nat.reduceAdd, Nat.reduceSub, Nat.reduceLT, Nat.reduceLeDiff, Nat.reduceMul, Nat.reduceEqDiff, reduceCtorEq, Int.reduceLE, Int.reduceLT, Int.reduceEq, Int.reduceNe, Int.reduceBEq, Int.reduceBNe, Int.reduceAdd, Int.reduceSub, D_callS]
    all_goals first | refine CO.intro (mr_a _) ?_ | refine CD.intro (mr_a _) ?_ | refine CS.intro mr_a ?_
    all_goals simp -implicitDefEqProofs only [go_sem, List.reduceReplicate, Nat.reduceAdd, Nat.reduceSub, Nat.reduceLT, Nat.reduceLeDiff, Nat.reduceMul, Nat.reduceEqDiff, reduceCtorEq, Int.reduceLE, Int.reduceLT, Int.reduceEq, Int.reduceNe, Int.reduceBEq, Int.reduceBNe, Int.reduceAdd, Int.reduceSub]
    all_goals exact Fini.trim2 (σ' := []) (ex := [_]) rfl rfl (Nat.le_refl _) (.pl _) (by simp)
  · have hv := hhigh (by omega)
    obtain ⟨st, ok, hp⟩ := pat_ok val hv
    have i3 := fun σ => hp.is3 σ nm hn
    have i4 := fun σ => hp.is4 σ nm hn
    have l3 := fun σ => large3_ans σ nm val hp hn
    have l4 := fun σ => large4_ans σ nm val hp hn
    obtain ⟨b, hb⟩ : ∃ b, ok = true → ∀ σ, Ans Try.prog 50 [st, Sx w] σ (Bo b) σ := by
      cases ok with
      | false => exact ⟨false, fun h => absurd h Bool.false_ne_true⟩
      | true =>
        obtain ⟨b, hb⟩ := hp.scan rfl w hw
        exact ⟨b, fun _ => hb⟩
    have o3 := fun σ => holds3_ans σ nm val hp x w hg hn hb
    have o4 := fun σ => holds4_ans σ nm val hp x w hg hn hb
    clear hb hp
    simp -implicitDefEqProofs only [go_sem, List.reduceReplicate, Nat.reduceAdd, Nat.reduceSub, Nat.reduceLT, Nat.reduceLeDiff, Nat.reduceMul, Nat.reduceEqDiff, reduceCtorEq, Int.reduceLE, Int.reduceLT, Int.reduceEq, Int.reduceNe, Int.reduceBEq, Int.reduceBNe, Int.reduceAdd, Int.reduceSub, D_callS]
    first | refine CO.intro (i3 _) ?_ | refine CD.intro (i3 _) ?_ | refine CS.intro i3 ?_
    simp -implicitDefEqProofs only [go_sem, List.reduceReplicate, Nat.reduceAdd, Nat.reduceSub, Nat.reduceLT, Nat.reduceLeDiff, Nat.reduceMul, Nat.reduceEqDiff, reduceCtorEq, Int.reduceLE, Int.reduceLT, Int.reduceEq, Int.reduceNe, Int.reduceBEq, Int.reduceBNe, Int.reduceAdd, Int.reduceSub, D_callS]
    first | refine CO.intro (i4 _) ?_ | refine CD.intro (i4 _) ?_ | refine CS.intro i4 ?_
    simp -implicitDefEqProofs only [go_sem, List.reduceReplicate, Nat.reduceAdd, Nat.reduceSub, Nat.reduceLT, Nat.reduceLeDiff, Nat.reduceMul, Nat.reduceEqDiff, reduceCtorEq, Int.reduceLE, Int.reduceLT, Int.reduceEq, Int.reduceNe, Int.reduceBEq, Int.reduceBNe, Int.reduceAdd, Int.reduceSub, D_callS]
    first | refine CO.intro (l3 _) ?_ | refine CD.intro (l3 _) ?_ | refine CS.intro l3 ?_
    simp -implicitDefEqProofs only [go_sem, List.reduceReplicate, Nat.reduceAdd, Nat.reduceSub, Nat.reduceLT, Nat.reduceLeDiff, Nat.reduceMul, Nat.reduceEqDiff, reduceCtorEq, Int.reduceLE, Int.reduceLT, Int.reduceEq, Int.reduceNe, Int.reduceBEq, Int.reduceBNe, Int.reduceAdd, Int.reduceSub, D_callS]
    first | refine CO.intro (l4 _) ?_ | refine CD.intro (l4 _) ?_ | refine CS.intro l4 ?_
    simp -implicitDefEqProofs only [go_sem, List.reduceReplicate, Nat.reduceAdd, Nat.reduceSub, Nat.reduceLT, Nat.reduceLeDiff, Nat.reduceMul, Nat.reduceEqDiff, reduceCtorEq, Int.reduceLE, Int.reduceLT, Int.reduceEq, Int.reduceNe, Int.reduceBEq, Int.reduceBNe, Int.reduceAdd, Int.reduceSub, D_callS, bne_self_eq_false]
    first | refine CO.intro (l3 _) ?_ | refine CD.intro (l3 _) ?_ | refine CS.intro l3 ?_
    cases ok
    · simp -implicitDefEqProofs only [go_sem, List.reduceReplicate, Nat.reduceAdd, Nat.reduceSub, Nat.reduceLT, Nat.reduceLeDiff, Nat.reduceMul, Nat.reduceEqDiff, reduceCtorEq, Int.reduceLE, Int.reduceLT, Int.reduceEq, Int.reduceNe, Int.reduceBEq, Int.reduceBNe, Int.reduceAdd, Int.reduceSub, D_callS]
      first | refine CO.intro (o3 _) ?_ | refine CD.intro (o3 _) ?_ | refine CS.intro o3 ?_
      simp -implicitDefEqProofs only [go_sem, List.reduceReplicate, Nat.reduceAdd, Nat.reduceSub, Nat.reduceLT, Nat.reduceLeDiff, Nat.reduceMul, Nat.reduceEqDiff, reduceCtorEq, Int.reduceLE, Int.reduceLT, Int.reduceEq, Int.reduceNe, Int.reduceBEq, Int.reduceBNe, Int.reduceAdd, Int.reduceSub, D_callS, Bool.false_and]
      first | refine CO.intro (o4 _) ?_ | refine CD.intro (o4 _) ?_ | refine CS.intro o4 ?_
      simp -implicitDefEqProofs only [go_sem, List.reduceReplicate, Nat.reduceAdd, Nat.reduceSub, Nat.reduceLT, Nat.reduceLeDiff, Nat.reduceMul, Nat.reduceEqDiff, reduceCtorEq, Int.reduceLE, Int.reduceLT, Int.reduceEq, Int.reduceNe, Int.reduceBEq, Int.reduceBNe, Int.reduceAdd, Int.reduceSub, D_callS, Bool.false_and]
      first | refine CO.intro (mr_a _) ?_ | refine CD.intro (mr_a _) ?_ | refine CS.intro mr_a ?_
      simp -implicitDefEqProofs only [go_sem, List.reduceReplicate, Nat.reduceAdd, Nat.reduceSub, Nat.reduceLT, Nat.reduceLeDiff, Nat.reduceMul, Nat.reduceEqDiff, reduceCtorEq, Int.reduceLE, Int.reduceLT, Int.reduceEq, Int.reduceNe, Int.reduceBEq, Int.reduceBNe, Int.reduceAdd, Int.reduceSub]
      exact Fini.trim2 (σ' := []) (ex := [_]) rfl rfl (Nat.le_refl _) (.pl _) (by simp)
    · simp -implicitDefEqProofs only [go_sem, List.reduceReplicate, Nat.reduceAdd, Nat.reduceSub, Nat.reduceLT, Nat.reduceLeDiff, Nat.reduceMul, Nat.reduceEqDiff, reduceCtorEq, Int.reduceLE, Int.reduceLT, Int.reduceEq, Int.reduceNe, Int.reduceBEq, Int.reduceBNe, Int.reduceAdd, Int.reduceSub, D_callS]
      first | refine CO.intro (o3 _) ?_ | refine CD.intro (o3 _) ?_ | refine CS.intro o3 ?_
      simp -implicitDefEqProofs only [go_sem, List.reduceReplicate, Nat.reduceAdd, Nat.reduceSub, Nat.reduceLT, Nat.reduceLeDiff, Nat.reduceMul, Nat.reduceEqDiff, reduceCtorEq, Int.reduceLE, Int.reduceLT, Int.reduceEq, Int.reduceNe, Int.reduceBEq, Int.reduceBNe, Int.reduceAdd, Int.reduceSub, D_callS]
      first | refine CO.intro (o4 _) ?_ | refine CD.intro (o4 _) ?_ | refine CS.intro o4 ?_
      cases b
      all_goals simp -implicitDefEqProofs only [go_sem, List.reduceReplicate, Nat.reduceAdd, Nat.reduceSub, Nat.reduceLT, Nat.reduceLeDiff, Nat.reduceMul, Nat.reduceEqDiff, reduceCtorEq, Int.reduceLE, Int.reduceLT, Int.reduceEq, Int.reduceNe, Int.reduceBEq, Int.reduceBNe, Int.reduceAdd, Int.reduceSub, D_callS]
      all_goals first | refine CO.intro (mr_a _) ?_ | refine CD.intro (mr_a _) ?_ | refine CS.intro mr_a ?_
      all_goals simp -implicitDefEqProofs only [go_sem, List.reduceReplicate, Nat.reduceAdd, Nat.reduceSub, Nat.reduceLT, Nat.reduceLeDiff, Nat.reduceMul, Nat.reduceEqDiff, reduceCtorEq, Int.reduceLE, Int.reduceLT, Int.reduceEq, Int.reduceNe, Int.reduceBEq, Int.reduceBNe, Int.reduceAdd, Int.reduceSub]
      all_goals exact Fini.trim2 (σ' := []) (ex := [_]) rfl rfl (Nat.le_refl _) (.pl _) (by simp)
  · have hv := hhigh (by omega)
    obtain ⟨st, ok, hp⟩ := pat_ok val hv
    have i3 := fun σ => hp.is3 σ nm hn
    have i4 := fun σ => hp.is4 σ nm hn
    have l3 := fun σ => large3_ans σ nm val hp hn
    have l4 := fun σ => large4_ans σ nm val hp hn
    obtain ⟨b, hb⟩ : ∃ b, ok = true → ∀ σ, Ans Try.prog 50 [st, Sx w] σ (Bo b) σ := by
      cases ok with
      | false => exact ⟨false, fun h => absurd h Bool.false_ne_true⟩
      | true =>
        obtain ⟨b, hb⟩ := hp.scan rfl w hw
        exact ⟨b, fun _ => hb⟩
    have o3 := fun σ => holds3_ans σ nm val hp x w hg hn hb
    have o4 := fun σ => holds4_ans σ nm val hp x w hg hn hb
    clear hb hp
    simp -implicitDefEqProofs only [go_sem, List.reduceReplicate, Nat.reduceAdd, Nat.reduceSub, Nat.reduceLT, Nat.reduceLeDiff, Nat.reduceMul, Nat.reduceEqDiff, reduceCtorEq, Int.reduceLE, Int.reduceLT, Int.reduceEq, Int.reduceNe, Int.reduceBEq, Int.reduceBNe, Int.reduceAdd, Int.reduceSub, D_callS]
    first | refine CO.intro (i4 _) ?_ | refine CD.intro (i4 _) ?_ | refine CS.intro i4 ?_
    simp -implicitDefEqProofs only [go_sem, List.reduceReplicate, Nat.reduceAdd, Nat.reduceSub, Nat.reduceLT, Nat.reduceLeDiff, Nat.reduceMul, Nat.reduceEqDiff, reduceCtorEq, Int.reduceLE, Int.reduceLT, Int.reduceEq, Int.reduceNe, Int.reduceBEq, Int.reduceBNe, Int.reduceAdd, Int.reduceSub, D_callS]
    first | refine CO.intro (i3 _) ?_ | refine CD.intro (i3 _) ?_ | refine CS.intro i3 ?_
    simp -implicitDefEqProofs only [go_sem, List.reduceReplicate, Nat.reduceAdd, Nat.reduceSub, Nat.reduceLT, Nat.reduceLeDiff, Nat.reduceMul, Nat.reduceEqDiff, reduceCtorEq, Int.reduceLE, Int.reduceLT, Int.reduceEq, Int.reduceNe, Int.reduceBEq, Int.reduceBNe, Int.reduceAdd, Int.reduceSub, D_callS]
    first | refine CO.intro (l4 _) ?_ | refine CD.intro (l4 _) ?_ | refine CS.intro l4 ?_
    simp -implicitDefEqProofs only [go_sem, List.reduceReplicate, Nat.reduceAdd, Nat.reduceSub, Nat.reduceLT, Nat.reduceLeDiff, Nat.reduceMul, Nat.reduceEqDiff, reduceCtorEq, Int.reduceLE, Int.reduceLT, Int.reduceEq, Int.reduceNe, Int.reduceBEq, Int.reduceBNe, Int.reduceAdd, Int.reduceSub, D_callS]
    first | refine CO.intro (l3 _) ?_ | refine CD.intro (l3 _) ?_ | refine CS.intro l3 ?_
    simp -implicitDefEqProofs only [go_sem, List.reduceReplicate, Nat.reduceAdd, Nat.reduceSub, Nat.reduceLT, Nat.reduceLeDiff, Nat.reduceMul, Nat.reduceEqDiff, reduceCtorEq, Int.reduceLE, Int.reduceLT, Int.reduceEq, Int.reduceNe, Int.reduceBEq, Int.reduceBNe, Int.reduceAdd, Int.reduceSub, D_callS, bne_self_eq_false]
    first | refine CO.intro (l4 _) ?_ | refine CD.intro (l4 _) ?_ | refine CS.intro l4 ?_
    cases ok
    · simp -implicitDefEqProofs only [go_sem, List.reduceReplicate, Nat.reduceAdd, Nat.reduceSub, Nat.reduceLT, Nat.reduceLeDiff, Nat.reduceMul, Nat.reduceEqDiff, reduceCtorEq, Int.reduceLE, Int.reduceLT, Int.reduceEq, Int.reduceNe, Int.reduceBEq, Int.reduceBNe, Int.reduceAdd, Int.reduceSub, D_callS]
      first | refine CO.intro (o4 _) ?_ | refine CD.intro (o4 _) ?_ | refine CS.intro o4 ?_
      simp -implicitDefEqProofs only [go_sem, List.reduceReplicate, Nat.reduceAdd, Nat.reduceSub, Nat.reduceLT, Nat.reduceLeDiff, Nat.reduceMul, Nat.reduceEqDiff, reduceCtorEq, Int.reduceLE, Int.reduceLT, Int.reduceEq, Int.reduceNe, Int.reduceBEq, Int.reduceBNe, Int.reduceAdd, Int.reduceSub, D_callS, Bool.false_and]
      first | refine CO.intro (o3 _) ?_ | refine CD.intro (o3 _) ?_ | refine CS.intro o3 ?_
      simp -implicitDefEqProofs only [go_sem, List.reduceReplicate, Nat.reduceAdd, Nat.reduceSub, Nat.reduceLT, Nat.reduceLeDiff, Nat.reduceMul, Nat.reduceEqDiff, reduceCtorEq, Int.reduceLE, Int.reduceLT, Int.reduceEq, Int.reduceNe, Int.reduceBEq, Int.reduceBNe, Int.reduceAdd, Int.reduceSub, D_callS, Bool.false_and]
      first | refine CO.intro (mr_a _) ?_ | refine CD.intro (mr_a _) ?_ | refine CS.intro mr_a ?_
      simp -implicitDefEqProofs only [go_sem, List.reduceReplicate, Nat.reduceAdd, Nat.reduceSub, Nat.reduceLT, Nat.reduceLeDiff, Nat.reduceMul, Nat.reduceEqDiff, reduceCtorEq, Int.reduceLE, Int.reduceLT, Int.reduceEq, Int.reduceNe, Int.reduceBEq, Int.reduceBNe, Int.reduceAdd, Int.reduceSub]
      exact Fini.trim2 (σ' := []) (ex := [_]) rfl rfl (Nat.le_refl _) (.pl _) (by simp)
    · simp -implicitDefEqProofs only [go_sem, List.reduceReplicate, Nat.reduceAdd, Nat.reduceSub, Nat.reduceLT, Nat.reduceLeDiff, Nat.reduceMul, Nat.reduceEqDiff, reduceCtorEq, Int.reduceLE, Int.reduceLT, Int.reduceEq, Int.reduceNe, Int.reduceBEq, Int.reduceBNe, Int.reduceAdd, Int.reduceSub, D_callS]
      first | refine CO.intro (o4 _) ?_ | refine CD.intro (o4 _) ?_ | refine CS.intro o4 ?_
      simp -implicitDefEqProofs only [go_sem, List.reduceReplicate, Nat.reduceAdd, Nat.reduceSub, Nat.reduceLT, Nat.reduceLeDiff, Nat.reduceMul, Nat.reduceEqDiff, reduceCtorEq, Int.reduceLE, Int.reduceLT, Int.reduceEq, Int.reduceNe, Int.reduceBEq, Int.reduceBNe, Int.reduceAdd, Int.reduceSub, D_callS]
      first | refine CO.intro (o3 _) ?_ | refine CD.intro (o3 _) ?_ | refine CS.intro o3 ?_
      cases b
      all_goals simp -implicitDefEqProofs only [go_sem, List.reduceReplicate, Nat.reduceAdd, Nat.reduceSub, Nat.reduceLT, Nat.reduceLeDiff, Nat.reduceMul, Nat.reduceEqDiff, reduceCtorEq, Int.reduceLE, Int.reduceLT, Int.reduceEq, Int.reduceNe, Int.reduceBEq, Int.reduceBNe, Int.reduceAdd, Int.reduceSub, D_callS]
      all_goals first | refine CO.intro (mr_a _) ?_ | refine CD.intro (mr_a _) ?_ | refine CS.intro mr_a ?_
      all_goals simp -implicitDefEqProofs only [go_sem, List.reduceReplicate, Nat.reduceAdd, Nat.reduceSub, Nat.reduceLT, Nat.reduceLeDiff, Nat.reduceMul, Nat.reduceEqDiff, reduceCtorEq, Int.reduceLE, Int.reduceLT, Int.reduceEq, Int.reduceNe, Int.reduceBEq, Int.reduceBNe, Int.reduceAdd, Int.reduceSub]
      all_goals exact Fini.trim2 (σ' := []) (ex := [_]) rfl rfl (Nat.le_refl _) (.pl _) (by simp)

def QMat : List AV → Prop := fun xs => ∃ k n v : Int, xs = [I k, I n, I v]
theorem reads_mat (f : Nat) : Reads Try.prog 33 f QMat := by
  cases f with
  | zero => exact Reads.zero
  | succ f =>
    have h := Reads.struct (P := Try.prog) (t := 33) (f := f) (Qs := [QInt .i64, QInt .i64, QInt .i64]) Try.underlying33 (by kernel_rfl) rfl (by
      intro p hp
      simp only [List.zip_cons_cons, List.zip_nil_right, List.mem_cons, List.not_mem_nil, or_false] at hp
      rcases hp with rfl | rfl | rfl
      · exact Reads.int Try.underlying3 f
      · exact Reads.int Try.underlying3 f
      · exact Reads.int Try.underlying3 f)
    refine h.mono fun xs hq => ?_
    obtain ⟨_, b, rfl, ⟨k, _, rfl⟩, _, d, rfl, ⟨n, _, rfl⟩, _, _, rfl, ⟨v, _, rfl⟩, rfl⟩ := hq
    exact ⟨k, n, v, rfl⟩
theorem mat_arg {H : Type} {enc : TypeId × Value → H} {W : World} {base : Nat} {v : Value} {d : DataW H} {ps : List MemPlace} (hv : Value.okWide Try.prog W .any base 33 v) (h : DataW.Trod enc Try.prog W 0 (fun _ => true) true 33 v d ps) :
    ∃ k n w : Int, Rep noM noR W (.agg [I k, I n, I w]) v := by
  obtain ⟨cs, rfl, _⟩ := okWide_struct Try.underlying33 hv
  obtain ⟨xs, h1, k, n, w, rfl⟩ := Reads.argS reads_mat h
  exact ⟨k, n, w, h1⟩
theorem ints_of : ∀ {ys : List (List AV)}, (∀ y ∈ ys, QInt .i64 y) → ∃ ns : List Int, ys.map (wrapC false) = ns.map I
  | [], _ => ⟨[], rfl⟩
  | y :: ys, h => by
    obtain ⟨n, _, rfl⟩ := h y List.mem_cons_self
    obtain ⟨ns, hns⟩ := ints_of fun y hy => h y (List.mem_cons_of_mem _ hy)
    exact ⟨n :: ns, by rw [List.map_cons, hns]; rfl⟩
theorem ints_arg {H : Type} {enc : TypeId × Value → H} {W : World} {base : Nat} {v : Value} {d : DataW H} {ps : List MemPlace} (hv : Value.okWide Try.prog W .any base 34 v)
    (h : DataW.Trod enc Try.prog W 0 (fun _ => true) true 34 v d ps) : ∃ ns : List Int, Rep noM noR W (.sl 1 (ns.map I)) v := by
  obtain ⟨sa, len, cap, rfl⟩ := okWide_slice Try.underlying34 hv
  obtain ⟨x, hx, hq⟩ := Reads.arg (P := Try.prog) (t := 34) (Q := QSlice 1 false (QInt .i64)) (fun f => by
    cases f with
    | zero => exact Reads.zero
    | succ f => exact Reads.slice false Try.underlying34 (by kernel_rfl) (by decide) (Reads.int Try.underlying3 f) (fun y hy _ => by obtain ⟨n, _, rfl⟩ := hy; rfl)) rfl h
  rcases hq with hq | ⟨ys, hys, _, hq⟩
  · simp only [List.cons.injEq, and_true] at hq
    subst hq
    refine ⟨[], ?_⟩
    cases hx
    exact .sl0 _ _ _
  · obtain ⟨ns, hn⟩ := ints_of hys
    simp only [List.cons.injEq, and_true] at hq
    subst hq
    rw [hn] at hx
    exact ⟨ns, hx⟩

theorem own_knob : ownKnob Try.prog.godebug = none := by kernel_rfl
theorem laid_out : laidOutB Try.prog = true := by kernel_rfl

theorem matchNot_lifted (os : Os) (started : os.Started) (H : Type) (enc : TypeId × Value → H) :
    ReturnsInHanded {} Try.checked os 5 .any (Rows.matchNotSpec.pre6 enc Try.prog Try.f5 Rows.matchNotRow.domain false) (Rows.matchNotSpec.post enc Try.prog Try.f5 false true false false) := by
  refine returnsInHanded_of_change (C := Try.checked) own_knob started (by kernel_rfl) Try.func5
    (ChangeSpec.witness6 (enc := enc) (C := Try.checked) false ⟨#[], #[.agg #[.int .i64 0, .int .i64 0, .int .i64 0], .slice none 0 0], []⟩ 8 (by kernel_rfl) (by kernel_rfl) (by kernel_rfl) (by kernel_rfl)) ?_
  intro W base args ds gs before hval0 hW hcnd _
  have hval : ∀ (j : Nat) t v, Try.f5.params[j]? = some t → args[j]? = some v → Value.okWide Try.prog W .any base t v := hval0
  have hW' := hW
  obtain ⟨p, q, hA0, hV, rfl, hfz, hnd⟩ := hW
  have hA : DataW.TrodAll enc Try.prog W 0 (fun _ => true) true Try.f5.params.toList args.toList ds p := hA0
  rw [Try.params5] at hA hval
  obtain ⟨v0, vs0, d0, ds0, a0, b0, hargs, rfl, rfl, h0, hA⟩ := trodAll_cons hA
  obtain ⟨v1, vs1, d1, ds1, a1, b1, rfl, rfl, rfl, h1, hA⟩ := trodAll_cons hA
  obtain ⟨rfl, rfl, rfl⟩ := trodAll_nil hA
  have : args = #[v0, v1] := by cases args; simpa using hargs
  subst this
  obtain ⟨k, n, w, r0⟩ := mat_arg (hval 0 33 v0 rfl rfl) h0
  obtain ⟨ns, r1⟩ := ints_arg (hval 1 34 v1 rfl rfl) h1
  refine (Ans.law (P := Try.prog) (W := W) (vs := [v0, v1]) Try.func5 (by kernel_rfl) (by kernel_rfl) (matchNot_ans k n w ns) (Reps.cons r0 (Reps.cons r1 Reps.nil))).mono fun e W' ⟨v, he, hk, M', R', hr⟩ => ?_
  cases hr
  exact ⟨_, he, law_post (P := Try.prog) laid_out (by
      intro t ht
      rw [Try.params5] at ht
      simp only [List.mem_cons, List.not_mem_nil, or_false] at ht
      rcases ht with rfl | rfl
      · exact ⟨by kernel_rfl, of_decide_eq_true (by kernel_rfl)⟩
      · exact ⟨by kernel_rfl, of_decide_eq_true (by kernel_rfl)⟩) rfl rfl (tb := 4) (by kernel_rfl) hW' (fun ds h => by
    match ds, h with
    | [_, _], _ => exact ⟨rfl, rfl, rfl⟩) hk⟩

theorem matchNot_holds : Rows.MatchNotSaid :=
  OpenClaim.holds_of_wide 5 Try.f5 rfl rfl rfl rfl rfl rfl rfl ⟨rfl, rfl, rfl, rfl, rfl⟩ rfl rfl rfl rfl rfl (by kernel_rfl) Try.func5 (by kernel_rfl)
    (of_decide_eq_true (by kernel_rfl)) (by unfold Func.isWrapper; first | (rw [if_pos (by decide +kernel)]; kernel_rfl) | (rw [if_neg (by decide +kernel)]; exact ⟨rfl, rfl⟩))
    (fun os started H enc _ => matchNot_lifted os started H enc)
end Go.Proofs.Ytoadgajhkhejiaa
