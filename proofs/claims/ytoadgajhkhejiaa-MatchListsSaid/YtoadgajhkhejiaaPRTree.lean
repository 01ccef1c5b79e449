/- Trees of patterns as the document has them: whether they are one, how many steps their programs have. No condition. -/
import Derived.Test.YtoadgajhkhejiaaPLay6
set_option linter.unusedSimpArgs false
set_option linter.unusedVariables false
namespace Go.Proofs.Ytoadgajhkhejiaa
open Go Go.Ab
set_option maxRecDepth 100000
open Rex
section
variable (σ : St)
theorem rsize_ans (x : Rex) (hn : x.nodes ≤ 1000) : Ans Try.prog 98 [x.av] σ (I x.size) σ := by
  rw [av_eq]
  refine Ans.of_run t98 ?_
  simp -implicitDefEqProofs only [c98, r98, go_sem, List.reduceReplicate, Nat.reduceAdd, Nat.reduceSub, Nat.reduceLT, Nat.reduceLeDiff, Nat.reduceMul, Nat.reduceEqDiff, reduceCtorEq, Int.reduceLE, Int.reduceLT, Int.reduceEq, Int.reduceNe, Int.reduceBEq, Int.reduceBNe, Int.reduceAdd, Int.reduceSub, List.length_map]
  have hget : ∀ i (hi : i < x.ks.length), (x.ks.map av)[i]? = some (.agg [I (x.ks[i]).op, U (x.ks[i]).a, U (x.ks[i]).b, U (x.ks[i]).c, U (x.ks[i]).d, .sl 6 ((x.ks[i]).ks.map av)]) := fun i hi => by simp [hi, ← av_eq]
  have hk := nodes_eq x
  refine L.count x.ks.length (fun i => mkE 43 [(1, .rp [I x.op, U x.a, U x.b, U x.c, U x.d, .sl 6 (x.ks.map av)]), (3, I (sizeL (x.ks.take i))), (4, I i)]) (fun _ => σ) ?_ ?_ ?_ rfl
  · intro i hi J hJ
    have e1 : ((i : Int) < (x.ks.length : Nat)) = True := by simp; omega
    have e2 : IntKind.i64.wrap ((i : Int) + 1) = ((i + 1 : Nat) : Int) := by
      have := len_nodes x.ks
      rw [wrapN (by omega) (by omega)]; rfl
    have hni := nodes_get x.ks i hi
    have h := rsize_ans x.ks[i] (by omega)
    rw [av_eq] at h
    simp -implicitDefEqProofs only [mkE, List.foldl_cons, List.foldl_nil, go_sem, List.reduceReplicate, Nat.reduceAdd, Nat.reduceSub, Nat.reduceLT, Nat.reduceLeDiff, Nat.reduceMul, Nat.reduceEqDiff, reduceCtorEq, Int.reduceLE, Int.reduceLT, Int.reduceEq, Int.reduceNe, Int.reduceBEq, Int.reduceBNe, Int.reduceAdd, Int.reduceSub, e1, hget i hi, List.length_map]
    refine CO.intro h ?_
    have e3 : IntKind.i64.wrap (sizeL (x.ks.take i) + x.ks[i].size) = sizeL (x.ks.take (i + 1)) := by
      have h1 := sizeL_le (x.ks.take i)
      have h2 := size_le x.ks[i]
      have h3 := nodesL_take x.ks i
      rw [wrapN (by omega) (by omega), sizeL_take _ _ hi]
    simp -implicitDefEqProofs only [go_sem, List.reduceReplicate, Nat.reduceAdd, Nat.reduceSub, Nat.reduceLT, Nat.reduceLeDiff, Nat.reduceMul, Nat.reduceEqDiff, reduceCtorEq, Int.reduceLE, Int.reduceLT, Int.reduceEq, Int.reduceNe, Int.reduceBEq, Int.reduceBNe, Int.reduceAdd, Int.reduceSub, e2, e3]
    exact hJ
  · intro J
    have e1 : (((x.ks.length : Nat) : Int) < (x.ks.length : Nat)) = False := by simp
    have h1 := sizeL_le x.ks
    have h2 := len_nodes x.ks
    have e2 : IntKind.i64.wrap (sizeL x.ks + 2) = sizeL x.ks + 2 := wrapN (by omega) (by omega)
    have e3 : IntKind.i64.wrap (sizeL x.ks + 1) = sizeL x.ks + 1 := wrapN (by omega) (by omega)
    have e4 : IntKind.i64.wrap ((x.ks.length : Int) - 1) = (x.ks.length : Int) - 1 := wrapN (by omega) (by omega)
    have e5 : IntKind.i64.wrap (2 * ((x.ks.length : Int) - 1)) = 2 * ((x.ks.length : Int) - 1) := wrapN (by omega) (by omega)
    have e6 : IntKind.i64.wrap (sizeL x.ks + 2 * ((x.ks.length : Int) - 1)) = sizeL x.ks + 2 * ((x.ks.length : Int) - 1) := wrapN (by omega) (by omega)
    simp -implicitDefEqProofs only [mkE, List.foldl_cons, List.foldl_nil, go_sem, List.reduceReplicate, Nat.reduceAdd, Nat.reduceSub, Nat.reduceLT, Nat.reduceLeDiff, Nat.reduceMul, Nat.reduceEqDiff, reduceCtorEq, Int.reduceLE, Int.reduceLT, Int.reduceEq, Int.reduceNe, Int.reduceBEq, Int.reduceBNe, Int.reduceAdd, Int.reduceSub, e1, List.take_length, List.length_map]
    repeat' (refine C.split (fun hb => ?_) (fun hb => ?_) <;> simp -implicitDefEqProofs only [hb, go_sem, List.reduceReplicate, Nat.reduceAdd, Nat.reduceSub, Nat.reduceLT, Nat.reduceLeDiff, Nat.reduceMul, Nat.reduceEqDiff, reduceCtorEq, Int.reduceLE, Int.reduceLT, Int.reduceEq, Int.reduceNe, Int.reduceBEq, Int.reduceBNe, Int.reduceAdd, Int.reduceSub, List.length_map, e2, e3, e4, e5, e6, List.take_length])
    all_goals (refine Fini.ret' rfl (int_congr ?_); rw [size_eq]; simp [*])
  · simp [mkE, sizeL]
termination_by SizeOf.sizeOf x
decreasing_by exact lt_of_mem (List.getElem_mem _)
theorem ris_ans (x : Rex) (hn : x.nodes ≤ 1000) : Ans Try.prog 97 [x.av] σ (Bo x.is) σ := by
  have hk := nodes_eq x
  have hl := len_nodes x.ks
  have hget : ∀ i (hi : i < x.ks.length), (x.ks.map av)[i]? = some (.agg [I (x.ks[i]).op, U (x.ks[i]).a, U (x.ks[i]).b, U (x.ks[i]).c, U (x.ks[i]).d, .sl 6 ((x.ks[i]).ks.map av)]) := fun i hi => by simp [hi, ← av_eq]
  have ih : ∀ i (hi : i < x.ks.length), Ans Try.prog 97 [.agg [I (x.ks[i]).op, U (x.ks[i]).a, U (x.ks[i]).b, U (x.ks[i]).c, U (x.ks[i]).d, .sl 6 ((x.ks[i]).ks.map av)]] σ (Bo (x.ks[i]).is) σ := fun i hi => by
    have hni := nodes_get x.ks i hi
    have := ris_ans x.ks[i] (by omega)
    rwa [av_eq] at this
  have h01 : ((x.ks.length : Int) == 0) = decide ((x.ks.length : Int) < 1) := by rw [Bool.eq_iff_iff]; simp only [beq_iff_eq, decide_eq_true_eq]; omega
  rw [av_eq]
  refine Ans.of_run t97 ?_
  simp -implicitDefEqProofs only [c97, r97, go_sem, List.reduceReplicate, Nat.reduceAdd, Nat.reduceSub, Nat.reduceLT, Nat.reduceLeDiff, Nat.reduceMul, Nat.reduceEqDiff, reduceCtorEq, Int.reduceLE, Int.reduceLT, Int.reduceEq, Int.reduceNe, Int.reduceBEq, Int.reduceBNe, Int.reduceAdd, Int.reduceSub, List.length_map]
  repeat' ((refine C.split (fun hb => ?_) (fun hb => ?_) <;> simp -implicitDefEqProofs only [hb, go_sem, List.reduceReplicate, Nat.reduceAdd, Nat.reduceSub, Nat.reduceLT, Nat.reduceLeDiff, Nat.reduceMul, Nat.reduceEqDiff, reduceCtorEq, Int.reduceLE, Int.reduceLT, Int.reduceEq, Int.reduceNe, Int.reduceBEq, Int.reduceBNe, Int.reduceAdd, Int.reduceSub, List.length_map, Bool.true_xor]))
  all_goals try (refine Fini.ret' rfl (bo_congr ?_); rw [is_eq]; first | (simp [*]; done) | (rw [h01]; simp only [*]; simp; done))
  all_goals (
    have hwhole : x.is = (plain x && !(x.ks.any fun k => !k.is)) := by
      rw [is_eq]; first | (simp [*]; done) | (rw [h01]; simp only [*]; simp)
    clear hb
    refine L.scan x.ks.length (fun i => match x.ks[i]? with | some y => y.is | none => true) (fun i => mkE 42 [(1, .rp [I x.op, U x.a, U x.b, U x.c, U x.d, .sl 6 (x.ks.map av)]), (3, I x.ks.length), (4, I i)]) (fun _ => σ) ?_ ?_ ?_ rfl)
  all_goals try rfl
  all_goals first
  | (intro i hi hok J hJ
     have e1 : ((i : Int) < (x.ks.length : Nat)) = True := by simp; omega
     have e2 : IntKind.i64.wrap ((i : Int) + 1) = ((i + 1 : Nat) : Int) := by rw [wrapN (by omega) (by omega)]; rfl
     have e5 : x.ks[i]? = some x.ks[i] := List.getElem?_eq_getElem hi
     simp -implicitDefEqProofs only [mkE, List.foldl_cons, List.foldl_nil, go_sem, List.reduceReplicate, Nat.reduceAdd, Nat.reduceSub, Nat.reduceLT, Nat.reduceLeDiff, Nat.reduceMul, Nat.reduceEqDiff, reduceCtorEq, Int.reduceLE, Int.reduceLT, Int.reduceEq, Int.reduceNe, Int.reduceBEq, Int.reduceBNe, Int.reduceAdd, Int.reduceSub, e1, hget i hi, List.length_map]
     refine CO.intro (ih i hi) ?_
     cases hb : (x.ks[i]).is with
     | true =>
       simp -implicitDefEqProofs only [go_sem, List.reduceReplicate, Nat.reduceAdd, Nat.reduceSub, Nat.reduceLT, Nat.reduceLeDiff, Nat.reduceMul, Nat.reduceEqDiff, reduceCtorEq, Int.reduceLE, Int.reduceLT, Int.reduceEq, Int.reduceNe, Int.reduceBEq, Int.reduceBNe, Int.reduceAdd, Int.reduceSub, e2]
       exact hJ (by rw [e5]; exact hb)
     | false =>
       simp -implicitDefEqProofs only [go_sem, List.reduceReplicate, Nat.reduceAdd, Nat.reduceSub, Nat.reduceLT, Nat.reduceLeDiff, Nat.reduceMul, Nat.reduceEqDiff, reduceCtorEq, Int.reduceLE, Int.reduceLT, Int.reduceEq, Int.reduceNe, Int.reduceBEq, Int.reduceBNe, Int.reduceAdd, Int.reduceSub]
       refine Fini.ret' rfl (bo_congr ?_)
       have : (x.ks.any fun k => !k.is) = true := List.any_eq_true.2 ⟨x.ks[i], List.getElem_mem hi, by simp [hb]⟩
       rw [hwhole, this]; simp)
  | (intro hok J
     have e1 : (((x.ks.length : Nat) : Int) < (x.ks.length : Nat)) = False := by simp
     simp -implicitDefEqProofs only [mkE, List.foldl_cons, List.foldl_nil, go_sem, List.reduceReplicate, Nat.reduceAdd, Nat.reduceSub, Nat.reduceLT, Nat.reduceLeDiff, Nat.reduceMul, Nat.reduceEqDiff, reduceCtorEq, Int.reduceLE, Int.reduceLT, Int.reduceEq, Int.reduceNe, Int.reduceBEq, Int.reduceBNe, Int.reduceAdd, Int.reduceSub, e1, List.length_map]
     refine Fini.ret' rfl (bo_congr ?_)
     have : (x.ks.any fun k => !k.is) = false := by
       rw [List.any_eq_false]
       intro y hy
       obtain ⟨j, hj, rfl⟩ := List.getElem_of_mem hy
       have := hok j hj
       rw [List.getElem?_eq_getElem hj] at this
       simpa using this
     rw [hwhole, this]; simp [plain])
termination_by SizeOf.sizeOf x
decreasing_by exact lt_of_mem (List.getElem_mem _)
theorem rSize_ans (x : Rex) (hn : x.nodes ≤ 1000) : Ans Try.prog 57 [x.av] σ (I (full x)) σ := by
  have h1 := ris_ans σ x hn
  have h2 := rsize_ans σ x hn
  have hs := size_le x
  have e1 : IntKind.i64.wrap (x.size + 1) = x.size + 1 := wrapN (by omega) (by omega)
  rw [av_eq] at h1 h2 ⊢
  refine Ans.of_run t57 ?_
  simp -implicitDefEqProofs only [c57, r57, go_sem, List.reduceReplicate, Nat.reduceAdd, Nat.reduceSub, Nat.reduceLT, Nat.reduceLeDiff, Nat.reduceMul, Nat.reduceEqDiff, reduceCtorEq, Int.reduceLE, Int.reduceLT, Int.reduceEq, Int.reduceNe, Int.reduceBEq, Int.reduceBNe, Int.reduceAdd, Int.reduceSub]
  refine CO.intro h1 ?_
  simp -implicitDefEqProofs only [go_sem, List.reduceReplicate, Nat.reduceAdd, Nat.reduceSub, Nat.reduceLT, Nat.reduceLeDiff, Nat.reduceMul, Nat.reduceEqDiff, reduceCtorEq, Int.reduceLE, Int.reduceLT, Int.reduceEq, Int.reduceNe, Int.reduceBEq, Int.reduceBNe, Int.reduceAdd, Int.reduceSub]
  refine C.splitN (fun hb => ?_) (fun hb => ?_) <;> simp -implicitDefEqProofs only [go_sem, List.reduceReplicate, Nat.reduceAdd, Nat.reduceSub, Nat.reduceLT, Nat.reduceLeDiff, Nat.reduceMul, Nat.reduceEqDiff, reduceCtorEq, Int.reduceLE, Int.reduceLT, Int.reduceEq, Int.reduceNe, Int.reduceBEq, Int.reduceBNe, Int.reduceAdd, Int.reduceSub]
  · refine CO.intro h2 ?_
    simp -implicitDefEqProofs only [go_sem, List.reduceReplicate, Nat.reduceAdd, Nat.reduceSub, Nat.reduceLT, Nat.reduceLeDiff, Nat.reduceMul, Nat.reduceEqDiff, reduceCtorEq, Int.reduceLE, Int.reduceLT, Int.reduceEq, Int.reduceNe, Int.reduceBEq, Int.reduceBNe, Int.reduceAdd, Int.reduceSub, e1]
    refine Fini.ret' rfl (int_congr ?_)
    simp [full, hb]
  · refine Fini.ret' rfl (int_congr ?_)
    simp [full, hb]
end
end Go.Proofs.Ytoadgajhkhejiaa
