/- ReqWho answers true for any owner and any request's kind: which requests change nothing, who may send which. No condition. -/
import Derived.Test.YthlkjemalepnlaaWRun
import Derived.Test.YthlkjemalepnlaaAbSX
import Derived.Test.YthlkjemalepnlaaAbTree
set_option linter.unusedSimpArgs false
set_option linter.unusedVariables false
namespace Go.Proofs.Ythlkjemalepnlaa
open Go Go.Ab
set_option maxRecDepth 100000
abbrev I (n : Int) : AV := .pl (.int .i64 n)
abbrev Bo (b : Bool) : AV := .pl (.bool b)

def rd (op : Int) : Bool := decide (op = 8 ∨ (13 ≤ op ∧ op ≤ 17))
def my (o op : Int) : Bool := decide (¬ o < 0 ∧ (op = 16 ∨ op = 17 ∨ (o = 0 ∧ 1 ≤ op ∧ op ≤ 4) ∨ (o ≠ 0 ∧ 5 ≤ op ∧ op ≤ 15)))

section
variable (σ : St)
theorem reads_ans (op : Int) : Ans Try.prog 4 [I op] σ (Bo (rd op)) σ := by
  refine Ans.of_run t4 ?_
  simp -implicitDefEqProofs only [c4, r4, go_sem, List.reduceReplicate, Nat.reduceAdd, Nat.reduceSub, Nat.reduceLT, Nat.reduceLeDiff, Nat.reduceMul, Nat.reduceEqDiff, reduceCtorEq, Int.reduceLE, Int.reduceLT, Int.reduceEq, Int.reduceNe, Int.reduceBEq, Int.reduceBNe, Int.reduceAdd, Int.reduceSub]
  repeat' (first | (refine C.split (fun hb => ?_) (fun hb => ?_) <;> simp -implicitDefEqProofs only [hb, go_sem, List.reduceReplicate, Nat.reduceAdd, Nat.reduceSub, Nat.reduceLT, Nat.reduceLeDiff, Nat.reduceMul, Nat.reduceEqDiff, reduceCtorEq, Int.reduceLE, Int.reduceLT, Int.reduceEq, Int.reduceNe, Int.reduceBEq, Int.reduceBNe, Int.reduceAdd, Int.reduceSub]) | (refine OG.split (fun hb => ?_) (fun hb => ?_) <;> simp -implicitDefEqProofs only [hb, go_sem, List.reduceReplicate, Nat.reduceAdd, Nat.reduceSub, Nat.reduceLT, Nat.reduceLeDiff, Nat.reduceMul, Nat.reduceEqDiff, reduceCtorEq, Int.reduceLE, Int.reduceLT, Int.reduceEq, Int.reduceNe, Int.reduceBEq, Int.reduceBNe, Int.reduceAdd, Int.reduceSub]) | (refine DG.split (fun hb => ?_) (fun hb => ?_) <;> simp -implicitDefEqProofs only [hb, go_sem, List.reduceReplicate, Nat.reduceAdd, Nat.reduceSub, Nat.reduceLT, Nat.reduceLeDiff, Nat.reduceMul, Nat.reduceEqDiff, reduceCtorEq, Int.reduceLE, Int.reduceLT, Int.reduceEq, Int.reduceNe, Int.reduceBEq, Int.reduceBNe, Int.reduceAdd, Int.reduceSub]))
  all_goals (refine Fini.ret' rfl (bo_congr ?_); rw [Bool.eq_iff_iff]; simp only [rd, my, beq_iff_eq, decide_eq_true_eq, decide_eq_false_iff_not, beq_eq_false_iff_ne, ne_eq, Bool.false_eq_true, false_iff, true_iff, iff_true, iff_false] at *; omega)

theorem reads_ref (op : Int) : Ans Try.prog 5 [I op] σ (Bo (rd op)) σ := by
  refine Ans.of_run t5 ?_
  cases h1 : (op == 8) <;> cases h2 : decide (13 ≤ op) <;> simp -implicitDefEqProofs only [c5, r5, go_sem, List.reduceReplicate, Nat.reduceAdd, Nat.reduceSub, Nat.reduceLT, Nat.reduceLeDiff, Nat.reduceMul, Nat.reduceEqDiff, reduceCtorEq, Int.reduceLE, Int.reduceLT, Int.reduceEq, Int.reduceNe, Int.reduceBEq, Int.reduceBNe, Int.reduceAdd, Int.reduceSub, h1, h2]
  repeat' (first | (refine C.split (fun hb => ?_) (fun hb => ?_) <;> simp -implicitDefEqProofs only [hb, go_sem, List.reduceReplicate, Nat.reduceAdd, Nat.reduceSub, Nat.reduceLT, Nat.reduceLeDiff, Nat.reduceMul, Nat.reduceEqDiff, reduceCtorEq, Int.reduceLE, Int.reduceLT, Int.reduceEq, Int.reduceNe, Int.reduceBEq, Int.reduceBNe, Int.reduceAdd, Int.reduceSub]) | (refine OG.split (fun hb => ?_) (fun hb => ?_) <;> simp -implicitDefEqProofs only [hb, go_sem, List.reduceReplicate, Nat.reduceAdd, Nat.reduceSub, Nat.reduceLT, Nat.reduceLeDiff, Nat.reduceMul, Nat.reduceEqDiff, reduceCtorEq, Int.reduceLE, Int.reduceLT, Int.reduceEq, Int.reduceNe, Int.reduceBEq, Int.reduceBNe, Int.reduceAdd, Int.reduceSub]) | (refine DG.split (fun hb => ?_) (fun hb => ?_) <;> simp -implicitDefEqProofs only [hb, go_sem, List.reduceReplicate, Nat.reduceAdd, Nat.reduceSub, Nat.reduceLT, Nat.reduceLeDiff, Nat.reduceMul, Nat.reduceEqDiff, reduceCtorEq, Int.reduceLE, Int.reduceLT, Int.reduceEq, Int.reduceNe, Int.reduceBEq, Int.reduceBNe, Int.reduceAdd, Int.reduceSub]))
  all_goals (refine Fini.ret' rfl (bo_congr ?_); rw [Bool.eq_iff_iff]; simp only [rd, my, beq_iff_eq, decide_eq_true_eq, decide_eq_false_iff_not, beq_eq_false_iff_ne, ne_eq, Bool.false_eq_true, false_iff, true_iff, iff_true, iff_false] at *; omega)

theorem may_ans (o op : Int) : Ans Try.prog 6 [I o, I op] σ (Bo (my o op)) σ := by
  refine Ans.of_run t6 ?_
  cases h1 : (op == 16) <;> cases h2 : decide (1 ≤ op) <;> cases h3 : decide (5 ≤ op) <;> simp -implicitDefEqProofs only [c6, r6, go_sem, List.reduceReplicate, Nat.reduceAdd, Nat.reduceSub, Nat.reduceLT, Nat.reduceLeDiff, Nat.reduceMul, Nat.reduceEqDiff, reduceCtorEq, Int.reduceLE, Int.reduceLT, Int.reduceEq, Int.reduceNe, Int.reduceBEq, Int.reduceBNe, Int.reduceAdd, Int.reduceSub, h1, h2, h3]
  all_goals (repeat' (first | (refine C.split (fun hb => ?_) (fun hb => ?_) <;> simp -implicitDefEqProofs only [hb, go_sem, List.reduceReplicate, Nat.reduceAdd, Nat.reduceSub, Nat.reduceLT, Nat.reduceLeDiff, Nat.reduceMul, Nat.reduceEqDiff, reduceCtorEq, Int.reduceLE, Int.reduceLT, Int.reduceEq, Int.reduceNe, Int.reduceBEq, Int.reduceBNe, Int.reduceAdd, Int.reduceSub, h1, h2, h3]) | (refine OG.split (fun hb => ?_) (fun hb => ?_) <;> simp -implicitDefEqProofs only [hb, go_sem, List.reduceReplicate, Nat.reduceAdd, Nat.reduceSub, Nat.reduceLT, Nat.reduceLeDiff, Nat.reduceMul, Nat.reduceEqDiff, reduceCtorEq, Int.reduceLE, Int.reduceLT, Int.reduceEq, Int.reduceNe, Int.reduceBEq, Int.reduceBNe, Int.reduceAdd, Int.reduceSub, h1, h2, h3])))
  all_goals (refine Fini.ret' rfl (bo_congr ?_); rw [Bool.eq_iff_iff]; simp only [rd, my, beq_iff_eq, decide_eq_true_eq, decide_eq_false_iff_not, beq_eq_false_iff_ne, ne_eq, Bool.false_eq_true, false_iff, true_iff, iff_true, iff_false] at *; omega)

theorem may_ref (o op : Int) : Ans Try.prog 7 [I o, I op] σ (Bo (my o op)) σ := by
  refine Ans.of_run t7 ?_
  cases h1 : (op == 16) <;> cases h2 : decide (1 ≤ op) <;> cases h3 : decide (5 ≤ op) <;> simp -implicitDefEqProofs only [c7, r7, go_sem, List.reduceReplicate, Nat.reduceAdd, Nat.reduceSub, Nat.reduceLT, Nat.reduceLeDiff, Nat.reduceMul, Nat.reduceEqDiff, reduceCtorEq, Int.reduceLE, Int.reduceLT, Int.reduceEq, Int.reduceNe, Int.reduceBEq, Int.reduceBNe, Int.reduceAdd, Int.reduceSub, h1, h2, h3]
  all_goals (repeat' (first | (refine C.split (fun hb => ?_) (fun hb => ?_) <;> simp -implicitDefEqProofs only [hb, go_sem, List.reduceReplicate, Nat.reduceAdd, Nat.reduceSub, Nat.reduceLT, Nat.reduceLeDiff, Nat.reduceMul, Nat.reduceEqDiff, reduceCtorEq, Int.reduceLE, Int.reduceLT, Int.reduceEq, Int.reduceNe, Int.reduceBEq, Int.reduceBNe, Int.reduceAdd, Int.reduceSub, h1, h2, h3]) | (refine OG.split (fun hb => ?_) (fun hb => ?_) <;> simp -implicitDefEqProofs only [hb, go_sem, List.reduceReplicate, Nat.reduceAdd, Nat.reduceSub, Nat.reduceLT, Nat.reduceLeDiff, Nat.reduceMul, Nat.reduceEqDiff, reduceCtorEq, Int.reduceLE, Int.reduceLT, Int.reduceEq, Int.reduceNe, Int.reduceBEq, Int.reduceBNe, Int.reduceAdd, Int.reduceSub, h1, h2, h3])))
  all_goals (refine Fini.ret' rfl (bo_congr ?_); rw [Bool.eq_iff_iff]; simp only [rd, my, beq_iff_eq, decide_eq_true_eq, decide_eq_false_iff_not, beq_eq_false_iff_ne, ne_eq, Bool.false_eq_true, false_iff, true_iff, iff_true, iff_false] at *; omega)
end
end Go.Proofs.Ythlkjemalepnlaa
