/- ProgAdds answers true at any two trees. No condition. -/
import Derived.Test.YtoiageeecdgleaaTree2
import Derived.Test.YtoiageeecdgleaaRuns
import Derived.Test.YtoiageeecdgleaaAbArg
set_option linter.unusedSimpArgs false
set_option linter.unusedVariables false
namespace Go.Proofs.Ytoiageeecdgleaa
open Go Go.Ab Go.ChangeShapes Go.WideShapes Go.ChangeAt Go.RowKit
open Rex
set_option maxRecDepth 100000

theorem full_of {x : Rex} (h : x.is = true) : full x = x.size + 1 := by simp [full, h]

theorem is_two {op : Int} {x y : Rex} (ho : op = 2 ∨ op = 3) (hx : x.is = true) (hy : y.is = true) : (Rex.mk op 0 0 0 0 [x, y]).is = true := by
  rw [is_eq]
  rcases ho with rfl | rfl <;> simp [Rex.op, Rex.ks, plain, Rex.a, Rex.b, Rex.c, Rex.d, hx, hy]

theorem is_one {op : Int} {x : Rex} (ho : op = 4 ∨ op = 5 ∨ op = 6) (hx : x.is = true) : (Rex.mk op 0 0 0 0 [x]).is = true := by
  rw [is_eq]
  rcases ho with rfl | rfl | rfl <;> simp [Rex.op, Rex.ks, plain, Rex.a, Rex.b, Rex.c, Rex.d, hx]

theorem two_ans (op : Int) (x y : Rex) (n : Int) (hn : (Rex.mk op 0 0 0 0 [x, y]).size + 1 = n) (ho : op = 2 ∨ op = 3) (hx : x.is = true) (hy : y.is = true) (h1 : x.nodes ≤ 40) (h2 : y.nodes ≤ 40) :
    Ans Try.prog 14 [.agg [I op, U 0, U 0, U 0, U 0, .sl 6 [.agg [I x.op, U x.a, U x.b, U x.c, U x.d, .sl 6 (x.ks.map av)], .agg [I y.op, U y.a, U y.b, U y.c, U y.d, .sl 6 (y.ks.map av)]]]] [] (I n) [] := by
  have h := Size_ans [] (Rex.mk op 0 0 0 0 [x, y]) (by simp only [nodes, nodesL]; omega)
  rw [full_of (is_two ho hx hy), hn, av_eq] at h
  simpa only [Rex.op, Rex.ks, Rex.a, Rex.b, Rex.c, Rex.d, List.map_cons, List.map_nil, av_eq x, av_eq y] using h

theorem one_ans (op : Int) (x : Rex) (n : Int) (hn : (Rex.mk op 0 0 0 0 [x]).size + 1 = n) (ho : op = 4 ∨ op = 5 ∨ op = 6) (hx : x.is = true) (h1 : x.nodes ≤ 40) :
    Ans Try.prog 14 [.agg [I op, U 0, U 0, U 0, U 0, .sl 6 [.agg [I x.op, U x.a, U x.b, U x.c, U x.d, .sl 6 (x.ks.map av)]]]] [] (I n) [] := by
  have h := Size_ans [] (Rex.mk op 0 0 0 0 [x]) (by simp only [nodes, nodesL]; omega)
  rw [full_of (is_one ho hx), hn, av_eq] at h
  simpa only [Rex.op, Rex.ks, Rex.a, Rex.b, Rex.c, Rex.d, List.map_cons, List.map_nil, av_eq x] using h

theorem progAdds_ans (x y : Rex) : Ans Try.prog 8 [x.av, y.av] [] (.pl (.bool true)) [] := by
  have hnx := nodes_ans [] x 40 (by decide) (by decide)
  have hny := nodes_ans [] y 40 (by decide) (by decide)
  have cx := cut_le x 40 (by decide)
  have cy := cut_le y 40 (by decide)
  have qx := cut_nodes x 40 (by decide)
  have qy := cut_nodes y 40 (by decide)
  have hrun : Ans Try.prog 3 [] [] (Bo true) [] := runs_ans
  by_cases k1 : (40 : Int) < x.cut 40
  · have k1' : decide ((40 : Int) < x.cut 40) = true := by simpa using k1
    rw [av_eq] at hnx
    rw [av_eq x, av_eq y]
    refine Ans.of_run t8 ?_
    simp -implicitDefEqProofs only [c8, r8, go_sem, List.reduceReplicate, Nat.reduceAdd, Nat.reduceSub, Nat.reduceLT, Nat.reduceLeDiff, Nat.reduceMul, Nat.reduceEqDiff, reduceCtorEq, Int.reduceLE, Int.reduceLT, Int.reduceEq, Int.reduceNe, Int.reduceBEq, Int.reduceBNe, Int.reduceAdd, Int.reduceSub]
    refine CO.intro hnx ?_
    simp -implicitDefEqProofs only [go_sem, List.reduceReplicate, Nat.reduceAdd, Nat.reduceSub, Nat.reduceLT, Nat.reduceLeDiff, Nat.reduceMul, Nat.reduceEqDiff, reduceCtorEq, Int.reduceLE, Int.reduceLT, Int.reduceEq, Int.reduceNe, Int.reduceBEq, Int.reduceBNe, Int.reduceAdd, Int.reduceSub, k1']
    refine CO.intro hrun ?_
    simp -implicitDefEqProofs only [go_sem, List.reduceReplicate, Nat.reduceAdd, Nat.reduceSub, Nat.reduceLT, Nat.reduceLeDiff, Nat.reduceMul, Nat.reduceEqDiff, reduceCtorEq, Int.reduceLE, Int.reduceLT, Int.reduceEq, Int.reduceNe, Int.reduceBEq, Int.reduceBNe, Int.reduceAdd, Int.reduceSub]
    exact Fini.ret rfl
  have k1' : decide ((40 : Int) < x.cut 40) = false := by simpa using k1
  have nx : x.nodes ≤ 40 := by have := qx (by omega); omega
  by_cases k2 : (40 : Int) < y.cut 40
  · have k2' : decide ((40 : Int) < y.cut 40) = true := by simpa using k2
    rw [av_eq] at hnx hny
    rw [av_eq x, av_eq y]
    refine Ans.of_run t8 ?_
    simp -implicitDefEqProofs only [c8, r8, go_sem, List.reduceReplicate, Nat.reduceAdd, Nat.reduceSub, Nat.reduceLT, Nat.reduceLeDiff, Nat.reduceMul, Nat.reduceEqDiff, reduceCtorEq, Int.reduceLE, Int.reduceLT, Int.reduceEq, Int.reduceNe, Int.reduceBEq, Int.reduceBNe, Int.reduceAdd, Int.reduceSub]
    refine CO.intro hnx ?_
    simp -implicitDefEqProofs only [go_sem, List.reduceReplicate, Nat.reduceAdd, Nat.reduceSub, Nat.reduceLT, Nat.reduceLeDiff, Nat.reduceMul, Nat.reduceEqDiff, reduceCtorEq, Int.reduceLE, Int.reduceLT, Int.reduceEq, Int.reduceNe, Int.reduceBEq, Int.reduceBNe, Int.reduceAdd, Int.reduceSub, k1']
    refine CO.intro hny ?_
    simp -implicitDefEqProofs only [go_sem, List.reduceReplicate, Nat.reduceAdd, Nat.reduceSub, Nat.reduceLT, Nat.reduceLeDiff, Nat.reduceMul, Nat.reduceEqDiff, reduceCtorEq, Int.reduceLE, Int.reduceLT, Int.reduceEq, Int.reduceNe, Int.reduceBEq, Int.reduceBNe, Int.reduceAdd, Int.reduceSub, k2']
    refine CO.intro hrun ?_
    simp -implicitDefEqProofs only [go_sem, List.reduceReplicate, Nat.reduceAdd, Nat.reduceSub, Nat.reduceLT, Nat.reduceLeDiff, Nat.reduceMul, Nat.reduceEqDiff, reduceCtorEq, Int.reduceLE, Int.reduceLT, Int.reduceEq, Int.reduceNe, Int.reduceBEq, Int.reduceBNe, Int.reduceAdd, Int.reduceSub]
    exact Fini.ret rfl
  have k2' : decide ((40 : Int) < y.cut 40) = false := by simpa using k2
  have ny : y.nodes ≤ 40 := by have := qy (by omega); omega
  have hix := is_ans [] x (by omega)
  have hiy := is_ans [] y (by omega)
  cases bx : x.is with
  | false =>
    rw [bx] at hix
    rw [av_eq] at hnx hny hix
    rw [av_eq x, av_eq y]
    refine Ans.of_run t8 ?_
    simp -implicitDefEqProofs only [c8, r8, go_sem, List.reduceReplicate, Nat.reduceAdd, Nat.reduceSub, Nat.reduceLT, Nat.reduceLeDiff, Nat.reduceMul, Nat.reduceEqDiff, reduceCtorEq, Int.reduceLE, Int.reduceLT, Int.reduceEq, Int.reduceNe, Int.reduceBEq, Int.reduceBNe, Int.reduceAdd, Int.reduceSub]
    refine CO.intro hnx ?_
    simp -implicitDefEqProofs only [go_sem, List.reduceReplicate, Nat.reduceAdd, Nat.reduceSub, Nat.reduceLT, Nat.reduceLeDiff, Nat.reduceMul, Nat.reduceEqDiff, reduceCtorEq, Int.reduceLE, Int.reduceLT, Int.reduceEq, Int.reduceNe, Int.reduceBEq, Int.reduceBNe, Int.reduceAdd, Int.reduceSub, k1']
    refine CO.intro hny ?_
    simp -implicitDefEqProofs only [go_sem, List.reduceReplicate, Nat.reduceAdd, Nat.reduceSub, Nat.reduceLT, Nat.reduceLeDiff, Nat.reduceMul, Nat.reduceEqDiff, reduceCtorEq, Int.reduceLE, Int.reduceLT, Int.reduceEq, Int.reduceNe, Int.reduceBEq, Int.reduceBNe, Int.reduceAdd, Int.reduceSub, k2']
    refine CO.intro hix ?_
    simp -implicitDefEqProofs only [go_sem, List.reduceReplicate, Nat.reduceAdd, Nat.reduceSub, Nat.reduceLT, Nat.reduceLeDiff, Nat.reduceMul, Nat.reduceEqDiff, reduceCtorEq, Int.reduceLE, Int.reduceLT, Int.reduceEq, Int.reduceNe, Int.reduceBEq, Int.reduceBNe, Int.reduceAdd, Int.reduceSub]
    refine CO.intro hrun ?_
    simp -implicitDefEqProofs only [go_sem, List.reduceReplicate, Nat.reduceAdd, Nat.reduceSub, Nat.reduceLT, Nat.reduceLeDiff, Nat.reduceMul, Nat.reduceEqDiff, reduceCtorEq, Int.reduceLE, Int.reduceLT, Int.reduceEq, Int.reduceNe, Int.reduceBEq, Int.reduceBNe, Int.reduceAdd, Int.reduceSub]
    exact Fini.ret rfl
  | true =>
  rw [bx] at hix
  cases hy : y.is with
  | false =>
    rw [hy] at hiy
    rw [av_eq] at hnx hny hix hiy
    rw [av_eq x, av_eq y]
    refine Ans.of_run t8 ?_
    simp -implicitDefEqProofs only [c8, r8, go_sem, List.reduceReplicate, Nat.reduceAdd, Nat.reduceSub, Nat.reduceLT, Nat.reduceLeDiff, Nat.reduceMul, Nat.reduceEqDiff, reduceCtorEq, Int.reduceLE, Int.reduceLT, Int.reduceEq, Int.reduceNe, Int.reduceBEq, Int.reduceBNe, Int.reduceAdd, Int.reduceSub]
    refine CO.intro hnx ?_
    simp -implicitDefEqProofs only [go_sem, List.reduceReplicate, Nat.reduceAdd, Nat.reduceSub, Nat.reduceLT, Nat.reduceLeDiff, Nat.reduceMul, Nat.reduceEqDiff, reduceCtorEq, Int.reduceLE, Int.reduceLT, Int.reduceEq, Int.reduceNe, Int.reduceBEq, Int.reduceBNe, Int.reduceAdd, Int.reduceSub, k1']
    refine CO.intro hny ?_
    simp -implicitDefEqProofs only [go_sem, List.reduceReplicate, Nat.reduceAdd, Nat.reduceSub, Nat.reduceLT, Nat.reduceLeDiff, Nat.reduceMul, Nat.reduceEqDiff, reduceCtorEq, Int.reduceLE, Int.reduceLT, Int.reduceEq, Int.reduceNe, Int.reduceBEq, Int.reduceBNe, Int.reduceAdd, Int.reduceSub, k2']
    refine CO.intro hix ?_
    simp -implicitDefEqProofs only [go_sem, List.reduceReplicate, Nat.reduceAdd, Nat.reduceSub, Nat.reduceLT, Nat.reduceLeDiff, Nat.reduceMul, Nat.reduceEqDiff, reduceCtorEq, Int.reduceLE, Int.reduceLT, Int.reduceEq, Int.reduceNe, Int.reduceBEq, Int.reduceBNe, Int.reduceAdd, Int.reduceSub]
    refine CO.intro hiy ?_
    simp -implicitDefEqProofs only [go_sem, List.reduceReplicate, Nat.reduceAdd, Nat.reduceSub, Nat.reduceLT, Nat.reduceLeDiff, Nat.reduceMul, Nat.reduceEqDiff, reduceCtorEq, Int.reduceLE, Int.reduceLT, Int.reduceEq, Int.reduceNe, Int.reduceBEq, Int.reduceBNe, Int.reduceAdd, Int.reduceSub]
    refine CO.intro hrun ?_
    simp -implicitDefEqProofs only [go_sem, List.reduceReplicate, Nat.reduceAdd, Nat.reduceSub, Nat.reduceLT, Nat.reduceLeDiff, Nat.reduceMul, Nat.reduceEqDiff, reduceCtorEq, Int.reduceLE, Int.reduceLT, Int.reduceEq, Int.reduceNe, Int.reduceBEq, Int.reduceBNe, Int.reduceAdd, Int.reduceSub]
    exact Fini.ret rfl
  | true =>
  rw [hy] at hiy
  have sx := Size_ans [] x (by omega)
  have sy := Size_ans [] y (by omega)
  rw [full_of bx] at sx
  rw [full_of hy] at sy
  have bx' := size_le x
  have by' := size_le y
  have e1 : IntKind.i64.wrap (x.size + 1 - 1) = x.size := by rw [wrapN (by omega) (by omega)]; omega
  have e2 : IntKind.i64.wrap (y.size + 1 - 1) = y.size := by rw [wrapN (by omega) (by omega)]; omega
  have e3 : IntKind.i64.wrap (x.size + y.size) = x.size + y.size := wrapN (by omega) (by omega)
  have e4 : IntKind.i64.wrap (x.size + y.size + 1) = x.size + y.size + 1 := wrapN (by omega) (by omega)
  have e5 : IntKind.i64.wrap (x.size + y.size + 3) = x.size + y.size + 3 := wrapN (by omega) (by omega)
  have e6 : IntKind.i64.wrap (x.size + 3) = x.size + 3 := wrapN (by omega) (by omega)
  have e7 : IntKind.i64.wrap (x.size + 2) = x.size + 2 := wrapN (by omega) (by omega)
  have a2 := two_ans 2 x y (x.size + y.size + 1) (by simp [Rex.size, sizeL]) (.inl rfl) bx hy nx ny
  have a3 := two_ans 3 x y (x.size + y.size + 3) (by simp [Rex.size, sizeL]; omega) (.inr rfl) bx hy nx ny
  have a4 := one_ans 4 x (x.size + 3) (by simp [Rex.size, sizeL]; omega) (.inl rfl) bx nx
  have a5 := one_ans 5 x (x.size + 2) (by simp [Rex.size, sizeL]; omega) (.inr (.inl rfl)) bx nx
  have a6 := one_ans 6 x (x.size + 2) (by simp [Rex.size, sizeL]; omega) (.inr (.inr rfl)) bx nx
  rw [av_eq] at hnx hny hix hiy sx sy
  rw [av_eq x, av_eq y]
  refine Ans.of_run t8 ?_
  simp -implicitDefEqProofs only [c8, r8, go_sem, List.reduceReplicate, Nat.reduceAdd, Nat.reduceSub, Nat.reduceLT, Nat.reduceLeDiff, Nat.reduceMul, Nat.reduceEqDiff, reduceCtorEq, Int.reduceLE, Int.reduceLT, Int.reduceEq, Int.reduceNe, Int.reduceBEq, Int.reduceBNe, Int.reduceAdd, Int.reduceSub]
  refine CO.intro hnx ?_
  simp -implicitDefEqProofs only [go_sem, List.reduceReplicate, Nat.reduceAdd, Nat.reduceSub, Nat.reduceLT, Nat.reduceLeDiff, Nat.reduceMul, Nat.reduceEqDiff, reduceCtorEq, Int.reduceLE, Int.reduceLT, Int.reduceEq, Int.reduceNe, Int.reduceBEq, Int.reduceBNe, Int.reduceAdd, Int.reduceSub, k1']
  refine CO.intro hny ?_
  simp -implicitDefEqProofs only [go_sem, List.reduceReplicate, Nat.reduceAdd, Nat.reduceSub, Nat.reduceLT, Nat.reduceLeDiff, Nat.reduceMul, Nat.reduceEqDiff, reduceCtorEq, Int.reduceLE, Int.reduceLT, Int.reduceEq, Int.reduceNe, Int.reduceBEq, Int.reduceBNe, Int.reduceAdd, Int.reduceSub, k2']
  refine CO.intro hix ?_
  simp -implicitDefEqProofs only [go_sem, List.reduceReplicate, Nat.reduceAdd, Nat.reduceSub, Nat.reduceLT, Nat.reduceLeDiff, Nat.reduceMul, Nat.reduceEqDiff, reduceCtorEq, Int.reduceLE, Int.reduceLT, Int.reduceEq, Int.reduceNe, Int.reduceBEq, Int.reduceBNe, Int.reduceAdd, Int.reduceSub]
  refine CO.intro hiy ?_
  simp -implicitDefEqProofs only [go_sem, List.reduceReplicate, Nat.reduceAdd, Nat.reduceSub, Nat.reduceLT, Nat.reduceLeDiff, Nat.reduceMul, Nat.reduceEqDiff, reduceCtorEq, Int.reduceLE, Int.reduceLT, Int.reduceEq, Int.reduceNe, Int.reduceBEq, Int.reduceBNe, Int.reduceAdd, Int.reduceSub]
  refine CD.intro sx ?_
  simp -implicitDefEqProofs only [go_sem, List.reduceReplicate, Nat.reduceAdd, Nat.reduceSub, Nat.reduceLT, Nat.reduceLeDiff, Nat.reduceMul, Nat.reduceEqDiff, reduceCtorEq, Int.reduceLE, Int.reduceLT, Int.reduceEq, Int.reduceNe, Int.reduceBEq, Int.reduceBNe, Int.reduceAdd, Int.reduceSub, e1]
  refine CD.intro sy ?_
  simp -implicitDefEqProofs only [go_sem, List.reduceReplicate, Nat.reduceAdd, Nat.reduceSub, Nat.reduceLT, Nat.reduceLeDiff, Nat.reduceMul, Nat.reduceEqDiff, reduceCtorEq, Int.reduceLE, Int.reduceLT, Int.reduceEq, Int.reduceNe, Int.reduceBEq, Int.reduceBNe, Int.reduceAdd, Int.reduceSub, e1, e2]
  refine CO.intro a2 ?_
  simp -implicitDefEqProofs only [go_sem, List.reduceReplicate, Nat.reduceAdd, Nat.reduceSub, Nat.reduceLT, Nat.reduceLeDiff, Nat.reduceMul, Nat.reduceEqDiff, reduceCtorEq, Int.reduceLE, Int.reduceLT, Int.reduceEq, Int.reduceNe, Int.reduceBEq, Int.reduceBNe, Int.reduceAdd, Int.reduceSub, e3, e4]
  refine CO.intro a3 ?_
  simp -implicitDefEqProofs only [go_sem, List.reduceReplicate, Nat.reduceAdd, Nat.reduceSub, Nat.reduceLT, Nat.reduceLeDiff, Nat.reduceMul, Nat.reduceEqDiff, reduceCtorEq, Int.reduceLE, Int.reduceLT, Int.reduceEq, Int.reduceNe, Int.reduceBEq, Int.reduceBNe, Int.reduceAdd, Int.reduceSub, e3, e5]
  refine CO.intro a4 ?_
  simp -implicitDefEqProofs only [go_sem, List.reduceReplicate, Nat.reduceAdd, Nat.reduceSub, Nat.reduceLT, Nat.reduceLeDiff, Nat.reduceMul, Nat.reduceEqDiff, reduceCtorEq, Int.reduceLE, Int.reduceLT, Int.reduceEq, Int.reduceNe, Int.reduceBEq, Int.reduceBNe, Int.reduceAdd, Int.reduceSub, e6]
  refine CO.intro a5 ?_
  simp -implicitDefEqProofs only [go_sem, List.reduceReplicate, Nat.reduceAdd, Nat.reduceSub, Nat.reduceLT, Nat.reduceLeDiff, Nat.reduceMul, Nat.reduceEqDiff, reduceCtorEq, Int.reduceLE, Int.reduceLT, Int.reduceEq, Int.reduceNe, Int.reduceBEq, Int.reduceBNe, Int.reduceAdd, Int.reduceSub, e7]
  refine CO.intro a6 ?_
  simp -implicitDefEqProofs only [go_sem, List.reduceReplicate, Nat.reduceAdd, Nat.reduceSub, Nat.reduceLT, Nat.reduceLeDiff, Nat.reduceMul, Nat.reduceEqDiff, reduceCtorEq, Int.reduceLE, Int.reduceLT, Int.reduceEq, Int.reduceNe, Int.reduceBEq, Int.reduceBNe, Int.reduceAdd, Int.reduceSub, e7]
  refine CO.intro hrun ?_
  simp -implicitDefEqProofs only [go_sem, List.reduceReplicate, Nat.reduceAdd, Nat.reduceSub, Nat.reduceLT, Nat.reduceLeDiff, Nat.reduceMul, Nat.reduceEqDiff, reduceCtorEq, Int.reduceLE, Int.reduceLT, Int.reduceEq, Int.reduceNe, Int.reduceBEq, Int.reduceBNe, Int.reduceAdd, Int.reduceSub]
  exact Fini.ret rfl
end Go.Proofs.Ytoiageeecdgleaa
