/- ChainLinks answers true for any owner, digest and bytes, the package variables being as the text lays them. No condition. -/
import Derived.Test.YthlkjemalepnlaaGreatDoorLinks2
import Derived.Test.YthlkjemalepnlaaGreatDoorLGlo
set_option linter.unusedSimpArgs false
set_option linter.unusedVariables false
namespace Go.Proofs.YthlkjemalepnlaaGreatDoor
open Go Go.Ab
set_option maxRecDepth 100000

def lnk (ps ns : List Int) : List Int := 1 :: ps ++ ns
theorem link_a (σ : St) (ps ns : List Int) (hp : ps.length = 32) (hr : ns.length ≤ 300) : Ans Tryz.prog 8 [.agg (ps.map B), .sl 1 (ns.map B)] σ (.sl 1 ((lnk ps ns).map B)) σ := link_ans σ ps ns hp hr
theorem link_r (σ : St) (ps ns : List Int) (hp : ps.length = 32) (hr : ns.length ≤ 300) : Ans Tryz.prog 9 [.agg (ps.map B), .sl 1 (ns.map B)] σ (.sl 1 ((lnk ps ns).map B)) σ := link_ref σ ps ns hp hr

theorem chainLinks_ans (o : Int) (ps ns : List Int) (hp : ps.length = 32) (hrun : Ans Tryz.prog 5 [] [glo0, glo1] (Bo true) [glo0, glo1]) :
    Ans Tryz.prog 3 [I o, .agg (ps.map B), .sl 1 (ns.map B)] [glo0, glo1] (.pl (.bool true)) [glo0, glo1] := by
  generalize hσ : ([glo0, glo1] : St) = σ at *
  have e1 : (ps.map B).length = 32 := by simp [hp]
  have e2 : (ps.map B).take 32 = ps.map B := List.take_of_length_le (by omega)
  refine Ans.of_run t3 ?_
  simp -implicitDefEqProofs only [c3, r3, go_sem, List.reduceReplicate, Nat.reduceAdd, Nat.reduceSub, Nat.reduceLT, Nat.reduceLeDiff, Nat.reduceMul, Nat.reduceEqDiff, reduceCtorEq, Int.reduceLE, Int.reduceLT, Int.reduceEq, Int.reduceNe, Int.reduceBEq, Int.reduceBNe, Int.reduceAdd, Int.reduceSub, one_B, List.length_map]
  refine C.split (fun hb => ?_) (fun hb => ?_)
  · simp -implicitDefEqProofs only [go_sem, List.reduceReplicate, Nat.reduceAdd, Nat.reduceSub, Nat.reduceLT, Nat.reduceLeDiff, Nat.reduceMul, Nat.reduceEqDiff, reduceCtorEq, Int.reduceLE, Int.reduceLT, Int.reduceEq, Int.reduceNe, Int.reduceBEq, Int.reduceBNe, Int.reduceAdd, Int.reduceSub]
    refine CO.intro hrun ?_
    simp -implicitDefEqProofs only [go_sem, List.reduceReplicate, Nat.reduceAdd, Nat.reduceSub, Nat.reduceLT, Nat.reduceLeDiff, Nat.reduceMul, Nat.reduceEqDiff, reduceCtorEq, Int.reduceLE, Int.reduceLT, Int.reduceEq, Int.reduceNe, Int.reduceBEq, Int.reduceBNe, Int.reduceAdd, Int.reduceSub]
    exact Fini.ret rfl
  · have hn : ns.length ≤ 300 := by simp at hb; omega
    simp -implicitDefEqProofs only [go_sem, List.reduceReplicate, Nat.reduceAdd, Nat.reduceSub, Nat.reduceLT, Nat.reduceLeDiff, Nat.reduceMul, Nat.reduceEqDiff, reduceCtorEq, Int.reduceLE, Int.reduceLT, Int.reduceEq, Int.reduceNe, Int.reduceBEq, Int.reduceBNe, Int.reduceAdd, Int.reduceSub]
    refine CD.intro (genesis_ans σ o) ?_
    simp -implicitDefEqProofs only [go_sem, List.reduceReplicate, Nat.reduceAdd, Nat.reduceSub, Nat.reduceLT, Nat.reduceLeDiff, Nat.reduceMul, Nat.reduceEqDiff, reduceCtorEq, Int.reduceLE, Int.reduceLT, Int.reduceEq, Int.reduceNe, Int.reduceBEq, Int.reduceBNe, Int.reduceAdd, Int.reduceSub, List.all_map, Function.comp_def, all_tt, eq_self, decide_true, List.length_map, AV.isStr, byteL_B]
    refine CD.intro (genesis_ref σ o) ?_
    simp -implicitDefEqProofs only [go_sem, List.reduceReplicate, Nat.reduceAdd, Nat.reduceSub, Nat.reduceLT, Nat.reduceLeDiff, Nat.reduceMul, Nat.reduceEqDiff, reduceCtorEq, Int.reduceLE, Int.reduceLT, Int.reduceEq, Int.reduceNe, Int.reduceBEq, Int.reduceBNe, Int.reduceAdd, Int.reduceSub, List.all_map, Function.comp_def, all_tt, eq_self, decide_true, List.length_map, AV.isStr, byteL_B, e1, e2]
    refine CD.intro (link_a σ ps ns hp hn) ?_
    simp -implicitDefEqProofs only [go_sem, List.reduceReplicate, Nat.reduceAdd, Nat.reduceSub, Nat.reduceLT, Nat.reduceLeDiff, Nat.reduceMul, Nat.reduceEqDiff, reduceCtorEq, Int.reduceLE, Int.reduceLT, Int.reduceEq, Int.reduceNe, Int.reduceBEq, Int.reduceBNe, Int.reduceAdd, Int.reduceSub, List.all_map, Function.comp_def, all_tt, eq_self, decide_true, List.length_map, AV.isStr, byteL_B, e1, e2]
    refine CD.intro (link_r σ ps ns hp hn) ?_
    simp -implicitDefEqProofs only [go_sem, List.reduceReplicate, Nat.reduceAdd, Nat.reduceSub, Nat.reduceLT, Nat.reduceLeDiff, Nat.reduceMul, Nat.reduceEqDiff, reduceCtorEq, Int.reduceLE, Int.reduceLT, Int.reduceEq, Int.reduceNe, Int.reduceBEq, Int.reduceBNe, Int.reduceAdd, Int.reduceSub, List.all_map, Function.comp_def, all_tt, eq_self, decide_true, List.length_map, AV.isStr, byteL_B, e1, e2]
    refine CD.intro hrun ?_
    simp -implicitDefEqProofs only [go_sem, List.reduceReplicate, Nat.reduceAdd, Nat.reduceSub, Nat.reduceLT, Nat.reduceLeDiff, Nat.reduceMul, Nat.reduceEqDiff, reduceCtorEq, Int.reduceLE, Int.reduceLT, Int.reduceEq, Int.reduceNe, Int.reduceBEq, Int.reduceBNe, Int.reduceAdd, Int.reduceSub, List.all_map, Function.comp_def, all_tt, eq_self, decide_true, List.length_map, AV.isStr, byteL_B, e1, e2]
    exact Fini.ret rfl
end Go.Proofs.YthlkjemalepnlaaGreatDoor
