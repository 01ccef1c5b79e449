/- The link of a digest and bytes: both ways of laying it. No condition. -/
import Derived.Test.YthlkjemalepnlaaGreatDoorLinks
set_option linter.unusedSimpArgs false
set_option linter.unusedVariables false
namespace Go.Proofs.YthlkjemalepnlaaGreatDoor
open Go Go.Ab
set_option maxRecDepth 100000
section
variable (σ : St)

theorem grow_ans (n : Int) (h : 0 < n) (h' : n ≤ 4294967296) : Ans Tryz.prog 30 [.nils, I n] σ (.osl (σ.length + 1) 0) (σ ++ [.dead] ++ [.row 1 []]) := by
  have e1 : (n < 0) = False := by simp; omega
  have e2 : IntKind.i64.wrap 0 = 0 := by decide
  have e3 : IntKind.i64.wrap (n - 0) = n := by rw [wrapN (by omega) (by omega)]; omega
  have e4 : (0 < n) = True := by simp; omega
  have e5 : (n = 0) = False := by simp; omega
  have e6 : (n ≤ 4294967296) = True := by simp; omega
  have e7 : (0 ≤ (n.toNat : Int)) = True := eq_true (Int.natCast_nonneg _)
  refine Ans.of_run t30 ?_
  simp -implicitDefEqProofs only [c30, r30, go_sem, List.reduceReplicate, Nat.reduceAdd, Nat.reduceSub, Nat.reduceLT, Nat.reduceLeDiff, Nat.reduceMul, Nat.reduceEqDiff, reduceCtorEq, Int.reduceLE, Int.reduceLT, Int.reduceEq, Int.reduceNe, Int.reduceBEq, Int.reduceBNe, Int.reduceAdd, Int.reduceSub, getc, setc, lenc, getc2, setc2, lenc2, Int.toNat_natCast, Int.reduceToNat, e1, e2, e3, e4, e5, e6, e7, chunks_length]
  exact Fini.ret rfl

def sumI (a b c : List Int) : Nat → Int
  | 0 => 0
  | 1 => a.length
  | 2 => a.length + b.length
  | _ => a.length + b.length + c.length
def ixI : Nat → Int
  | 0 => 0
  | 1 => 1
  | 2 => 2
  | _ => 3
def preL (a b c : List Int) : Nat → List AV
  | 0 => []
  | 1 => a.map B
  | 2 => a.map B ++ b.map B
  | _ => a.map B ++ b.map B ++ c.map B
def preN (a b c : List Int) : Nat → Nat
  | 0 => 0
  | 1 => a.length
  | 2 => a.length + b.length
  | _ => a.length + b.length + c.length

theorem concat_ans (a b c : List Int) (h : 0 < a.length) (h1 : a.length ≤ 1000) (h2 : b.length ≤ 1000) (h3 : c.length ≤ 1000) :
    Ans Tryz.prog 20 [.sl 1 [.sl 1 (a.map B), .sl 1 (b.map B), .sl 1 (c.map B)]] σ (.sl 1 (a.map B ++ b.map B ++ c.map B)) σ := by
  refine Ans.of_run' t20 fun hbo _ => ?_
  simp -implicitDefEqProofs only [c20, r20, go_sem, List.reduceReplicate, Nat.reduceAdd, Nat.reduceSub, Nat.reduceLT, Nat.reduceLeDiff, Nat.reduceMul, Nat.reduceEqDiff, reduceCtorEq, Int.reduceLE, Int.reduceLT, Int.reduceEq, Int.reduceNe, Int.reduceBEq, Int.reduceBNe, Int.reduceAdd, Int.reduceSub, getc, setc, lenc, getc2, setc2, lenc2, Int.toNat_natCast, Int.reduceToNat]
  have w1 : IntKind.i64.wrap (0 + (a.length : Int)) = a.length := by rw [Int.zero_add]; exact wrapN (by omega) (by omega)
  have w2 : IntKind.i64.wrap ((a.length : Int) + b.length) = a.length + b.length := wrapN (by omega) (by omega)
  have w3 : IntKind.i64.wrap ((a.length : Int) + b.length + c.length) = a.length + b.length + c.length := wrapN (by omega) (by omega)
  have n1 : ((a.length : Int) < 0) = False := eq_false (by omega)
  have n2 : ((a.length : Int) + b.length < 0) = False := eq_false (by omega)
  have n3 : ((a.length : Int) + b.length + c.length < 0) = False := eq_false (by omega)
  have i1 : IntKind.i64.wrap 1 = 1 := by decide
  have i2 : IntKind.i64.wrap 2 = 2 := by decide
  have i3 : IntKind.i64.wrap 3 = 3 := by decide
  refine L.count 3 (fun i => mkE 36 [(0, .sl 1 [.sl 1 (a.map B), .sl 1 (b.map B), .sl 1 (c.map B)]), (3, I (sumI a b c i)), (9, .sl 1 [.sl 1 (a.map B), .sl 1 (b.map B), .sl 1 (c.map B)]), (10, I 3), (11, I (ixI i))]) (fun _ => σ) ?_ ?_ rfl rfl
  · intro i hi J hJ
    have hcase : i = 0 ∨ i = 1 ∨ i = 2 := by omega
    rcases hcase with rfl | rfl | rfl
    · simp -implicitDefEqProofs only [mkE, List.foldl_cons, List.foldl_nil, go_sem, List.reduceReplicate, Nat.reduceAdd, Nat.reduceSub, Nat.reduceLT, Nat.reduceLeDiff, Nat.reduceMul, Nat.reduceEqDiff, reduceCtorEq, Int.reduceLE, Int.reduceLT, Int.reduceEq, Int.reduceNe, Int.reduceBEq, Int.reduceBNe, Int.reduceAdd, Int.reduceSub, getc, setc, lenc, getc2, setc2, lenc2, Int.toNat_natCast, Int.reduceToNat, sumI, ixI, List.length_map, w1, n1, i1]
      exact hJ
    · simp -implicitDefEqProofs only [mkE, List.foldl_cons, List.foldl_nil, go_sem, List.reduceReplicate, Nat.reduceAdd, Nat.reduceSub, Nat.reduceLT, Nat.reduceLeDiff, Nat.reduceMul, Nat.reduceEqDiff, reduceCtorEq, Int.reduceLE, Int.reduceLT, Int.reduceEq, Int.reduceNe, Int.reduceBEq, Int.reduceBNe, Int.reduceAdd, Int.reduceSub, getc, setc, lenc, getc2, setc2, lenc2, Int.toNat_natCast, Int.reduceToNat, sumI, ixI, List.length_map, w2, n2, i2]
      exact hJ
    · simp -implicitDefEqProofs only [mkE, List.foldl_cons, List.foldl_nil, go_sem, List.reduceReplicate, Nat.reduceAdd, Nat.reduceSub, Nat.reduceLT, Nat.reduceLeDiff, Nat.reduceMul, Nat.reduceEqDiff, reduceCtorEq, Int.reduceLE, Int.reduceLT, Int.reduceEq, Int.reduceNe, Int.reduceBEq, Int.reduceBNe, Int.reduceAdd, Int.reduceSub, getc, setc, lenc, getc2, setc2, lenc2, Int.toNat_natCast, Int.reduceToNat, sumI, ixI, List.length_map, w3, n3, i3]
      exact hJ
  · intro J
    simp -implicitDefEqProofs only [mkE, List.foldl_cons, List.foldl_nil, go_sem, List.reduceReplicate, Nat.reduceAdd, Nat.reduceSub, Nat.reduceLT, Nat.reduceLeDiff, Nat.reduceMul, Nat.reduceEqDiff, reduceCtorEq, Int.reduceLE, Int.reduceLT, Int.reduceEq, Int.reduceNe, Int.reduceBEq, Int.reduceBNe, Int.reduceAdd, Int.reduceSub, getc, setc, lenc, getc2, setc2, lenc2, Int.toNat_natCast, Int.reduceToNat, sumI, ixI]
    refine CO.intro (grow_ans σ _ (by omega) (by omega)) ?_
    simp -implicitDefEqProofs only [go_sem, List.reduceReplicate, Nat.reduceAdd, Nat.reduceSub, Nat.reduceLT, Nat.reduceLeDiff, Nat.reduceMul, Nat.reduceEqDiff, reduceCtorEq, Int.reduceLE, Int.reduceLT, Int.reduceEq, Int.reduceNe, Int.reduceBEq, Int.reduceBNe, Int.reduceAdd, Int.reduceSub, getc, setc, lenc, getc2, setc2, lenc2, Int.toNat_natCast, Int.reduceToNat]
    have l1 : (a.length ≤ 4294967296) = True := by simp; omega
    have l2 : (a.length + b.length ≤ 4294967296) = True := by simp; omega
    have l3 : (a.length + b.length + c.length ≤ 4294967296) = True := by simp; omega
    refine L.count 3 (fun i => mkE 36 [(6, .osl (σ.length + 1) (preN a b c i)), (25, .sl 1 [.sl 1 (a.map B), .sl 1 (b.map B), .sl 1 (c.map B)]), (26, I 3), (27, I (ixI i))]) (fun i => σ ++ [.dead] ++ [.row 1 (preL a b c i)]) ?_ ?_ rfl rfl
    · intro i hi J hJ
      have hcase : i = 0 ∨ i = 1 ∨ i = 2 := by omega
      rcases hcase with rfl | rfl | rfl
      · simp -implicitDefEqProofs only [mkE, List.foldl_cons, List.foldl_nil, go_sem, List.reduceReplicate, Nat.reduceAdd, Nat.reduceSub, Nat.reduceLT, Nat.reduceLeDiff, Nat.reduceMul, Nat.reduceEqDiff, reduceCtorEq, Int.reduceLE, Int.reduceLT, Int.reduceEq, Int.reduceNe, Int.reduceBEq, Int.reduceBNe, Int.reduceAdd, Int.reduceSub, getc, setc, lenc, getc2, setc2, lenc2, Int.toNat_natCast, Int.reduceToNat, List.all_map, Function.comp_def, all_tt, eq_self, decide_true, List.length_map, preN, preL, ixI, i1, l1, Nat.reducePow]
        exact hJ
      · simp -implicitDefEqProofs only [mkE, List.foldl_cons, List.foldl_nil, go_sem, List.reduceReplicate, Nat.reduceAdd, Nat.reduceSub, Nat.reduceLT, Nat.reduceLeDiff, Nat.reduceMul, Nat.reduceEqDiff, reduceCtorEq, Int.reduceLE, Int.reduceLT, Int.reduceEq, Int.reduceNe, Int.reduceBEq, Int.reduceBNe, Int.reduceAdd, Int.reduceSub, getc, setc, lenc, getc2, setc2, lenc2, Int.toNat_natCast, Int.reduceToNat, List.all_map, Function.comp_def, all_tt, eq_self, decide_true, List.length_map, preN, preL, ixI, i2, l2, Nat.reducePow]
        exact hJ
      · simp -implicitDefEqProofs only [mkE, List.foldl_cons, List.foldl_nil, go_sem, List.reduceReplicate, Nat.reduceAdd, Nat.reduceSub, Nat.reduceLT, Nat.reduceLeDiff, Nat.reduceMul, Nat.reduceEqDiff, reduceCtorEq, Int.reduceLE, Int.reduceLT, Int.reduceEq, Int.reduceNe, Int.reduceBEq, Int.reduceBNe, Int.reduceAdd, Int.reduceSub, getc, setc, lenc, getc2, setc2, lenc2, Int.toNat_natCast, Int.reduceToNat, List.all_map, Function.comp_def, all_tt, eq_self, decide_true, List.length_map, preN, preL, ixI, i3, l3, Nat.reducePow, List.length_append]
        exact hJ
    · intro J
      simp -implicitDefEqProofs only [mkE, List.foldl_cons, List.foldl_nil, go_sem, List.reduceReplicate, Nat.reduceAdd, Nat.reduceSub, Nat.reduceLT, Nat.reduceLeDiff, Nat.reduceMul, Nat.reduceEqDiff, reduceCtorEq, Int.reduceLE, Int.reduceLT, Int.reduceEq, Int.reduceNe, Int.reduceBEq, Int.reduceBNe, Int.reduceAdd, Int.reduceSub, getc, setc, lenc, getc2, setc2, lenc2, Int.toNat_natCast, Int.reduceToNat, preN, preL, ixI, List.length_append, List.length_map]
      rw [List.append_assoc σ [Ob.dead] [Ob.dead]]
      refine Fini.trim (ex := [.dead] ++ [.dead]) ?_ rfl ?_ hbo
      · rfl
      · rw [← List.map_append, ← List.map_append]; exact bel_B _ _

theorem link_ans (ps rec : List Int) (hp : ps.length = 32) (hr : rec.length ≤ 300) : Ans Tryz.prog 8 [.agg (ps.map B), .sl 1 (rec.map B)] σ (.sl 1 ((1 :: ps ++ rec).map B)) σ := by
  have h := concat_ans σ [1] ps rec (by simp) (by simp) (by omega) (by omega)
  have e : (List.map B [1] ++ List.map B ps ++ List.map B rec) = (1 :: ps ++ rec).map B := by simp
  rw [e] at h
  have e1 : (ps.map B).length = 32 := by simp [hp]
  have e2 : (ps.map B).take 32 = ps.map B := List.take_of_length_le (by omega)
  refine Ans.of_run t8 ?_
  simp -implicitDefEqProofs only [c8, r8, go_sem, List.reduceReplicate, Nat.reduceAdd, Nat.reduceSub, Nat.reduceLT, Nat.reduceLeDiff, Nat.reduceMul, Nat.reduceEqDiff, reduceCtorEq, Int.reduceLE, Int.reduceLT, Int.reduceEq, Int.reduceNe, Int.reduceBEq, Int.reduceBNe, Int.reduceAdd, Int.reduceSub, getc, setc, lenc, getc2, setc2, lenc2, Int.toNat_natCast, Int.reduceToNat, one_B, e1, e2]
  refine CO.intro h ?_
  simp -implicitDefEqProofs only [go_sem, List.reduceReplicate, Nat.reduceAdd, Nat.reduceSub, Nat.reduceLT, Nat.reduceLeDiff, Nat.reduceMul, Nat.reduceEqDiff, reduceCtorEq, Int.reduceLE, Int.reduceLT, Int.reduceEq, Int.reduceNe, Int.reduceBEq, Int.reduceBNe, Int.reduceAdd, Int.reduceSub, getc, setc, lenc, getc2, setc2, lenc2, Int.toNat_natCast, Int.reduceToNat]
  exact Fini.ret rfl

theorem link_ref (ps rec : List Int) (hp : ps.length = 32) (hr : rec.length ≤ 300) : Ans Tryz.prog 9 [.agg (ps.map B), .sl 1 (rec.map B)] σ (.sl 1 ((1 :: ps ++ rec).map B)) σ := by
  have e1 : (ps.map B).length = 32 := by simp [hp]
  have e2 : (ps.map B).take 32 = ps.map B := List.take_of_length_le (by omega)
  have e3 : (1 + 32 + rec.length ≤ 4294967296) = True := by simp; omega
  have e4 : (33 + rec.length ≤ 4294967296) = True := by simp; omega
  have e5 : (33 + rec.length = 32 + rec.length + 1) = True := by simp; omega
  refine Ans.of_run' t9 fun hbo _ => ?_
  simp -implicitDefEqProofs only [c9, r9, go_sem, List.reduceReplicate, Nat.reduceAdd, Nat.reduceSub, Nat.reduceLT, Nat.reduceLeDiff, Nat.reduceMul, Nat.reduceEqDiff, reduceCtorEq, Int.reduceLE, Int.reduceLT, Int.reduceEq, Int.reduceNe, Int.reduceBEq, Int.reduceBNe, Int.reduceAdd, Int.reduceSub, getc, setc, lenc, getc2, setc2, lenc2, Int.toNat_natCast, Int.reduceToNat, one_B, e1, e2, List.all_map, Function.comp_def, all_tt, eq_self, decide_true, List.length_map, hp, Nat.reducePow, e3, e4, e5, List.length_append]
  refine Fini.trim (ex := [.dead]) ?_ rfl (bel_B _ (1 :: (ps ++ rec))) hbo
  simp [resA, rvA, oneOf, allSome, tmpA]
end
end Go.Proofs.YthlkjemalepnlaaGreatDoor
