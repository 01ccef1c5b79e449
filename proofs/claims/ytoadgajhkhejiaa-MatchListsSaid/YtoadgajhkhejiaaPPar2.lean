/- The parser of patterns: sets of bytes. No condition. -/
import Derived.Test.YtoadgajhkhejiaaPPar1
set_option linter.unusedSimpArgs false
set_option linter.unusedVariables false
namespace Go.Proofs.Ytoadgajhkhejiaa
open Go Go.Ab
set_option maxRecDepth 100000
def orU (v w : Int) : Int := IntKind.u64.wrap (BitVec.ofInt IntKind.u64.bits v ||| BitVec.ofInt IntKind.u64.bits w).toNat
def bitU (r : Nat) : Int := IntKind.u64.wrap (1 * 2 ^ (min r IntKind.u64.bits))
def notU (v : Int) : Int := IntKind.u64.wrap (BitVec.ofInt IntKind.u64.bits (if IntKind.u64.signed then -1 else IntKind.u64.max) ^^^ BitVec.ofInt IntKind.u64.bits v).toNat
def setAdd (S : List Int) (c : Nat) : List Int := S.set (c / 64) (orU (S.getD (c / 64) 0) (bitU (c % 64)))
def addR (S : List Int) (f : Nat) : Nat → List Int
  | 0 => S
  | n + 1 => setAdd (addR S f n) (f + n)
theorem setAdd_len (S : List Int) (c : Nat) : (setAdd S c).length = S.length := by simp [setAdd]
theorem addR_len (S : List Int) (f n : Nat) : (addR S f n).length = S.length := by
  induction n with
  | zero => rfl
  | succ n ih => rw [addR, setAdd_len, ih]
theorem gA {σ : St} {p : Nat} (hp : p < σ.length) (o : Ob) (ex : St) : (σ.set p o ++ ex)[p]? = some o := by
  rw [List.getElem?_append_left (by simpa using hp)]; simp [hp]
theorem sA {σ : St} {p : Nat} (hp : p < σ.length) (o o' : Ob) (ex : St) : (σ.set p o ++ ex).set p o' = σ.set p o' ++ ex := by
  rw [List.set_append_left _ _ (by simpa using hp), List.set_set]
theorem gL0 (σ : St) (p : Nat) (o x : Ob) (ex : St) : (σ.set p o ++ x :: ex)[σ.length]? = some x := by
  rw [List.getElem?_append_right (by simp)]; simp
theorem sL0 (σ : St) (p : Nat) (o x y : Ob) (ex : St) : (σ.set p o ++ x :: ex).set σ.length y = σ.set p o ++ y :: ex := by
  rw [List.set_append_right _ _ (by simp)]; simp
theorem gL1 (σ : St) (p : Nat) (o x y : Ob) (ex : St) : (σ.set p o ++ x :: y :: ex)[σ.length + 1]? = some y := by
  rw [List.getElem?_append_right (by simp)]; simp
theorem sL1 (σ : St) (p : Nat) (o x y z : Ob) (ex : St) : (σ.set p o ++ x :: y :: ex).set (σ.length + 1) z = σ.set p o ++ x :: z :: ex := by
  rw [List.set_append_right _ _ (by simp)]; simp
theorem Fini.normal2 {n m : Nat} {rvs : List RV} {r r' : AV} {σ σ' : St} {env : Env} (h : resA env σ rvs = some r') (e : r' = r) (e' : σ = σ') : Fini m rvs r σ' .normal env σ := by
  subst e; subst e'; exact Fini.normal h
section
variable (σ : St)
theorem add_ans (l off : Nat) (cs : List AV) (c : Nat) (v : Int) (h : σ[l]? = some (.box cs)) (hv : cs[off + c / 64]? = some (U v)) (hc : c < 256) :
    Ans Try.prog 148 [.ptr l off, B8 c] σ (.tup []) (σ.set l (.box (cs.set (off + c / 64) (U (orU v (bitU (c % 64))))))) := by
  have hk : off + c / 64 < cs.length := (List.getElem?_eq_some_iff.1 hv).1
  have e1 : IntKind.u8.wrap ((c : Int).tdiv 64) = ((c / 64 : Nat) : Int) := by
    rw [show (c : Int).tdiv 64 = ((c / 64 : Nat) : Int) from rfl]
    simp only [IntKind.wrap, IntKind.bits, IntKind.signed]; simp; omega
  have e2 : (c : Int).tmod 64 = ((c % 64 : Nat) : Int) := rfl
  have e3 : ((64 : Int) = 0) = False := by simp
  have e4 : (((c / 64 : Nat) : Int) < (4 : Nat)) = True := by simp; omega
  have e5 : cs.drop (off + c / 64) = U v :: cs.drop (off + c / 64 + 1) := by
    rw [List.drop_eq_getElem_cons hk]
    have := (List.getElem?_eq_some_iff.1 hv).2
    rw [this]
  have e6 : (off + c / 64 + 1 ≤ cs.length) = True := by simp; omega
  have e7 : (1 ≤ (cs.drop (off + c / 64 + 1)).length + 1) = True := by simp
  refine Ans.of_run t148 ?_
  simp -implicitDefEqProofs only [c148, r148, go_sem, List.reduceReplicate, Nat.reduceAdd, Nat.reduceSub, Nat.reduceLT, Nat.reduceLeDiff, Nat.reduceMul, Nat.reduceEqDiff, reduceCtorEq, Int.reduceLE, Int.reduceLT, Int.reduceEq, Int.reduceNe, Int.reduceBEq, Int.reduceBNe, Int.reduceAdd, Int.reduceSub, e1, e2, e3, e4, Nat.mul_one, h, e5, e6, e7, List.drop_succ_cons]
  have hset : cs.set (off + c / 64) (U (orU v (bitU (c % 64)))) = cs.take (off + c / 64) ++ [U (orU v (bitU (c % 64)))] ++ cs.drop (off + c / 64 + 1) := by
    rw [List.set_eq_take_append_cons_drop, if_pos hk]; simp
  rw [hset]
  exact Fini.normal2 (n := 0) rfl rfl rfl
def turnS (S : List Int) : List Int := S.map notU
theorem turned_ans (a b c d : Int) : Ans Try.prog 147 [.agg [U a, U b, U c, U d]] σ (.agg [U (notU a), U (notU b), U (notU c), U (notU d)]) σ := by
  have k0 : ∀ (x y : Ob), (σ ++ [x, y])[σ.length]? = some x := fun x y => by rw [List.getElem?_append_right (by simp)]; simp
  have k1 : ∀ (x y : Ob), (σ ++ [x, y])[σ.length + 1]? = some y := fun x y => by rw [List.getElem?_append_right (by simp)]; simp
  have s0 : ∀ (x y z : Ob), (σ ++ [x, y]).set σ.length z = σ ++ [z, y] := fun x y z => by rw [List.set_append_right _ _ (by simp)]; simp
  have s1 : ∀ (x y z : Ob), (σ ++ [x, y]).set (σ.length + 1) z = σ ++ [x, z] := fun x y z => by rw [List.set_append_right _ _ (by simp)]; simp
  have q1 : IntKind.i64.wrap (0 + 1) = 1 := by decide
  have q2 : IntKind.i64.wrap (1 + 1) = 2 := by decide
  have q3 : IntKind.i64.wrap (2 + 1) = 3 := by decide
  have q4 : IntKind.i64.wrap (3 + 1) = 4 := by decide
  have q5 : IntKind.i64.wrap 1 = 1 := by decide
  have q6 : IntKind.i64.wrap 2 = 2 := by decide
  have q7 : IntKind.i64.wrap 3 = 3 := by decide
  have q8 : IntKind.i64.wrap 4 = 4 := by decide
  have n1 : Int.toNat 1 = 1 := rfl
  have n2 : Int.toNat 2 = 2 := rfl
  have n3 : Int.toNat 3 = 3 := rfl
  have c4 : ((4 : Nat) : Int) = 4 := rfl
  refine Ans.of_run' t147 (fun hbel _ => ?_)
  simp -implicitDefEqProofs only [c147, r147, go_sem, List.reduceReplicate, Nat.reduceAdd, Nat.reduceSub, Nat.reduceLT, Nat.reduceLeDiff, Nat.reduceMul, Nat.reduceEqDiff, reduceCtorEq, Int.reduceLE, Int.reduceLT, Int.reduceEq, Int.reduceNe, Int.reduceBEq, Int.reduceBNe, Int.reduceAdd, Int.reduceSub, List.append_assoc, List.length_append]
  refine L.count 4 (fun i => mkE 15 [(1, .ptr σ.length 0), (2, .ptr (σ.length + 1) 0), (4, I i)])
    (fun i => σ ++ [.box (match i with | 0 => [U a, U b, U c, U d] | 1 => [U (notU a), U b, U c, U d] | 2 => [U (notU a), U (notU b), U c, U d] | 3 => [U (notU a), U (notU b), U (notU c), U d] | _ => [U (notU a), U (notU b), U (notU c), U (notU d)]), .box [U 0, U 0, U 0, U 0]]) ?_ ?_ rfl rfl
  · intro i hi Q hQ
    match i, hi, hQ with
    | 0, _, hQ =>
      simp -implicitDefEqProofs only [mkE, List.foldl_cons, List.foldl_nil, go_sem, List.reduceReplicate, Nat.reduceAdd, Nat.reduceSub, Nat.reduceLT, Nat.reduceLeDiff, Nat.reduceMul, Nat.reduceEqDiff, reduceCtorEq, Int.reduceLE, Int.reduceLT, Int.reduceEq, Int.reduceNe, Int.reduceBEq, Int.reduceBNe, Int.reduceAdd, Int.reduceSub, k0, k1, s0, s1, q1, q2, q3, q4, q5, q6, q7, q8, n1, n2, n3, c4, Int.toNat_zero, Int.cast_ofNat_Int, Int.natCast_one, Int.natCast_zero]
      exact hQ
    | 1, _, hQ =>
      simp -implicitDefEqProofs only [mkE, List.foldl_cons, List.foldl_nil, go_sem, List.reduceReplicate, Nat.reduceAdd, Nat.reduceSub, Nat.reduceLT, Nat.reduceLeDiff, Nat.reduceMul, Nat.reduceEqDiff, reduceCtorEq, Int.reduceLE, Int.reduceLT, Int.reduceEq, Int.reduceNe, Int.reduceBEq, Int.reduceBNe, Int.reduceAdd, Int.reduceSub, k0, k1, s0, s1, q1, q2, q3, q4, q5, q6, q7, q8, n1, n2, n3, c4, Int.toNat_zero, Int.cast_ofNat_Int, Int.natCast_one, Int.natCast_zero]
      exact hQ
    | 2, _, hQ =>
      simp -implicitDefEqProofs only [mkE, List.foldl_cons, List.foldl_nil, go_sem, List.reduceReplicate, Nat.reduceAdd, Nat.reduceSub, Nat.reduceLT, Nat.reduceLeDiff, Nat.reduceMul, Nat.reduceEqDiff, reduceCtorEq, Int.reduceLE, Int.reduceLT, Int.reduceEq, Int.reduceNe, Int.reduceBEq, Int.reduceBNe, Int.reduceAdd, Int.reduceSub, k0, k1, s0, s1, q1, q2, q3, q4, q5, q6, q7, q8, n1, n2, n3, c4, Int.toNat_zero, Int.cast_ofNat_Int, Int.natCast_one, Int.natCast_zero]
      exact hQ
    | 3, _, hQ =>
      simp -implicitDefEqProofs only [mkE, List.foldl_cons, List.foldl_nil, go_sem, List.reduceReplicate, Nat.reduceAdd, Nat.reduceSub, Nat.reduceLT, Nat.reduceLeDiff, Nat.reduceMul, Nat.reduceEqDiff, reduceCtorEq, Int.reduceLE, Int.reduceLT, Int.reduceEq, Int.reduceNe, Int.reduceBEq, Int.reduceBNe, Int.reduceAdd, Int.reduceSub, k0, k1, s0, s1, q1, q2, q3, q4, q5, q6, q7, q8, n1, n2, n3, c4, Int.toNat_zero, Int.cast_ofNat_Int, Int.natCast_one, Int.natCast_zero]
      exact hQ
  · intro Q
    simp -implicitDefEqProofs only [mkE, List.foldl_cons, List.foldl_nil, go_sem, List.reduceReplicate, Nat.reduceAdd, Nat.reduceSub, Nat.reduceLT, Nat.reduceLeDiff, Nat.reduceMul, Nat.reduceEqDiff, reduceCtorEq, Int.reduceLE, Int.reduceLT, Int.reduceEq, Int.reduceNe, Int.reduceBEq, Int.reduceBNe, Int.reduceAdd, Int.reduceSub, k0, k1, s0, s1, c4, Int.cast_ofNat_Int]
    refine Fini.trim2 (σ' := σ) (ex := [.box [U (notU a), U (notU b), U (notU c), U (notU d)], .box [U (notU a), U (notU b), U (notU c), U (notU d)]]) ?_ rfl (Nat.le_refl _) ?_ hbel
    · simp -implicitDefEqProofs only [go_sem, List.reduceReplicate, Nat.reduceAdd, Nat.reduceSub, Nat.reduceLT, Nat.reduceLeDiff, Nat.reduceMul, Nat.reduceEqDiff, reduceCtorEq, Int.reduceLE, Int.reduceLT, Int.reduceEq, Int.reduceNe, Int.reduceBEq, Int.reduceBNe, Int.reduceAdd, Int.reduceSub, resA, allSome, rvA, oneOf, k1]
    · refine .agg _ fun i hi => ?_
      have : ∀ y ∈ [U (notU a), U (notU b), U (notU c), U (notU d)], Bel σ.length y := by
        intro y hy
        simp only [List.mem_cons, List.not_mem_nil, or_false] at hy
        rcases hy with rfl | rfl | rfl | rfl <;> exact .pl _
      exact this _ (List.getElem_mem hi)
end
end Go.Proofs.Ytoadgajhkhejiaa
