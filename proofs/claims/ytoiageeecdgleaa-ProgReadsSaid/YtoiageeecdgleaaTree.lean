/- Trees of patterns: how many nodes they have, whether they are one, how many steps. No condition. -/
import Derived.Test.YtoiageeecdgleaaCode
import Derived.Test.YtoiageeecdgleaaAbSX
set_option linter.unusedSimpArgs false
set_option linter.unusedVariables false
namespace Go.Proofs.Ytoiageeecdgleaa
open Go Go.Ab
set_option maxRecDepth 100000
abbrev I (n : Int) : AV := .pl (.int .i64 n)
abbrev U (n : Int) : AV := .pl (.int .u64 n)
abbrev Bo (b : Bool) : AV := .pl (.bool b)

theorem wrapN {n : Int} (h : -9223372036854775808 ≤ n) (h' : n < 9223372036854775808) : IntKind.i64.wrap n = n := by
  simp only [IntKind.wrap, IntKind.bits, IntKind.signed]; simp; omega

inductive Rex where
  | mk (op a b c d : Int) (ks : List Rex)

namespace Rex
def op : Rex → Int | .mk op _ _ _ _ _ => op
def a : Rex → Int | .mk _ a _ _ _ _ => a
def b : Rex → Int | .mk _ _ b _ _ _ => b
def c : Rex → Int | .mk _ _ _ c _ _ => c
def d : Rex → Int | .mk _ _ _ _ d _ => d
def ks : Rex → List Rex | .mk _ _ _ _ _ ks => ks
mutual
def av : Rex → AV
  | .mk op a b c d ks => .agg [I op, U a, U b, U c, U d, .sl 6 (avL ks)]
def avL : List Rex → List AV
  | [] => []
  | x :: xs => av x :: avL xs
end
theorem avL_eq : ∀ l : List Rex, avL l = l.map av
  | [] => rfl
  | x :: xs => by rw [avL, avL_eq xs]; rfl

theorem av_eq (x : Rex) : x.av = .agg [I x.op, U x.a, U x.b, U x.c, U x.d, .sl 6 (x.ks.map av)] := by
  cases x; simp only [av, op, a, b, c, d, ks, avL_eq]

theorem lt_of_mem {x y : Rex} (h : y ∈ x.ks) : SizeOf.sizeOf y < SizeOf.sizeOf x := by
  cases x
  have := List.sizeOf_lt_of_mem h
  simp only [ks] at this
  simp
  omega

mutual
def nodes : Rex → Nat
  | .mk _ _ _ _ _ ks => 1 + nodesL ks
def nodesL : List Rex → Nat
  | [] => 0
  | x :: xs => nodes x + nodesL xs
end
theorem nodes_eq (x : Rex) : x.nodes = 1 + nodesL x.ks := by cases x; rfl

mutual
def cut : Rex → Int → Int
  | .mk _ _ _ _ _ ks, most => cutL ks most 1
def cutL : List Rex → Int → Int → Int
  | [], _, n => n
  | x :: xs, most, n => if n ≤ most then cutL xs most (n + cut x (most - n)) else n
end
theorem cut_eq (x : Rex) (most : Int) : x.cut most = cutL x.ks most 1 := by cases x; rfl

mutual
theorem cut_le : ∀ (x : Rex) (most : Int), 0 ≤ most → 1 ≤ x.cut most ∧ x.cut most ≤ most + 1
  | .mk _ _ _ _ _ ks, most, h => by
    rw [cut]
    have := cutL_le ks most 1 (by omega) (by omega)
    omega
theorem cutL_le : ∀ (l : List Rex) (most n : Int), 0 ≤ n → n ≤ most + 1 → n ≤ cutL l most n ∧ cutL l most n ≤ most + 1
  | [], most, n, h, h' => by simp only [cutL]; omega
  | x :: xs, most, n, h, h' => by
    simp only [cutL]
    split
    · have h1 := cut_le x (most - n) (by omega)
      have h2 := cutL_le xs most (n + x.cut (most - n)) (by omega) (by omega)
      omega
    · omega
end

mutual
theorem cut_nodes : ∀ (x : Rex) (most : Int), 0 ≤ most → x.cut most ≤ most → (x.nodes : Int) = x.cut most
  | .mk _ _ _ _ _ ks, most, h, h' => by
    rw [cut] at h' ⊢
    have := cutL_nodes ks most 1 (by omega) (by omega) h'
    rw [nodes]; omega
theorem cutL_nodes : ∀ (l : List Rex) (most n : Int), 0 ≤ n → n ≤ most + 1 → cutL l most n ≤ most → (nodesL l : Int) + n = cutL l most n
  | [], most, n, h, hn, h' => by simp only [cutL, nodesL]; omega
  | x :: xs, most, n, h, hn, h' => by
    simp only [cutL] at h' ⊢
    split at h'
    · rename_i hle
      rw [if_pos hle]
      have h1 := cut_le x (most - n) (by omega)
      have h2 := cutL_le xs most (n + x.cut (most - n)) (by omega) (by omega)
      have h3 := cut_nodes x (most - n) (by omega) (by omega)
      have h4 := cutL_nodes xs most (n + x.cut (most - n)) (by omega) (by omega) h'
      rw [nodesL]; omega
    · omega
end

/-- How many nodes have been met ahead of kid i. -/
def run (ks : List Rex) (most : Int) : Nat → Int
  | 0 => 1
  | i + 1 => match ks[i]? with
    | some x => run ks most i + x.cut (most - run ks most i)
    | none => run ks most i

theorem run_le (ks : List Rex) (most : Int) (hm : 0 ≤ most) : ∀ i, i ≤ ks.length → (∀ j, j < i → run ks most j ≤ most) → (i : Int) + 1 ≤ run ks most i ∧ run ks most i ≤ most + 1
  | 0, _, _ => by simp only [run]; omega
  | i + 1, hi, h => by
    have h1 := run_le ks most hm i (by omega) (fun j hj => h j (by omega))
    have h2 := h i (by omega)
    have e : ks[i]? = some (ks[i]'(by omega)) := List.getElem?_eq_getElem _
    simp only [run, e]
    have h3 := cut_le (ks[i]'(by omega)) (most - run ks most i) (by omega)
    omega

theorem run_cut (ks : List Rex) (most : Int) : ∀ i, i ≤ ks.length → (∀ j, j < i → run ks most j ≤ most) → cutL ks most 1 = cutL (ks.drop i) most (run ks most i)
  | 0, _, _ => by simp [run]
  | i + 1, hi, h => by
    rw [run_cut ks most i (by omega) (fun j hj => h j (by omega))]
    have e : ks[i]? = some (ks[i]'(by omega)) := List.getElem?_eq_getElem _
    rw [List.drop_eq_getElem_cons (show i < ks.length by omega)]
    simp only [cutL, run, e]
    rw [if_pos (h i (by omega))]
end Rex
open Rex

section
variable (σ : St)

theorem nodes_ans (x : Rex) (most : Int) (h0 : 0 ≤ most) (h1 : most ≤ 1000) : Ans Try.prog 12 [x.av, I most] σ (I (x.cut most)) σ := by
  rw [av_eq]
  refine Ans.of_run t12 ?_
  simp -implicitDefEqProofs only [c12, r12, go_sem, List.reduceReplicate, Nat.reduceAdd, Nat.reduceSub, Nat.reduceLT, Nat.reduceLeDiff, Nat.reduceMul, Nat.reduceEqDiff, reduceCtorEq, Int.reduceLE, Int.reduceLT, Int.reduceEq, Int.reduceNe, Int.reduceBEq, Int.reduceBNe, Int.reduceAdd, Int.reduceSub]
  have hget : ∀ i (hi : i < x.ks.length), (x.ks.map av)[i]? = some (x.ks[i]).av := fun i hi => by simp [hi]
  refine L.scan x.ks.length (fun i => decide (run x.ks most i ≤ most)) (fun i => mkE 31 [(1, I most), (2, .rp [I x.op, U x.a, U x.b, U x.c, U x.d, .sl 6 (x.ks.map av)]), (5, I (run x.ks most i)), (6, I i)]) (fun _ => σ) ?_ ?_ rfl rfl
  · intro i hi hok J hJ
    have hok' : ∀ j, j < i → run x.ks most j ≤ most := fun j hj => by simpa using hok j hj
    have hb := run_le x.ks most h0 i (by omega) hok'
    have e1 : ((i : Int) < (x.ks.length : Nat)) = True := by simp; omega
    simp -implicitDefEqProofs only [mkE, List.foldl_cons, List.foldl_nil, go_sem, List.reduceReplicate, Nat.reduceAdd, Nat.reduceSub, Nat.reduceLT, Nat.reduceLeDiff, Nat.reduceMul, Nat.reduceEqDiff, reduceCtorEq, Int.reduceLE, Int.reduceLT, Int.reduceEq, Int.reduceNe, Int.reduceBEq, Int.reduceBNe, Int.reduceAdd, Int.reduceSub, List.length_map, e1]
    refine C.split (fun hc => ?_) (fun hc => ?_)
    · have hc' : run x.ks most i ≤ most := by simpa using hc
      have e2 : IntKind.i64.wrap (most - run x.ks most i) = most - run x.ks most i := wrapN (by omega) (by omega)
      simp -implicitDefEqProofs only [go_sem, List.reduceReplicate, Nat.reduceAdd, Nat.reduceSub, Nat.reduceLT, Nat.reduceLeDiff, Nat.reduceMul, Nat.reduceEqDiff, reduceCtorEq, Int.reduceLE, Int.reduceLT, Int.reduceEq, Int.reduceNe, Int.reduceBEq, Int.reduceBNe, Int.reduceAdd, Int.reduceSub, hget i hi, e2]
      rw [av_eq]
      simp -implicitDefEqProofs only [go_sem, List.reduceReplicate, Nat.reduceAdd, Nat.reduceSub, Nat.reduceLT, Nat.reduceLeDiff, Nat.reduceMul, Nat.reduceEqDiff, reduceCtorEq, Int.reduceLE, Int.reduceLT, Int.reduceEq, Int.reduceNe, Int.reduceBEq, Int.reduceBNe, Int.reduceAdd, Int.reduceSub]
      rw [← av_eq]
      refine CO.intro (nodes_ans x.ks[i] (most - run x.ks most i) (by omega) (by omega)) ?_
      have h3 := cut_le x.ks[i] (most - run x.ks most i) (by omega)
      have e3 : IntKind.i64.wrap (run x.ks most i + x.ks[i].cut (most - run x.ks most i)) = run x.ks most (i + 1) := by
        rw [wrapN (by omega) (by omega)]; simp only [run, List.getElem?_eq_getElem hi]
      have e4 : IntKind.i64.wrap ((i : Int) + 1) = ((i + 1 : Nat) : Int) := by rw [wrapN (by omega) (by omega)]; rfl
      simp -implicitDefEqProofs only [go_sem, List.reduceReplicate, Nat.reduceAdd, Nat.reduceSub, Nat.reduceLT, Nat.reduceLeDiff, Nat.reduceMul, Nat.reduceEqDiff, reduceCtorEq, Int.reduceLE, Int.reduceLT, Int.reduceEq, Int.reduceNe, Int.reduceBEq, Int.reduceBNe, Int.reduceAdd, Int.reduceSub, e3, e4]
      exact hJ (by simpa using hc')
    · have hc' : ¬ run x.ks most i ≤ most := by simpa using hc
      simp -implicitDefEqProofs only [go_sem, List.reduceReplicate, Nat.reduceAdd, Nat.reduceSub, Nat.reduceLT, Nat.reduceLeDiff, Nat.reduceMul, Nat.reduceEqDiff, reduceCtorEq, Int.reduceLE, Int.reduceLT, Int.reduceEq, Int.reduceNe, Int.reduceBEq, Int.reduceBNe, Int.reduceAdd, Int.reduceSub]
      refine Fini.ret' rfl (int_congr ?_)
      rw [cut_eq, run_cut x.ks most i (by omega) hok', List.drop_eq_getElem_cons hi, cutL, if_neg hc']
  · intro hok J
    have hok' : ∀ j, j < x.ks.length → run x.ks most j ≤ most := fun j hj => by simpa using hok j hj
    have e1 : (((x.ks.length : Nat) : Int) < (x.ks.length : Nat)) = False := by simp
    simp -implicitDefEqProofs only [mkE, List.foldl_cons, List.foldl_nil, go_sem, List.reduceReplicate, Nat.reduceAdd, Nat.reduceSub, Nat.reduceLT, Nat.reduceLeDiff, Nat.reduceMul, Nat.reduceEqDiff, reduceCtorEq, Int.reduceLE, Int.reduceLT, Int.reduceEq, Int.reduceNe, Int.reduceBEq, Int.reduceBNe, Int.reduceAdd, Int.reduceSub, List.length_map, e1]
    refine Fini.ret' rfl (int_congr ?_)
    rw [cut_eq, run_cut x.ks most _ (Nat.le_refl _) hok', List.drop_length, cutL]
termination_by SizeOf.sizeOf x
decreasing_by exact lt_of_mem (List.getElem_mem _)
end
end Go.Proofs.Ytoiageeecdgleaa
