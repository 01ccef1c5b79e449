/- Any lists of matchers: how two are compared. No condition. -/
import Derived.Test.YtoadgajhkhejiaaCmp
import Derived.Laws.Strings
import Derived.Test.YtoadgajhkhejiaaPPar5
import Derived.Test.YtoadgajhkhejiaaProg
import Derived.Test.YtoadgajhkhejiaaAbFast
set_option linter.unusedSimpArgs false
set_option linter.unusedVariables false
namespace Go.Proofs.Ytoadgajhkhejiaa
open Go Go.Ab
set_option maxRecDepth 100000
def cmpS (a b : ByteArray) : Int := Extern.BytealgCompare.cmp a b
def cmpI (a b : Int) : Int := if a < b then -1 else if b < a then 1 else 0
def or3 (a b c : Int) : Int := if a != 0 then a else if b != 0 then b else c
def cmp3 (x y : Mtr) : Int := or3 (cmpS x.2.1 y.2.1) (cmpI x.1 y.1) (cmpS x.2.2 y.2.2)
section
variable (σ : St)
theorem strcmp_ans (a b : ByteArray) : Ans Try.prog 102 [Sx a, Sx b] σ (I (cmpS a b)) σ := by
  have h139 : Ans Try.prog 139 [Sx a, Sx b] σ (I (cmpS a b)) σ := cmp_ok _ _ _ _ rfl
  have h123 : Ans Try.prog 123 [Sx a, Sx b] σ (I (cmpS a b)) σ := by
    refine Ans.of_run t123 ?_
    simp -implicitDefEqProofs only [c123, r123, go_sem, List.reduceReplicate, Nat.reduceAdd, Nat.reduceSub, Nat.reduceLT, Nat.reduceLeDiff, Nat.reduceMul, Nat.reduceEqDiff, reduceCtorEq, Int.reduceLE, Int.reduceLT, Int.reduceEq, Int.reduceNe, Int.reduceBEq, Int.reduceBNe, Int.reduceAdd, Int.reduceSub]
    refine CO.intro h139 ?_
    simp -implicitDefEqProofs only [go_sem, List.reduceReplicate, Nat.reduceAdd, Nat.reduceSub, Nat.reduceLT, Nat.reduceLeDiff, Nat.reduceMul, Nat.reduceEqDiff, reduceCtorEq, Int.reduceLE, Int.reduceLT, Int.reduceEq, Int.reduceNe, Int.reduceBEq, Int.reduceBNe, Int.reduceAdd, Int.reduceSub]
    exact Fini.ret rfl
  refine Ans.of_run t102 ?_
  simp -implicitDefEqProofs only [c102, r102, go_sem, List.reduceReplicate, Nat.reduceAdd, Nat.reduceSub, Nat.reduceLT, Nat.reduceLeDiff, Nat.reduceMul, Nat.reduceEqDiff, reduceCtorEq, Int.reduceLE, Int.reduceLT, Int.reduceEq, Int.reduceNe, Int.reduceBEq, Int.reduceBNe, Int.reduceAdd, Int.reduceSub]
  refine CO.intro h123 ?_
  simp -implicitDefEqProofs only [go_sem, List.reduceReplicate, Nat.reduceAdd, Nat.reduceSub, Nat.reduceLT, Nat.reduceLeDiff, Nat.reduceMul, Nat.reduceEqDiff, reduceCtorEq, Int.reduceLE, Int.reduceLT, Int.reduceEq, Int.reduceNe, Int.reduceBEq, Int.reduceBNe, Int.reduceAdd, Int.reduceSub]
  exact Fini.ret rfl
theorem nan_ans (a : Int) : Ans Try.prog 124 [I a] σ (Bo false) σ := by
  have h : (a != a) = false := by simp
  refine Ans.of_run t124 ?_
  simp -implicitDefEqProofs only [c124, r124, go_sem, List.reduceReplicate, Nat.reduceAdd, Nat.reduceSub, Nat.reduceLT, Nat.reduceLeDiff, Nat.reduceMul, Nat.reduceEqDiff, reduceCtorEq, Int.reduceLE, Int.reduceLT, Int.reduceEq, Int.reduceNe, Int.reduceBEq, Int.reduceBNe, Int.reduceAdd, Int.reduceSub, h]
  exact Fini.ret rfl
theorem intcmp_ans (a b : Int) : Ans Try.prog 103 [I a, I b] σ (I (cmpI a b)) σ := by
  unfold cmpI
  refine Ans.of_run t103 ?_
  simp -implicitDefEqProofs only [c103, r103, go_sem, List.reduceReplicate, Nat.reduceAdd, Nat.reduceSub, Nat.reduceLT, Nat.reduceLeDiff, Nat.reduceMul, Nat.reduceEqDiff, reduceCtorEq, Int.reduceLE, Int.reduceLT, Int.reduceEq, Int.reduceNe, Int.reduceBEq, Int.reduceBNe, Int.reduceAdd, Int.reduceSub]
  refine CO.intro (nan_ans σ a) ?_
  simp -implicitDefEqProofs only [go_sem, List.reduceReplicate, Nat.reduceAdd, Nat.reduceSub, Nat.reduceLT, Nat.reduceLeDiff, Nat.reduceMul, Nat.reduceEqDiff, reduceCtorEq, Int.reduceLE, Int.reduceLT, Int.reduceEq, Int.reduceNe, Int.reduceBEq, Int.reduceBNe, Int.reduceAdd, Int.reduceSub]
  refine CO.intro (nan_ans σ b) ?_
  simp -implicitDefEqProofs only [go_sem, List.reduceReplicate, Nat.reduceAdd, Nat.reduceSub, Nat.reduceLT, Nat.reduceLeDiff, Nat.reduceMul, Nat.reduceEqDiff, reduceCtorEq, Int.reduceLE, Int.reduceLT, Int.reduceEq, Int.reduceNe, Int.reduceBEq, Int.reduceBNe, Int.reduceAdd, Int.reduceSub]
  by_cases h1 : a < b
  · have h1' : decide (a < b) = true := by simpa using h1
    simp -implicitDefEqProofs only [go_sem, List.reduceReplicate, Nat.reduceAdd, Nat.reduceSub, Nat.reduceLT, Nat.reduceLeDiff, Nat.reduceMul, Nat.reduceEqDiff, reduceCtorEq, Int.reduceLE, Int.reduceLT, Int.reduceEq, Int.reduceNe, Int.reduceBEq, Int.reduceBNe, Int.reduceAdd, Int.reduceSub, h1']
    rw [if_pos h1]
    exact Fini.ret rfl
  · have h1' : decide (a < b) = false := by simpa using h1
    simp -implicitDefEqProofs only [go_sem, List.reduceReplicate, Nat.reduceAdd, Nat.reduceSub, Nat.reduceLT, Nat.reduceLeDiff, Nat.reduceMul, Nat.reduceEqDiff, reduceCtorEq, Int.reduceLE, Int.reduceLT, Int.reduceEq, Int.reduceNe, Int.reduceBEq, Int.reduceBNe, Int.reduceAdd, Int.reduceSub, h1']
    rw [if_neg h1]
    by_cases h2 : b < a
    · have h2' : decide (b < a) = true := by simpa using h2
      simp -implicitDefEqProofs only [go_sem, List.reduceReplicate, Nat.reduceAdd, Nat.reduceSub, Nat.reduceLT, Nat.reduceLeDiff, Nat.reduceMul, Nat.reduceEqDiff, reduceCtorEq, Int.reduceLE, Int.reduceLT, Int.reduceEq, Int.reduceNe, Int.reduceBEq, Int.reduceBNe, Int.reduceAdd, Int.reduceSub, h2']
      rw [if_pos h2]
      exact Fini.ret rfl
    · have h2' : decide (b < a) = false := by simpa using h2
      simp -implicitDefEqProofs only [go_sem, List.reduceReplicate, Nat.reduceAdd, Nat.reduceSub, Nat.reduceLT, Nat.reduceLeDiff, Nat.reduceMul, Nat.reduceEqDiff, reduceCtorEq, Int.reduceLE, Int.reduceLT, Int.reduceEq, Int.reduceNe, Int.reduceBEq, Int.reduceBNe, Int.reduceAdd, Int.reduceSub, h2']
      rw [if_neg h2]
      exact Fini.ret rfl
def orF (a b c : Int) : Nat → Int
  | 0 => or3 a b c
  | 1 => if b != 0 then b else c
  | 2 => c
  | _ => 0
theorem or_ans (a b c : Int) : Ans Try.prog 101 [.sl 1 [I a, I b, I c]] σ (I (or3 a b c)) σ := by
  refine Ans.of_run t101 ?_
  simp -implicitDefEqProofs only [c101, r101, go_sem, List.reduceReplicate, Nat.reduceAdd, Nat.reduceSub, Nat.reduceLT, Nat.reduceLeDiff, Nat.reduceMul, Nat.reduceEqDiff, reduceCtorEq, Int.reduceLE, Int.reduceLT, Int.reduceEq, Int.reduceNe, Int.reduceBEq, Int.reduceBNe, Int.reduceAdd, Int.reduceSub]
  generalize hres : or3 a b c = res
  refine Go.Ab.L.intro (α := { i : Nat // i ≤ 3 ∧ orF a b c i = res }) (fun x => 3 - x.1)
    (fun x => mkE 18 [(3, I 0), (6, .sl 1 [I a, I b, I c]), (7, I ((3 : Nat) : Int)), (8, I x.1)]) (fun _ => σ) (fun x J hJ => ?_) ⟨0, Nat.zero_le _, hres⟩ rfl rfl
  obtain ⟨i, hi, hg⟩ := x
  simp only at hJ ⊢
  have i4 : i = 0 ∨ i = 1 ∨ i = 2 ∨ i = 3 := by omega
  have w0 : IntKind.i64.wrap (((0 : Nat) : Int) + 1) = ((1 : Nat) : Int) := by decide
  have w1 : IntKind.i64.wrap (((1 : Nat) : Int) + 1) = ((2 : Nat) : Int) := by decide
  have w2 : IntKind.i64.wrap (((2 : Nat) : Int) + 1) = ((3 : Nat) : Int) := by decide
  rcases i4 with rfl | rfl | rfl | rfl
  · have d1 : decide (((0 : Nat) : Int) < ((3 : Nat) : Int)) = true := by decide
    have d2 : (((0 : Nat) : Int) < ((3 : Nat) : Int)) = True := by simp
    simp only [orF, or3] at hg
    simp -implicitDefEqProofs only [mkE, List.foldl_cons, List.foldl_nil, go_sem, List.reduceReplicate, Nat.reduceAdd, Nat.reduceSub, Nat.reduceLT, Nat.reduceLeDiff, Nat.reduceMul, Nat.reduceEqDiff, reduceCtorEq, Int.reduceLE, Int.reduceLT, Int.reduceEq, Int.reduceNe, Int.reduceBEq, Int.reduceBNe, Int.reduceAdd, Int.reduceSub, d1, d2]
    cases h : a != 0
    · rw [h, if_neg Bool.false_ne_true] at hg
      have hJ' := hJ ⟨1, by omega, hg⟩ (by simp only; omega)
      simp only at hJ'
      simp -implicitDefEqProofs only [go_sem, List.reduceReplicate, Nat.reduceAdd, Nat.reduceSub, Nat.reduceLT, Nat.reduceLeDiff, Nat.reduceMul, Nat.reduceEqDiff, reduceCtorEq, Int.reduceLE, Int.reduceLT, Int.reduceEq, Int.reduceNe, Int.reduceBEq, Int.reduceBNe, Int.reduceAdd, Int.reduceSub, w0]
      exact hJ'
    · rw [h, if_pos rfl] at hg
      simp -implicitDefEqProofs only [go_sem, List.reduceReplicate, Nat.reduceAdd, Nat.reduceSub, Nat.reduceLT, Nat.reduceLeDiff, Nat.reduceMul, Nat.reduceEqDiff, reduceCtorEq, Int.reduceLE, Int.reduceLT, Int.reduceEq, Int.reduceNe, Int.reduceBEq, Int.reduceBNe, Int.reduceAdd, Int.reduceSub]
      rw [← hg]
      exact Fini.ret rfl
  · have d1 : decide (((1 : Nat) : Int) < ((3 : Nat) : Int)) = true := by decide
    have d2 : (((1 : Nat) : Int) < ((3 : Nat) : Int)) = True := by simp
    simp only [orF] at hg
    simp -implicitDefEqProofs only [mkE, List.foldl_cons, List.foldl_nil, go_sem, List.reduceReplicate, Nat.reduceAdd, Nat.reduceSub, Nat.reduceLT, Nat.reduceLeDiff, Nat.reduceMul, Nat.reduceEqDiff, reduceCtorEq, Int.reduceLE, Int.reduceLT, Int.reduceEq, Int.reduceNe, Int.reduceBEq, Int.reduceBNe, Int.reduceAdd, Int.reduceSub, d1, d2]
    cases h : b != 0
    · rw [h, if_neg Bool.false_ne_true] at hg
      have hJ' := hJ ⟨2, by omega, hg⟩ (by simp only; omega)
      simp only at hJ'
      simp -implicitDefEqProofs only [go_sem, List.reduceReplicate, Nat.reduceAdd, Nat.reduceSub, Nat.reduceLT, Nat.reduceLeDiff, Nat.reduceMul, Nat.reduceEqDiff, reduceCtorEq, Int.reduceLE, Int.reduceLT, Int.reduceEq, Int.reduceNe, Int.reduceBEq, Int.reduceBNe, Int.reduceAdd, Int.reduceSub, w1]
      exact hJ'
    · rw [h, if_pos rfl] at hg
      simp -implicitDefEqProofs only [go_sem, List.reduceReplicate, Nat.reduceAdd, Nat.reduceSub, Nat.reduceLT, Nat.reduceLeDiff, Nat.reduceMul, Nat.reduceEqDiff, reduceCtorEq, Int.reduceLE, Int.reduceLT, Int.reduceEq, Int.reduceNe, Int.reduceBEq, Int.reduceBNe, Int.reduceAdd, Int.reduceSub]
      rw [← hg]
      exact Fini.ret rfl
  · have d1 : decide (((2 : Nat) : Int) < ((3 : Nat) : Int)) = true := by decide
    have d2 : (((2 : Nat) : Int) < ((3 : Nat) : Int)) = True := by simp
    simp only [orF] at hg
    simp -implicitDefEqProofs only [mkE, List.foldl_cons, List.foldl_nil, go_sem, List.reduceReplicate, Nat.reduceAdd, Nat.reduceSub, Nat.reduceLT, Nat.reduceLeDiff, Nat.reduceMul, Nat.reduceEqDiff, reduceCtorEq, Int.reduceLE, Int.reduceLT, Int.reduceEq, Int.reduceNe, Int.reduceBEq, Int.reduceBNe, Int.reduceAdd, Int.reduceSub, d1, d2]
    cases h : c != 0
    · have hc : c = 0 := by simpa using h
      have hJ' := hJ ⟨3, by omega, by rw [← hg, hc]; rfl⟩ (by simp only; omega)
      simp only at hJ'
      simp -implicitDefEqProofs only [go_sem, List.reduceReplicate, Nat.reduceAdd, Nat.reduceSub, Nat.reduceLT, Nat.reduceLeDiff, Nat.reduceMul, Nat.reduceEqDiff, reduceCtorEq, Int.reduceLE, Int.reduceLT, Int.reduceEq, Int.reduceNe, Int.reduceBEq, Int.reduceBNe, Int.reduceAdd, Int.reduceSub, w2]
      exact hJ'
    · simp -implicitDefEqProofs only [go_sem, List.reduceReplicate, Nat.reduceAdd, Nat.reduceSub, Nat.reduceLT, Nat.reduceLeDiff, Nat.reduceMul, Nat.reduceEqDiff, reduceCtorEq, Int.reduceLE, Int.reduceLT, Int.reduceEq, Int.reduceNe, Int.reduceBEq, Int.reduceBNe, Int.reduceAdd, Int.reduceSub]
      rw [← hg]
      exact Fini.ret rfl
  · have d1 : decide (((3 : Nat) : Int) < ((3 : Nat) : Int)) = false := by decide
    have d2 : (((3 : Nat) : Int) < ((3 : Nat) : Int)) = False := by simp
    simp only [orF] at hg
    simp -implicitDefEqProofs only [mkE, List.foldl_cons, List.foldl_nil, go_sem, List.reduceReplicate, Nat.reduceAdd, Nat.reduceSub, Nat.reduceLT, Nat.reduceLeDiff, Nat.reduceMul, Nat.reduceEqDiff, reduceCtorEq, Int.reduceLE, Int.reduceLT, Int.reduceEq, Int.reduceNe, Int.reduceBEq, Int.reduceBNe, Int.reduceAdd, Int.reduceSub, d1, d2]
    rw [← hg]
    exact Fini.ret rfl
theorem compare_ans (x y : Mtr) : Ans Try.prog 66 [mv3 x, mv3 y] σ (I (cmp3 x y)) σ := by
  have h1 := fun s => strcmp_ans s x.2.1 y.2.1
  have h2 := fun s => intcmp_ans s x.1 y.1
  have h3 := fun s => strcmp_ans s x.2.2 y.2.2
  have h4 := fun s => or_ans s (cmpS x.2.1 y.2.1) (cmpI x.1 y.1) (cmpS x.2.2 y.2.2)
  unfold cmp3
  refine Ans.of_run t66 ?_
  simp -implicitDefEqProofs only [c66, r66, go_sem, List.reduceReplicate, Nat.reduceAdd, Nat.reduceSub, Nat.reduceLT, Nat.reduceLeDiff, Nat.reduceMul, Nat.reduceEqDiff, reduceCtorEq, Int.reduceLE, Int.reduceLT, Int.reduceEq, Int.reduceNe, Int.reduceBEq, Int.reduceBNe, Int.reduceAdd, Int.reduceSub, D_callS, mv3]
  first | refine CD.intro (h1 _) ?_ | refine CS.intro h1 ?_
  simp -implicitDefEqProofs only [go_sem, List.reduceReplicate, Nat.reduceAdd, Nat.reduceSub, Nat.reduceLT, Nat.reduceLeDiff, Nat.reduceMul, Nat.reduceEqDiff, reduceCtorEq, Int.reduceLE, Int.reduceLT, Int.reduceEq, Int.reduceNe, Int.reduceBEq, Int.reduceBNe, Int.reduceAdd, Int.reduceSub, D_callS]
  first | refine CD.intro (h2 _) ?_ | refine CS.intro h2 ?_
  simp -implicitDefEqProofs only [go_sem, List.reduceReplicate, Nat.reduceAdd, Nat.reduceSub, Nat.reduceLT, Nat.reduceLeDiff, Nat.reduceMul, Nat.reduceEqDiff, reduceCtorEq, Int.reduceLE, Int.reduceLT, Int.reduceEq, Int.reduceNe, Int.reduceBEq, Int.reduceBNe, Int.reduceAdd, Int.reduceSub, D_callS]
  first | refine CD.intro (h3 _) ?_ | refine CS.intro h3 ?_
  simp -implicitDefEqProofs only [go_sem, List.reduceReplicate, Nat.reduceAdd, Nat.reduceSub, Nat.reduceLT, Nat.reduceLeDiff, Nat.reduceMul, Nat.reduceEqDiff, reduceCtorEq, Int.reduceLE, Int.reduceLT, Int.reduceEq, Int.reduceNe, Int.reduceBEq, Int.reduceBNe, Int.reduceAdd, Int.reduceSub, D_callS]
  first | refine CD.intro (h4 _) ?_ | refine CS.intro h4 ?_
  simp -implicitDefEqProofs only [go_sem, List.reduceReplicate, Nat.reduceAdd, Nat.reduceSub, Nat.reduceLT, Nat.reduceLeDiff, Nat.reduceMul, Nat.reduceEqDiff, reduceCtorEq, Int.reduceLE, Int.reduceLT, Int.reduceEq, Int.reduceNe, Int.reduceBEq, Int.reduceBNe, Int.reduceAdd, Int.reduceSub]
  exact Fini.ret rfl
end
theorem cmpS_eq (a b : ByteArray) : cmpS a b = (if a.toList == b.toList then 0 else if Op.bytesLess a.toList b.toList then -1 else 1) := by
  rw [cmpS, cmp_data, cmpL_less, ByteArray.toList_eq, ByteArray.toList_eq]
def aheadD (x y : Mtr) : Bool :=
  if !(x.2.1.toList == y.2.1.toList) then Op.bytesLess x.2.1.toList y.2.1.toList
  else if !(x.1 == y.1) then decide (x.1 < y.1)
  else Op.bytesLess x.2.2.toList y.2.2.toList
theorem less_irrefl : ∀ x : List UInt8, Op.bytesLess x x = false
  | [] => rfl
  | a :: x => by rw [Op.bytesLess, less_irrefl x]; simp
theorem cmp3_aheadD (x y : Mtr) : decide (0 ≤ cmp3 x y) = !aheadD x y := by
  unfold cmp3 or3 aheadD
  rw [cmpS_eq, cmpS_eq]
  cases h1 : (x.2.1.toList == y.2.1.toList) with
  | false =>
    cases h2 : Op.bytesLess x.2.1.toList y.2.1.toList <;> simp
  | true =>
    simp only [Bool.not_true, Bool.false_eq_true, if_false, if_true]
    unfold cmpI
    by_cases h3 : x.1 < y.1
    · have : (x.1 == y.1) = false := by simp; omega
      simp [h3, this]
    · by_cases h4 : y.1 < x.1
      · have : (x.1 == y.1) = false := by simp; omega
        simp [h3, h4, this]
      · have h5 : (x.1 == y.1) = true := by simp; omega
        simp only [h3, h4, h5, if_false, Bool.not_true, Bool.false_eq_true]
        cases h6 : (x.2.2.toList == y.2.2.toList) with
        | true =>
          have : x.2.2.toList = y.2.2.toList := by simpa using h6
          rw [this, less_irrefl]; rfl
        | false => cases h7 : Op.bytesLess x.2.2.toList y.2.2.toList <;> simp
end Go.Proofs.Ytoadgajhkhejiaa
namespace Go.Proofs.Ytoadgajhkhejiaa
open Go Go.Ab
set_option maxRecDepth 100000
def epsTo (ys : List Stp) (p q : Nat) : Prop := ∃ s, ys[p]? = some s ∧ ((s.op = 2 ∧ (q = s.x.toNat ∨ q = s.y.toNat)) ∨ (s.op = 3 ∧ q = s.x.toNat))
inductive Eps (ys : List Stp) : Nat → Nat → Prop where
  | refl (p : Nat) : Eps ys p p
  | step {p q r : Nat} : epsTo ys p q → Eps ys q r → Eps ys p r
theorem stpAt_of {ys : List Stp} {p : Nat} {s : Stp} (h : ys[p]? = some s) : stpAt ys p = s := by
  rw [stpAt, List.getD_eq_getElem?_getD, h]; rfl
end Go.Proofs.Ytoadgajhkhejiaa
namespace Go.Proofs.Ytoadgajhkhejiaa
open Go Go.Ab
set_option maxRecDepth 100000
theorem Eps.snoc {ys : List Stp} {p q r : Nat} (h : Eps ys p q) (h' : epsTo ys q r) : Eps ys p r := by
  induction h with
  | refl p => exact .step h' (.refl _)
  | step h1 _ ih => exact .step h1 (ih h')
section
variable {ys : List Stp} (hc : pcheck ys = true)
include hc
end
inductive Reach (ys : List Stp) (s : ByteArray) : Nat → Nat → Prop where
  | zero : Reach ys s 0 0
  | eps {p q i : Nat} : Reach ys s p i → epsTo ys p q → Reach ys s q i
  | byte {p i : Nat} : Reach ys s p i → p < ys.length → i < s.size → takesS (stpAt ys p) (byteAt s i) = true → Reach ys s (p + 1) (i + 1)
theorem Reach.last {ys : List Stp} {s : ByteArray} {q i : Nat} (h : Reach ys s q i) : (i = 0 ∧ Eps ys 0 q) ∨ ∃ j p, i = j + 1 ∧ j < s.size ∧ p < ys.length ∧ Reach ys s p j ∧ takesS (stpAt ys p) (byteAt s j) = true ∧ Eps ys (p + 1) q := by
  induction h with
  | zero => exact .inl ⟨rfl, .refl _⟩
  | eps _ h1 ih =>
    rcases ih with ⟨h, h'⟩ | ⟨j, p, h⟩
    · exact .inl ⟨h, h'.snoc h1⟩
    · exact .inr ⟨j, p, h.1, h.2.1, h.2.2.1, h.2.2.2.1, h.2.2.2.2.1, h.2.2.2.2.2.snoc h1⟩
  | byte h hp hi ht _ => exact .inr ⟨_, _, rfl, hi, hp, h, ht, .refl _⟩
end Go.Proofs.Ytoadgajhkhejiaa
namespace Go.Proofs.Ytoadgajhkhejiaa
open Go Go.Ab
set_option maxRecDepth 100000
inductive Star (R : Nat → Nat → Prop) : Nat → Nat → Prop where
  | refl (i : Nat) : Star R i i
  | step {i m j : Nat} : R i m → Star R m j → Star R i j
section
variable (s : ByteArray)
mutual
def Mt : Rex → Nat → Nat → Prop
  | .mk op a b c d ks => fun i j =>
    if op == 1 then i < s.size ∧ j = i + 1 ∧ takesS ⟨1, a, b, c, d, 0, 0⟩ (byteAt s i) = true
    else if op == 2 then MtL ks i j
    else if op == 3 then MtA ks i j
    else if op == 4 then Star (MtH ks) i j
    else if op == 5 then ∃ m, MtH ks i m ∧ Star (MtH ks) m j
    else if op == 6 then i = j ∨ MtH ks i j
    else False
def MtL : List Rex → Nat → Nat → Prop
  | [] => fun i j => i = j
  | x :: xs => fun i j => ∃ m, Mt x i m ∧ MtL xs m j
def MtA : List Rex → Nat → Nat → Prop
  | [] => fun _ _ => False
  | x :: xs => fun i j => Mt x i j ∨ MtA xs i j
def MtH : List Rex → Nat → Nat → Prop
  | [] => fun _ _ => False
  | x :: _ => fun i j => Mt x i j
end
inductive Ed (ys : List Stp) : Nat × Nat → Nat × Nat → Prop where
  | eps {p q i : Nat} : epsTo ys p q → Ed ys (p, i) (q, i)
  | byte {p i : Nat} : p < ys.length → i < s.size → takesS (stpAt ys p) (byteAt s i) = true → Ed ys (p, i) (p + 1, i + 1)
def Run (ys : List Stp) (lo hi : Nat) : Nat → Nat × Nat → Nat × Nat → Prop
  | 0, c, d => c = d ∧ ¬ (lo ≤ c.1 ∧ c.1 < hi)
  | k + 1, c, d => (lo ≤ c.1 ∧ c.1 < hi) ∧ ∃ e, Ed s ys c e ∧ Run ys lo hi k e d
def Path (ys : List Stp) : Nat → Nat × Nat → Nat × Nat → Prop
  | 0, c, d => c = d
  | k + 1, c, d => ∃ e, Ed s ys c e ∧ Path ys k e d
variable {s} {ys : List Stp}
theorem Run.split {lo hi lo' hi' : Nat} (h1 : lo ≤ lo') (h2 : hi' ≤ hi) : ∀ (k : Nat) (c d : Nat × Nat), Run s ys lo hi k c d → ∃ k1 k2 m, k1 + k2 = k ∧ Run s ys lo' hi' k1 c m ∧ Run s ys lo hi k2 m d
  | 0, c, d, h => ⟨0, 0, c, rfl, ⟨rfl, fun hc => h.2 ⟨by omega, by omega⟩⟩, h⟩
  | k + 1, c, d, h => by
    by_cases hc : lo' ≤ c.1 ∧ c.1 < hi'
    · obtain ⟨_, e, he, hr⟩ := h
      obtain ⟨k1, k2, m, hk, h3, h4⟩ := Run.split h1 h2 k e d hr
      exact ⟨k1 + 1, k2, m, by omega, ⟨hc, e, he, h3⟩, h4⟩
    · exact ⟨0, k + 1, c, by omega, ⟨rfl, hc⟩, h⟩
theorem Path.run {lo hi : Nat} : ∀ (k : Nat) (c d : Nat × Nat), Path s ys k c d → ¬ (lo ≤ d.1 ∧ d.1 < hi) → ∃ k1 k2 m, Run s ys lo hi k1 c m ∧ Path s ys k2 m d
  | 0, c, d, h, hd => ⟨0, 0, c, ⟨rfl, by rw [show c = d from h]; exact hd⟩, h⟩
  | k + 1, c, d, h, hd => by
    by_cases hc : lo ≤ c.1 ∧ c.1 < hi
    · obtain ⟨e, he, hr⟩ := h
      obtain ⟨k1, k2, m, h3, h4⟩ := Path.run k e d hr hd
      exact ⟨k1 + 1, k2, m, ⟨hc, e, he, h3⟩, h4⟩
    · exact ⟨0, k + 1, c, ⟨rfl, hc⟩, h⟩
theorem Path.snoc : ∀ (k : Nat) (c d e : Nat × Nat), Path s ys k c d → Ed s ys d e → Path s ys (k + 1) c e
  | 0, c, d, e, h, he => by rw [show c = d from h]; exact ⟨e, he, rfl⟩
  | k + 1, c, d, e, h, he => by
    obtain ⟨f, hf, hr⟩ := h
    exact ⟨f, hf, Path.snoc k f d e hr he⟩
theorem Run.out {lo hi k : Nat} {c d : Nat × Nat} (h : Run s ys lo hi k c d) (hc : ¬ (lo ≤ c.1 ∧ c.1 < hi)) : k = 0 ∧ c = d := by
  cases k with
  | zero => exact ⟨rfl, h.1⟩
  | succ k => exact absurd h.1 hc
theorem Run.move {lo hi k : Nat} {c d : Nat × Nat} (h : Run s ys lo hi k c d) (hc : lo ≤ c.1 ∧ c.1 < hi) : ∃ k' e, k = k' + 1 ∧ Ed s ys c e ∧ Run s ys lo hi k' e d := by
  cases k with
  | zero => exact absurd hc h.2
  | succ k => obtain ⟨_, e, h1, h2⟩ := h; exact ⟨k, e, rfl, h1, h2⟩
theorem Ed.two {p i : Nat} {e : Nat × Nat} {st : Stp} (h : Ed s ys (p, i) e) (hs : ys[p]? = some st) (ho : st.op = 2) : e = (st.x.toNat, i) ∨ e = (st.y.toNat, i) := by
  cases h with
  | eps h =>
    obtain ⟨s', h1, h2⟩ := h
    rw [hs] at h1; cases h1
    rcases h2 with ⟨_, rfl | rfl⟩ | ⟨h3, _⟩
    · exact .inl rfl
    · exact .inr rfl
    · omega
  | byte h1 h2 h3 =>
    rw [stpAt_of hs] at h3
    simp [takesS, ho] at h3
theorem Ed.one {p i : Nat} {e : Nat × Nat} {st : Stp} (h : Ed s ys (p, i) e) (hs : ys[p]? = some st) (ho : st.op = 1) : e = (p + 1, i + 1) ∧ i < s.size ∧ takesS st (byteAt s i) = true := by
  cases h with
  | eps h =>
    obtain ⟨s', h1, h2⟩ := h
    rw [hs] at h1; cases h1
    rcases h2 with ⟨h3, _⟩ | ⟨h3, _⟩ <;> omega
  | byte h1 h2 h3 =>
    rw [stpAt_of hs] at h3
    exact ⟨rfl, h2, h3⟩
theorem Ed.four {p i : Nat} {e : Nat × Nat} {st : Stp} (h : Ed s ys (p, i) e) (hs : ys[p]? = some st) (ho : st.op = 4) : False := by
  cases h with
  | eps h =>
    obtain ⟨s', h1, h2⟩ := h
    rw [hs] at h1; cases h1
    rcases h2 with ⟨h3, _⟩ | ⟨h3, _⟩ <;> omega
  | byte h1 h2 h3 =>
    rw [stpAt_of hs] at h3
    simp [takesS, ho] at h3
def Frag (ys : List Stp) (n : Nat) (l : List Stp) : Prop := ∀ k, k < l.length → ys[n + k]? = l[k]?
theorem Frag.left {n : Nat} {a b : List Stp} (h : Frag ys n (a ++ b)) : Frag ys n a := fun k hk => by
  rw [h k (by simp; omega), List.getElem?_append_left hk]
theorem Frag.right {n : Nat} {a b : List Stp} (h : Frag ys n (a ++ b)) : Frag ys (n + a.length) b := fun k hk => by
  rw [show n + a.length + k = n + (a.length + k) by omega, h _ (by simp; omega), List.getElem?_append_right (by omega)]
  congr 1; omega
theorem Frag.head {n : Nat} {a : Stp} {b : List Stp} (h : Frag ys n (a :: b)) : ys[n]? = some a := by
  have := h 0 (by simp); simpa using this
theorem Frag.tail {n : Nat} {a : Stp} {b : List Stp} (h : Frag ys n (a :: b)) : Frag ys (n + 1) b := fun k hk => by
  have := h (k + 1) (by simp; omega)
  rw [show n + 1 + k = n + (k + 1) by omega, this]; simp
end
end Go.Proofs.Ytoadgajhkhejiaa
namespace Go.Proofs.Ytoadgajhkhejiaa
open Go Go.Ab Rex
set_option maxRecDepth 100000
def joinB (a b : List Bool) : List Bool := (List.range a.length).map fun i => a.getD i false || b.getD i false
def starL (F : List Bool → List Bool) : Nat → List Bool → List Bool
  | 0, cur => cur
  | m + 1, cur => if joinB cur (F cur) == cur then cur else starL F m (joinB cur (F cur))
def byteB (s : ByteArray) (st : Stp) (S : List Bool) : List Bool := (List.range (s.size + 1)).map fun j => match j with
  | 0 => false
  | i + 1 => S.getD i false && takesS st (byteAt s i)
def noB (s : ByteArray) : List Bool := List.replicate (s.size + 1) false
section
variable (s : ByteArray)
mutual
def daft : Rex → List Bool → List Bool
  | .mk op a b c d ks => fun S =>
    if op == 1 then byteB s ⟨1, a, b, c, d, 0, 0⟩ S
    else if op == 2 then daftL ks S
    else if op == 3 then daftA ks S (noB s)
    else if op == 6 then joinB S (daftH ks S)
    else if op == 5 then starL (daftH ks) (s.size + 1) (daftH ks S)
    else starL (daftH ks) (s.size + 1) S
def daftL : List Rex → List Bool → List Bool
  | [] => fun S => S
  | x :: xs => fun S => daftL xs (daft x S)
def daftA : List Rex → List Bool → List Bool → List Bool
  | [] => fun _ acc => acc
  | x :: xs => fun S acc => daftA xs S (joinB acc (daft x S))
def daftH : List Rex → List Bool → List Bool
  | [] => fun S => S
  | x :: _ => fun S => daft x S
end
end
theorem Star.one {R : Nat → Nat → Prop} {i m j : Nat} (h : R i m) (h' : Star R m j) : Star R i j := .step h h'
end Go.Proofs.Ytoadgajhkhejiaa
namespace Go.Proofs.Ytoadgajhkhejiaa
open Go Go.Ab Rex
set_option maxRecDepth 100000
section
variable {s : ByteArray} {ys : List Stp}
def Comp (s : ByteArray) (ys : List Stp) (x : Rex) : Prop := ∀ n i j, Frag ys n (lay n x) → Mt s x i j → Reach ys s n i → Reach ys s (n + (lay n x).length) j
theorem compL (l : List Rex) : ∀ n i j, (∀ k ∈ l, Comp s ys k) → Frag ys n (layL n l) → MtL s l i j → Reach ys s n i → Reach ys s (n + (layL n l).length) j := by
  induction l with
  | nil => intro n i j _ _ h hr; rw [show i = j from h] at hr; exact hr
  | cons x xs ih =>
    intro n i j hk hf h hr
    rw [layL] at hf ⊢
    obtain ⟨m, h1, h2⟩ := h
    have a1 := hk x List.mem_cons_self n i m hf.left h1 hr
    have a2 := ih _ m j (fun k hk' => hk k (List.mem_cons_of_mem _ hk')) hf.right h2 a1
    rw [List.length_append, ← Nat.add_assoc]
    exact a2
end
end Go.Proofs.Ytoadgajhkhejiaa
namespace Go.Proofs.Ytoadgajhkhejiaa
open Go Go.Ab
set_option maxRecDepth 100000
abbrev bv (S : List Bool) : AV := .sl 1 (S.map Bo)
end Go.Proofs.Ytoadgajhkhejiaa
namespace Go.Proofs.Ytoadgajhkhejiaa
open Go Go.Ab
set_option maxRecDepth 100000
def c3 : ACode :=
 (.seq (.ops [⟨some 2, none, .prim (.boxr (.tmp 0))⟩,
 ⟨some 4, none, .prim (.mov (.const (.bool false)))⟩])
 (.seq (.seq (.ops [⟨some 10, none, .prim (.load 3 true (.tmp 2))⟩,
 ⟨some 11, none, .prim (.bsl false 3 true 1 [.pl (.int .i64 0), .pl (.string .empty), .pl (.string .empty)] [(0, 3, (.tmp 10))])⟩,
 ⟨some 12, none, .prim (.mov (.tmp 1))⟩,
 ⟨some 13, none, .call (.func 13) [(.tmp 11), (.tmp 12)]⟩,
 ⟨some 14, none, .prim (.un .not (.tmp 13))⟩])
 (.cond (.tmp 14)
 (.seq (.ops [⟨some 15, none, .call (.func 14) []⟩,
 ⟨some 4, none, .prim (.mov (.tmp 15))⟩])
 .ret)
 .skip))
 (.seq (.after (.after (.ops [⟨some 5, none, .prim (.mov (.const (.slice none 0 0)))⟩,
 ⟨some 6, none, .prim (.mov (.const (.slice none 0 0)))⟩]) (.own 5 2)) (.own 6 2))
 (.seq (.seq (.ops [⟨some 7, none, .prim (.mov (.const (.int .i64 0)))⟩])
 (.block 0 (.loop [0, 3, 4, 8, 9, 10, 11, 12, 13, 14, 15, 16, 17, 18, 19, 20, 21, 22, 23, 24, 25, 26, 27, 28, 29, 30, 31, 32, 33, 34, 35, 36, 37, 38, 39, 40, 41, 42, 43, 44, 45, 46, 47, 48, 49, 50, 51, 52, 53, 54, 55, 56, 57, 58, 59, 60, 61, 62, 63, 64, 65, 66, 67, 68, 69, 70, 71, 72, 73, 74, 75, 76, 77, 78, 79, 80, 81, 82, 83, 84, 85, 86, 87, 88, 89, 90, 91, 92, 93, 94, 95, 96, 97, 98] (.seq (.seq (.ops [⟨some 16, none, .prim (.mov (.tmp 7))⟩,
 ⟨some 17, none, .prim (.mov (.tmp 1))⟩,
 ⟨some 18, none, .prim (.lenv (.tmp 17))⟩,
 ⟨some 19, none, .prim (.bin false .lss (.tmp 16) (.tmp 18))⟩])
 (.cond (.tmp 19)
 .skip
 (.exit 0)))
 (.seq (.block 1 (.seq (.seq (.ops [⟨some 22, none, .prim (.mov (.tmp 1))⟩,
 ⟨some 23, none, .prim (.mov (.tmp 7))⟩,
 ⟨some 24, none, .prim (.iadrs 2 (.tmp 22) (.tmp 23))⟩,
 ⟨some 25, none, .prim (.fadr 1 (.tmp 24))⟩,
 ⟨some 26, none, .prim (.load 1 false (.tmp 25))⟩,
 ⟨some 27, none, .prim (.lens (.tmp 26))⟩,
 ⟨some 28, none, .prim (.bin false .gtr (.tmp 27) (.const (.int .i64 30)))⟩])
 (.cond (.tmp 28)
 (.seq (.ops [⟨some 29, none, .call (.func 14) []⟩,
 ⟨some 4, none, .prim (.mov (.tmp 29))⟩])
 .ret)
 .skip))
 (.seq (.draw [⟨⟨some 30, none, .prim (.mov (.tmp 1))⟩, [], false, 0, 0⟩,
 ⟨⟨some 31, none, .prim (.mov (.tmp 7))⟩, [], false, 0, 0⟩,
 ⟨⟨some 32, none, .prim (.iadrs 2 (.tmp 30) (.tmp 31))⟩, [0, 1], false, 0, 0⟩,
 ⟨⟨some 33, none, .prim (.fadr 0 (.tmp 32))⟩, [0, 1, 2], false, 0, 0⟩,
 ⟨⟨some 34, none, .prim (.load 1 false (.tmp 33))⟩, [0, 1, 2, 3], false, 0, 0⟩,
 ⟨⟨some 35, none, .prim (.fadr 1 (.tmp 2))⟩, [], false, 0, 0⟩,
 ⟨⟨some 36, none, .prim (.load 1 false (.tmp 35))⟩, [5], false, 0, 0⟩,
 ⟨⟨some 37, none, .prim (.bin false .eql (.tmp 34) (.tmp 36))⟩, [0, 1, 2, 3, 4, 5, 6], false, 0, 0⟩])
 (.cond (.tmp 37)
 (.after (.after (.ops [⟨some 38, none, .prim (.mov (.tmp 6))⟩,
 ⟨some 39, none, .prim (.mov (.tmp 1))⟩,
 ⟨some 40, none, .prim (.mov (.tmp 7))⟩,
 ⟨some 41, none, .prim (.iadrs 2 (.tmp 39) (.tmp 40))⟩,
 ⟨some 42, none, .prim (.load 2 true (.tmp 41))⟩,
 ⟨some 43, none, .prim (.bsl false 2 true 1 [.pl (.string .empty), .pl (.string .empty)] [(0, 2, (.tmp 42))])⟩,
 ⟨some 44, none, .prim (.app 2 (.tmp 38) (.tmp 43))⟩,
 ⟨some 6, none, .prim (.mov (.tmp 44))⟩]) (.clear [38, 43, 44])) (.keep 2))
 (.after (.after (.ops [⟨some 45, none, .prim (.mov (.tmp 5))⟩,
 ⟨some 46, none, .prim (.mov (.tmp 1))⟩,
 ⟨some 47, none, .prim (.mov (.tmp 7))⟩,
 ⟨some 48, none, .prim (.iadrs 2 (.tmp 46) (.tmp 47))⟩,
 ⟨some 49, none, .prim (.load 2 true (.tmp 48))⟩,
 ⟨some 50, none, .prim (.bsl false 2 true 1 [.pl (.string .empty), .pl (.string .empty)] [(0, 2, (.tmp 49))])⟩,
 ⟨some 51, none, .prim (.app 2 (.tmp 45) (.tmp 50))⟩,
 ⟨some 5, none, .prim (.mov (.tmp 51))⟩]) (.clear [45, 50, 51])) (.keep 2))))))
 (.ops [⟨some 20, none, .prim (.mov (.tmp 7))⟩,
 ⟨some 21, none, .prim (.bin false .add (.tmp 20) (.const (.int .i64 1)))⟩,
 ⟨some 7, none, .prim (.mov (.tmp 21))⟩]))))))
 (.seq (.after (.after (.after (.ghost (.shut 5) (.ghost (.shut 6) (.ghost (.keep 0) (.draw [⟨⟨some 52, none, .prim (.mov (.tmp 5))⟩, [], false, 0, 0⟩,
 ⟨⟨some 53, none, .prim (.app 2 (.const (.slice none 0 0)) (.tmp 52))⟩, [0], true, 0, 0⟩,
 ⟨⟨some 54, none, .prim (.fadr 1 (.tmp 2))⟩, [], false, 0, 1⟩,
 ⟨⟨some 55, none, .prim (.load 1 false (.tmp 54))⟩, [2], false, 0, 1⟩,
 ⟨⟨some 56, none, .prim (.build [.pl (.string .empty), .pl (.string .empty)] [(0, 1, (.tmp 55))])⟩, [2, 3], false, 0, 1⟩,
 ⟨⟨some 57, none, .prim (.bsl false 2 true 1 [.pl (.string .empty), .pl (.string .empty)] [(0, 2, (.tmp 56))])⟩, [2, 3, 4], false, 0, 1⟩,
 ⟨⟨some 58, none, .prim (.app 2 (.tmp 53) (.tmp 57))⟩, [0, 1, 2, 3, 4, 5], true, 0, 0⟩,
 ⟨⟨some 8, none, .prim (.mov (.tmp 58))⟩, [0, 1, 2, 3, 4, 5, 6], false, 2, 2⟩])))) (.shut 8)) (.clear [53, 57, 58])) (.keep 0))
 (.seq (.after (.after (.after (.draw [⟨⟨some 59, none, .prim (.mov (.tmp 6))⟩, [], false, 0, 0⟩,
 ⟨⟨some 60, none, .prim (.app 2 (.const (.slice none 0 0)) (.tmp 59))⟩, [0], true, 0, 0⟩,
 ⟨⟨some 61, none, .prim (.fadr 1 (.tmp 2))⟩, [], false, 0, 1⟩,
 ⟨⟨some 62, none, .prim (.load 1 false (.tmp 61))⟩, [2], false, 0, 1⟩,
 ⟨⟨some 63, none, .prim (.build [.pl (.string .empty), .pl (.string .empty)] [(0, 1, (.tmp 62)), (1, 1, (.const (.string (ByteArray.mk #[122, 122]))))])⟩, [2, 3], false, 0, 1⟩,
 ⟨⟨some 64, none, .prim (.bsl false 2 true 1 [.pl (.string .empty), .pl (.string .empty)] [(0, 2, (.tmp 63))])⟩, [2, 3, 4], false, 0, 1⟩,
 ⟨⟨some 65, none, .prim (.app 2 (.tmp 60) (.tmp 64))⟩, [0, 1, 2, 3, 4, 5], true, 0, 0⟩,
 ⟨⟨some 9, none, .prim (.mov (.tmp 65))⟩, [0, 1, 2, 3, 4, 5, 6], false, 2, 2⟩]) (.shut 9)) (.clear [60, 64, 65])) (.keep 0))
 (.seq (.draw [⟨⟨some 66, none, .prim (.load 3 true (.tmp 2))⟩, [], false, 0, 0⟩,
 ⟨⟨some 67, none, .prim (.mov (.tmp 5))⟩, [], false, 0, 0⟩,
 ⟨⟨some 68, none, .call (.func 15) [(.tmp 66), (.tmp 67)]⟩, [0, 1], true, 0, 0⟩,
 ⟨⟨some 69, none, .prim (.load 3 true (.tmp 2))⟩, [], false, 0, 1⟩,
 ⟨⟨some 70, none, .prim (.mov (.tmp 8))⟩, [], false, 0, 1⟩,
 ⟨⟨some 71, none, .call (.func 15) [(.tmp 69), (.tmp 70)]⟩, [0, 1, 2, 3, 4], true, 0, 0⟩,
 ⟨⟨some 72, none, .prim (.bin true .eql (.tmp 68) (.tmp 71))⟩, [0, 1, 2, 3, 4, 5], false, 2, 2⟩,
 ⟨⟨some 73, none, .prim (.mov (.tmp 72))⟩, [0, 1, 2, 3, 4, 5, 6], false, 2, 2⟩,
 ⟨⟨some 74, (some (73, true)), .prim (.load 3 true (.tmp 2))⟩, [0, 1, 2, 3, 4, 5, 6, 7], false, 2, 2⟩,
 ⟨⟨some 75, (some (73, true)), .prim (.mov (.tmp 6))⟩, [0, 1, 2, 3, 4, 5, 6, 7], false, 2, 2⟩,
 ⟨⟨some 76, (some (73, true)), .call (.func 15) [(.tmp 74), (.tmp 75)]⟩, [0, 1, 2, 3, 4, 5, 6, 7, 8, 9], true, 0, 0⟩,
 ⟨⟨some 77, (some (73, true)), .prim (.load 3 true (.tmp 2))⟩, [0, 1, 2, 3, 4, 5, 6, 7], false, 2, 3⟩,
 ⟨⟨some 78, (some (73, true)), .prim (.mov (.tmp 1))⟩, [0, 1, 2, 3, 4, 5, 6, 7], false, 2, 3⟩,
 ⟨⟨some 79, (some (73, true)), .call (.func 15) [(.tmp 77), (.tmp 78)]⟩, [0, 1, 2, 3, 4, 5, 6, 7, 8, 9, 10, 11, 12], true, 0, 0⟩,
 ⟨⟨some 80, (some (73, true)), .prim (.bin true .eql (.tmp 76) (.tmp 79))⟩, [0, 1, 2, 3, 4, 5, 6, 7, 8, 9, 10, 11, 12, 13], false, 4, 4⟩,
 ⟨⟨some 81, none, .prim (.pick (.tmp 73) (.tmp 80) (.const (.bool false)))⟩, [0, 1, 2, 3, 4, 5, 6, 7, 8, 9, 10, 11, 12, 13, 14], false, 4, 4⟩,
 ⟨⟨some 82, none, .prim (.mov (.tmp 81))⟩, [0, 1, 2, 3, 4, 5, 6, 7, 8, 9, 10, 11, 12, 13, 14, 15], false, 4, 4⟩,
 ⟨⟨some 83, (some (82, true)), .prim (.mov (.tmp 6))⟩, [0, 1, 2, 3, 4, 5, 6, 7, 8, 9, 10, 11, 12, 13, 14, 15, 16], false, 4, 4⟩,
 ⟨⟨some 84, (some (82, true)), .prim (.lenv (.tmp 83))⟩, [0, 1, 2, 3, 4, 5, 6, 7, 8, 9, 10, 11, 12, 13, 14, 15, 16, 17], false, 4, 4⟩,
 ⟨⟨some 85, (some (82, true)), .prim (.bin false .eql (.tmp 84) (.const (.int .i64 0)))⟩, [0, 1, 2, 3, 4, 5, 6, 7, 8, 9, 10, 11, 12, 13, 14, 15, 16, 17, 18], false, 4, 4⟩,
 ⟨⟨some 86, (some (82, true)), .prim (.mov (.tmp 85))⟩, [0, 1, 2, 3, 4, 5, 6, 7, 8, 9, 10, 11, 12, 13, 14, 15, 16, 17, 18, 19], false, 4, 4⟩,
 ⟨⟨some 87, (some (86, false)), .prim (.load 3 true (.tmp 2))⟩, [0, 1, 2, 3, 4, 5, 6, 7, 8, 9, 10, 11, 12, 13, 14, 15, 16, 17, 18, 19, 20], false, 4, 4⟩,
 ⟨⟨some 88, (some (86, false)), .prim (.mov (.tmp 9))⟩, [0, 1, 2, 3, 4, 5, 6, 7, 8, 9, 10, 11, 12, 13, 14, 15, 16, 17, 18, 19, 20], false, 4, 4⟩,
 ⟨⟨some 89, (some (86, false)), .call (.func 15) [(.tmp 87), (.tmp 88)]⟩, [0, 1, 2, 3, 4, 5, 6, 7, 8, 9, 10, 11, 12, 13, 14, 15, 16, 17, 18, 19, 20, 21, 22], true, 0, 0⟩,
 ⟨⟨some 90, (some (86, false)), .prim (.load 3 true (.tmp 2))⟩, [0, 1, 2, 3, 4, 5, 6, 7, 8, 9, 10, 11, 12, 13, 14, 15, 16, 17, 18, 19, 20], false, 4, 5⟩,
 ⟨⟨some 91, (some (86, false)), .prim (.mov (.tmp 1))⟩, [0, 1, 2, 3, 4, 5, 6, 7, 8, 9, 10, 11, 12, 13, 14, 15, 16, 17, 18, 19, 20], false, 4, 5⟩,
 ⟨⟨some 92, (some (86, false)), .call (.func 15) [(.tmp 90), (.tmp 91)]⟩, [0, 1, 2, 3, 4, 5, 6, 7, 8, 9, 10, 11, 12, 13, 14, 15, 16, 17, 18, 19, 20, 21, 22, 23, 24, 25], true, 0, 0⟩,
 ⟨⟨some 93, (some (86, false)), .prim (.bin true .eql (.tmp 89) (.tmp 92))⟩, [0, 1, 2, 3, 4, 5, 6, 7, 8, 9, 10, 11, 12, 13, 14, 15, 16, 17, 18, 19, 20, 21, 22, 23, 24, 25, 26], false, 6, 6⟩,
 ⟨⟨some 94, (some (82, true)), .prim (.pick (.tmp 86) (.const (.bool true)) (.tmp 93))⟩, [0, 1, 2, 3, 4, 5, 6, 7, 8, 9, 10, 11, 12, 13, 14, 15, 16, 17, 18, 19, 20, 21, 22, 23, 24, 25, 26, 27], false, 6, 6⟩,
 ⟨⟨some 95, none, .prim (.pick (.tmp 82) (.tmp 94) (.const (.bool false)))⟩, [0, 1, 2, 3, 4, 5, 6, 7, 8, 9, 10, 11, 12, 13, 14, 15, 16, 17, 18, 19, 20, 21, 22, 23, 24, 25, 26, 27, 28], false, 6, 6⟩,
 ⟨⟨some 96, none, .prim (.mov (.tmp 95))⟩, [0, 1, 2, 3, 4, 5, 6, 7, 8, 9, 10, 11, 12, 13, 14, 15, 16, 17, 18, 19, 20, 21, 22, 23, 24, 25, 26, 27, 28, 29], false, 6, 6⟩,
 ⟨⟨some 97, (some (96, true)), .call (.func 14) []⟩, [0, 1, 2, 3, 4, 5, 6, 7, 8, 9, 10, 11, 12, 13, 14, 15, 16, 17, 18, 19, 20, 21, 22, 23, 24, 25, 26, 27, 28, 29, 30], true, 0, 0⟩,
 ⟨⟨some 98, none, .prim (.pick (.tmp 96) (.tmp 97) (.const (.bool false)))⟩, [0, 1, 2, 3, 4, 5, 6, 7, 8, 9, 10, 11, 12, 13, 14, 15, 16, 17, 18, 19, 20, 21, 22, 23, 24, 25, 26, 27, 28, 29, 30, 31], false, 7, 7⟩,
 ⟨⟨some 4, none, .prim (.mov (.tmp 98))⟩, [0, 1, 2, 3, 4, 5, 6, 7, 8, 9, 10, 11, 12, 13, 14, 15, 16, 17, 18, 19, 20, 21, 22, 23, 24, 25, 26, 27, 28, 29, 30, 31, 32], false, 7, 7⟩])
 .ret)))))))
def r3 : List RV := [.tmp 4]
def c4 : ACode :=
 (.seq (.ops [⟨some 2, none, .prim (.boxr (.tmp 0))⟩,
 ⟨some 4, none, .prim (.mov (.const (.bool false)))⟩])
 (.seq (.seq (.ops [⟨some 6, none, .prim (.load 3 true (.tmp 2))⟩,
 ⟨some 7, none, .prim (.bsl false 3 true 1 [.pl (.int .i64 0), .pl (.string .empty), .pl (.string .empty)] [(0, 3, (.tmp 6))])⟩,
 ⟨some 8, none, .prim (.mov (.tmp 1))⟩,
 ⟨some 9, none, .call (.func 13) [(.tmp 7), (.tmp 8)]⟩,
 ⟨some 10, none, .prim (.un .not (.tmp 9))⟩])
 (.cond (.tmp 10)
 (.seq (.ops [⟨some 11, none, .call (.func 14) []⟩,
 ⟨some 4, none, .prim (.mov (.tmp 11))⟩])
 .ret)
 .skip))
 (.seq (.seq (.ops [⟨some 5, none, .prim (.mov (.const (.int .i64 0)))⟩])
 (.block 0 (.loop [0, 3, 4, 6, 7, 8, 9, 10, 11, 12, 13, 14, 15, 16, 17, 18, 19, 20, 21, 22, 23, 24, 25, 26, 27, 28, 29, 30, 31, 32, 33, 34, 35, 36, 37, 38, 39, 40, 41, 42, 43, 44, 45, 46, 47, 48, 49] (.seq (.seq (.ops [⟨some 12, none, .prim (.mov (.tmp 5))⟩,
 ⟨some 13, none, .prim (.mov (.tmp 1))⟩,
 ⟨some 14, none, .prim (.lenv (.tmp 13))⟩,
 ⟨some 15, none, .prim (.bin false .lss (.tmp 12) (.tmp 14))⟩])
 (.cond (.tmp 15)
 .skip
 (.exit 0)))
 (.seq (.block 1 (.seq (.ops [⟨some 18, none, .prim (.mov (.tmp 1))⟩,
 ⟨some 19, none, .prim (.mov (.tmp 5))⟩,
 ⟨some 20, none, .prim (.iadrs 2 (.tmp 18) (.tmp 19))⟩,
 ⟨some 21, none, .prim (.fadr 1 (.tmp 20))⟩,
 ⟨some 22, none, .prim (.load 1 false (.tmp 21))⟩,
 ⟨some 23, none, .prim (.lens (.tmp 22))⟩,
 ⟨some 24, none, .prim (.bin false .gtr (.tmp 23) (.const (.int .i64 30)))⟩])
 (.cond (.tmp 24)
 (.seq (.ops [⟨some 25, none, .call (.func 14) []⟩,
 ⟨some 4, none, .prim (.mov (.tmp 25))⟩])
 .ret)
 .skip)))
 (.ops [⟨some 16, none, .prim (.mov (.tmp 5))⟩,
 ⟨some 17, none, .prim (.bin false .add (.tmp 16) (.const (.int .i64 1)))⟩,
 ⟨some 5, none, .prim (.mov (.tmp 17))⟩]))))))
 (.seq (.draw [⟨⟨some 26, none, .prim (.load 3 true (.tmp 2))⟩, [], false, 0, 0⟩,
 ⟨⟨some 27, none, .call (.func 16) [(.tmp 26)]⟩, [0], true, 0, 0⟩,
 ⟨⟨some 28, none, .prim (.load 3 true (.tmp 2))⟩, [], false, 0, 1⟩,
 ⟨⟨some 29, none, .call (.func 17) [(.tmp 28)]⟩, [0, 1, 2], true, 0, 0⟩,
 ⟨⟨some 30, none, .prim (.bin true .eql (.tmp 27) (.tmp 29))⟩, [0, 1, 2, 3], false, 2, 2⟩,
 ⟨⟨some 31, none, .prim (.mov (.tmp 30))⟩, [0, 1, 2, 3, 4], false, 2, 2⟩,
 ⟨⟨some 32, (some (31, true)), .prim (.load 3 true (.tmp 2))⟩, [0, 1, 2, 3, 4, 5], false, 2, 2⟩,
 ⟨⟨some 33, (some (31, true)), .call (.func 18) [(.tmp 32)]⟩, [0, 1, 2, 3, 4, 5, 6], true, 0, 0⟩,
 ⟨⟨some 34, (some (31, true)), .prim (.load 3 true (.tmp 2))⟩, [0, 1, 2, 3, 4, 5], false, 2, 3⟩,
 ⟨⟨some 35, (some (31, true)), .call (.func 19) [(.tmp 34)]⟩, [0, 1, 2, 3, 4, 5, 6, 7, 8], true, 0, 0⟩,
 ⟨⟨some 36, (some (31, true)), .prim (.bin true .eql (.tmp 33) (.tmp 35))⟩, [0, 1, 2, 3, 4, 5, 6, 7, 8, 9], false, 4, 4⟩,
 ⟨⟨some 37, none, .prim (.pick (.tmp 31) (.tmp 36) (.const (.bool false)))⟩, [0, 1, 2, 3, 4, 5, 6, 7, 8, 9, 10], false, 4, 4⟩,
 ⟨⟨some 38, none, .prim (.mov (.tmp 37))⟩, [0, 1, 2, 3, 4, 5, 6, 7, 8, 9, 10, 11], false, 4, 4⟩,
 ⟨⟨some 39, (some (38, true)), .prim (.load 3 true (.tmp 2))⟩, [0, 1, 2, 3, 4, 5, 6, 7, 8, 9, 10, 11, 12], false, 4, 4⟩,
 ⟨⟨some 40, (some (38, true)), .prim (.mov (.tmp 1))⟩, [0, 1, 2, 3, 4, 5, 6, 7, 8, 9, 10, 11, 12], false, 4, 4⟩,
 ⟨⟨some 41, (some (38, true)), .call (.func 15) [(.tmp 39), (.tmp 40)]⟩, [0, 1, 2, 3, 4, 5, 6, 7, 8, 9, 10, 11, 12, 13, 14], true, 0, 0⟩,
 ⟨⟨some 42, (some (38, true)), .prim (.load 3 true (.tmp 2))⟩, [0, 1, 2, 3, 4, 5, 6, 7, 8, 9, 10, 11, 12], false, 4, 5⟩,
 ⟨⟨some 43, (some (38, true)), .prim (.mov (.tmp 1))⟩, [0, 1, 2, 3, 4, 5, 6, 7, 8, 9, 10, 11, 12], false, 4, 5⟩,
 ⟨⟨some 44, (some (38, true)), .call (.func 20) [(.tmp 42), (.tmp 43)]⟩, [0, 1, 2, 3, 4, 5, 6, 7, 8, 9, 10, 11, 12, 13, 14, 15, 16, 17], true, 0, 0⟩,
 ⟨⟨some 45, (some (38, true)), .prim (.bin true .eql (.tmp 41) (.tmp 44))⟩, [0, 1, 2, 3, 4, 5, 6, 7, 8, 9, 10, 11, 12, 13, 14, 15, 16, 17, 18], false, 6, 6⟩,
 ⟨⟨some 46, none, .prim (.pick (.tmp 38) (.tmp 45) (.const (.bool false)))⟩, [0, 1, 2, 3, 4, 5, 6, 7, 8, 9, 10, 11, 12, 13, 14, 15, 16, 17, 18, 19], false, 6, 6⟩,
 ⟨⟨some 47, none, .prim (.mov (.tmp 46))⟩, [0, 1, 2, 3, 4, 5, 6, 7, 8, 9, 10, 11, 12, 13, 14, 15, 16, 17, 18, 19, 20], false, 6, 6⟩,
 ⟨⟨some 48, (some (47, true)), .call (.func 14) []⟩, [0, 1, 2, 3, 4, 5, 6, 7, 8, 9, 10, 11, 12, 13, 14, 15, 16, 17, 18, 19, 20, 21], true, 0, 0⟩,
 ⟨⟨some 49, none, .prim (.pick (.tmp 47) (.tmp 48) (.const (.bool false)))⟩, [0, 1, 2, 3, 4, 5, 6, 7, 8, 9, 10, 11, 12, 13, 14, 15, 16, 17, 18, 19, 20, 21, 22], false, 7, 7⟩,
 ⟨⟨some 4, none, .prim (.mov (.tmp 49))⟩, [0, 1, 2, 3, 4, 5, 6, 7, 8, 9, 10, 11, 12, 13, 14, 15, 16, 17, 18, 19, 20, 21, 22, 23], false, 7, 7⟩])
 .ret))))
def c11 : ACode :=
 (.seq (.ops [⟨some 4, none, .prim (.mov (.const (.bool false)))⟩])
 (.seq (.seq (.ops [⟨some 11, none, .prim (.mov (.tmp 0))⟩,
 ⟨some 12, none, .call (.func 13) [(.tmp 11), (.const (.slice none 0 0))]⟩,
 ⟨some 13, none, .prim (.un .not (.tmp 12))⟩,
 ⟨some 14, none, .prim (.mov (.tmp 13))⟩,
 ⟨some 15, (some (14, false)), .prim (.mov (.tmp 1))⟩,
 ⟨some 16, (some (14, false)), .prim (.lenv (.tmp 15))⟩,
 ⟨some 17, (some (14, false)), .prim (.bin false .gtr (.tmp 16) (.const (.int .i64 300)))⟩,
 ⟨some 18, none, .prim (.pick (.tmp 14) (.const (.bool true)) (.tmp 17))⟩])
 (.cond (.tmp 18)
 (.seq (.ops [⟨some 19, none, .call (.func 14) []⟩,
 ⟨some 4, none, .prim (.mov (.tmp 19))⟩])
 .ret)
 .skip))
 (.seq (.ops [⟨some 21, none, .prim (.mov (.tmp 1))⟩,
 ⟨some 22, none, .call (.func 41) [(.tmp 21)]⟩,
 ⟨some 20, none, .prim (.mov (.tmp 22))⟩,
 ⟨some 23, none, .prim (.extr 0 (.tmp 20))⟩,
 ⟨some 24, none, .prim (.extr 1 (.tmp 20))⟩,
 ⟨some 25, none, .prim (.extr 2 (.tmp 20))⟩,
 ⟨some 5, none, .prim (.mov (.tmp 23))⟩,
 ⟨some 6, none, .prim (.mov (.tmp 24))⟩,
 ⟨some 7, none, .prim (.mov (.tmp 25))⟩])
 (.seq (.ops [⟨some 27, none, .prim (.mov (.tmp 1))⟩,
 ⟨some 28, none, .call (.func 42) [(.tmp 27)]⟩,
 ⟨some 26, none, .prim (.mov (.tmp 28))⟩,
 ⟨some 29, none, .prim (.extr 0 (.tmp 26))⟩,
 ⟨some 30, none, .prim (.extr 1 (.tmp 26))⟩,
 ⟨some 31, none, .prim (.extr 2 (.tmp 26))⟩,
 ⟨some 8, none, .prim (.mov (.tmp 29))⟩,
 ⟨some 9, none, .prim (.mov (.tmp 30))⟩,
 ⟨some 10, none, .prim (.mov (.tmp 31))⟩])
 (.seq (.draw [⟨⟨some 32, none, .prim (.mov (.tmp 0))⟩, [], false, 0, 0⟩,
 ⟨⟨some 33, none, .call (.func 43) [(.tmp 32)]⟩, [0], true, 0, 0⟩,
 ⟨⟨some 34, none, .prim (.b2s (.tmp 33))⟩, [0, 1], false, 1, 2⟩,
 ⟨⟨some 35, none, .prim (.mov (.tmp 0))⟩, [], false, 0, 1⟩,
 ⟨⟨some 36, none, .call (.func 44) [(.tmp 35)]⟩, [0, 1, 3], true, 0, 0⟩,
 ⟨⟨some 37, none, .prim (.b2s (.tmp 36))⟩, [0, 1, 3, 4], false, 2, 2⟩,
 ⟨⟨some 38, none, .prim (.bin false .eql (.tmp 34) (.tmp 37))⟩, [0, 1, 2, 3, 4, 5], false, 2, 2⟩,
 ⟨⟨some 39, none, .prim (.mov (.tmp 38))⟩, [0, 1, 2, 3, 4, 5, 6], false, 2, 2⟩,
 ⟨⟨some 40, (some (39, true)), .prim (.mov (.tmp 7))⟩, [0, 1, 2, 3, 4, 5, 6, 7], false, 2, 2⟩,
 ⟨⟨some 41, (some (39, true)), .prim (.mov (.tmp 10))⟩, [0, 1, 2, 3, 4, 5, 6, 7], false, 2, 2⟩,
 ⟨⟨some 42, (some (39, true)), .prim (.bin true .eql (.tmp 40) (.tmp 41))⟩, [0, 1, 2, 3, 4, 5, 6, 7, 8, 9], false, 2, 2⟩,
 ⟨⟨some 43, none, .prim (.pick (.tmp 39) (.tmp 42) (.const (.bool false)))⟩, [0, 1, 2, 3, 4, 5, 6, 7, 8, 9, 10], false, 2, 2⟩,
 ⟨⟨some 44, none, .prim (.mov (.tmp 43))⟩, [0, 1, 2, 3, 4, 5, 6, 7, 8, 9, 10, 11], false, 2, 2⟩,
 ⟨⟨some 45, (some (44, true)), .prim (.mov (.tmp 6))⟩, [0, 1, 2, 3, 4, 5, 6, 7, 8, 9, 10, 11, 12], false, 2, 2⟩,
 ⟨⟨some 46, (some (44, true)), .prim (.mov (.tmp 9))⟩, [0, 1, 2, 3, 4, 5, 6, 7, 8, 9, 10, 11, 12], false, 2, 2⟩,
 ⟨⟨some 47, (some (44, true)), .prim (.bin false .eql (.tmp 45) (.tmp 46))⟩, [0, 1, 2, 3, 4, 5, 6, 7, 8, 9, 10, 11, 12, 13, 14], false, 2, 2⟩,
 ⟨⟨some 48, none, .prim (.pick (.tmp 44) (.tmp 47) (.const (.bool false)))⟩, [0, 1, 2, 3, 4, 5, 6, 7, 8, 9, 10, 11, 12, 13, 14, 15], false, 2, 2⟩,
 ⟨⟨some 49, none, .prim (.mov (.tmp 48))⟩, [0, 1, 2, 3, 4, 5, 6, 7, 8, 9, 10, 11, 12, 13, 14, 15, 16], false, 2, 2⟩,
 ⟨⟨some 50, (some (49, true)), .prim (.mov (.tmp 5))⟩, [0, 1, 2, 3, 4, 5, 6, 7, 8, 9, 10, 11, 12, 13, 14, 15, 16, 17], false, 2, 2⟩,
 ⟨⟨some 51, (some (49, true)), .prim (.mov (.tmp 8))⟩, [0, 1, 2, 3, 4, 5, 6, 7, 8, 9, 10, 11, 12, 13, 14, 15, 16, 17], false, 2, 2⟩,
 ⟨⟨some 52, (some (49, true)), .call (.func 45) [(.tmp 50), (.tmp 51)]⟩, [0, 1, 2, 3, 4, 5, 6, 7, 8, 9, 10, 11, 12, 13, 14, 15, 16, 17, 18, 19], true, 0, 0⟩,
 ⟨⟨some 53, none, .prim (.pick (.tmp 49) (.tmp 52) (.const (.bool false)))⟩, [0, 1, 2, 3, 4, 5, 6, 7, 8, 9, 10, 11, 12, 13, 14, 15, 16, 17, 18, 19, 20], false, 3, 3⟩,
 ⟨⟨some 54, none, .prim (.mov (.tmp 53))⟩, [0, 1, 2, 3, 4, 5, 6, 7, 8, 9, 10, 11, 12, 13, 14, 15, 16, 17, 18, 19, 20, 21], false, 3, 3⟩,
 ⟨⟨some 55, (some (54, true)), .call (.func 14) []⟩, [0, 1, 2, 3, 4, 5, 6, 7, 8, 9, 10, 11, 12, 13, 14, 15, 16, 17, 18, 19, 20, 21, 22], true, 0, 0⟩,
 ⟨⟨some 56, none, .prim (.pick (.tmp 54) (.tmp 55) (.const (.bool false)))⟩, [0, 1, 2, 3, 4, 5, 6, 7, 8, 9, 10, 11, 12, 13, 14, 15, 16, 17, 18, 19, 20, 21, 22, 23], false, 4, 4⟩,
 ⟨⟨some 4, none, .prim (.mov (.tmp 56))⟩, [0, 1, 2, 3, 4, 5, 6, 7, 8, 9, 10, 11, 12, 13, 14, 15, 16, 17, 18, 19, 20, 21, 22, 23, 24], false, 4, 4⟩])
 .ret)))))
def o11 : List Tmp := []
def r11 : List RV := [.tmp 4]
theorem t11 : Text Try.prog 11 o11 c11 r11 57 := ⟨⟨Try.f11, _, by kernel_rfl, by kernel_rfl, rfl, by kernel_rfl, by kernel_rfl, rfl⟩, by kernel_rfl⟩
end Go.Proofs.Ytoadgajhkhejiaa
namespace Go.Proofs.Ytoadgajhkhejiaa
open Go Go.Ab Rex
set_option maxRecDepth 100000
def After (w : ByteArray) (x : Rex) : Prop := ∀ (σ : St) (S : List Bool), S.length = w.size + 1 → Ans Try.prog 121 [x.av, Sx w, bv S] σ (bv (daft w x S)) σ
end Go.Proofs.Ytoadgajhkhejiaa
namespace Go.Proofs.Ytoadgajhkhejiaa
open Go Go.Ab
set_option maxRecDepth 100000
open Rex
abbrev dob (s : ByteArray) (a d : Nat) (b : Bool) : Ob := .box [Sx s, I a, I d, Bo b]
def specials : List Nat := [124, 42, 43, 63, 40, 41, 91, 93, 46, 92]
def oneS (c : Nat) : List Int := z4.set (c / 64) (bitU (c % 64))
def within2 : List Nat := [93, 91, 94, 45]
def dmember (s : ByteArray) (a : Nat) : Nat × Nat × Bool :=
  if over s a false then (0, a, true)
  else if byteAt s a == 92 then
    if over s (a + 1) false || !signs.contains (byteAt s (a + 1)) then (0, a + 1, true) else (byteAt s (a + 1), a + 2, false)
  else (byteAt s a, a + 1, within2.contains (byteAt s a))
theorem signs_sp : ∀ c : Nat, c < 256 → ((specials.contains c || c == 94) || c == 45) = signs.contains c := by decide +kernel
theorem within2_eq (c : Nat) : (((c == 93 || c == 91) || c == 94) || c == 45) = within2.contains c := by
  simp only [within2, List.contains_cons, List.contains_nil, Bool.or_false, Bool.or_assoc]
section
variable (σ : St) (p : Nat) (s : ByteArray) (a d : Nat)
theorem special_ans (c : Nat) : Ans Try.prog 155 [B8 c] σ (Bo (specials.contains c)) σ := by
  have k : ∀ n : Nat, ((c : Int) == (n : Int)) = (c == n) := fun n => beq_cast c n
  have k1 : ((c : Int) == 124) = (c == 124) := k 124
  have k2 : ((c : Int) == 42) = (c == 42) := k 42
  have k3 : ((c : Int) == 43) = (c == 43) := k 43
  have k4 : ((c : Int) == 63) = (c == 63) := k 63
  have k5 : ((c : Int) == 40) = (c == 40) := k 40
  have k6 : ((c : Int) == 41) = (c == 41) := k 41
  have k7 : ((c : Int) == 91) = (c == 91) := k 91
  have k8 : ((c : Int) == 93) = (c == 93) := k 93
  have k9 : ((c : Int) == 46) = (c == 46) := k 46
  have k10 : ((c : Int) == 92) = (c == 92) := k 92
  simp only [specials, List.contains_cons, List.contains_nil, Bool.or_false]
  refine Ans.of_run t155 ?_
  simp -implicitDefEqProofs only [c155, r155, go_sem, List.reduceReplicate, Nat.reduceAdd, Nat.reduceSub, Nat.reduceLT, Nat.reduceLeDiff, Nat.reduceMul, Nat.reduceEqDiff, reduceCtorEq, Int.reduceLE, Int.reduceLT, Int.reduceEq, Int.reduceNe, Int.reduceBEq, Int.reduceBNe, Int.reduceAdd, Int.reduceSub, k1]
  cases h1 : c == 124
  case true => simp -implicitDefEqProofs only [go_sem, List.reduceReplicate, Nat.reduceAdd, Nat.reduceSub, Nat.reduceLT, Nat.reduceLeDiff, Nat.reduceMul, Nat.reduceEqDiff, reduceCtorEq, Int.reduceLE, Int.reduceLT, Int.reduceEq, Int.reduceNe, Int.reduceBEq, Int.reduceBNe, Int.reduceAdd, Int.reduceSub]; exact Fini.ret rfl
  simp -implicitDefEqProofs only [go_sem, List.reduceReplicate, Nat.reduceAdd, Nat.reduceSub, Nat.reduceLT, Nat.reduceLeDiff, Nat.reduceMul, Nat.reduceEqDiff, reduceCtorEq, Int.reduceLE, Int.reduceLT, Int.reduceEq, Int.reduceNe, Int.reduceBEq, Int.reduceBNe, Int.reduceAdd, Int.reduceSub, k2]
  cases h2 : c == 42
  case true => simp -implicitDefEqProofs only [go_sem, List.reduceReplicate, Nat.reduceAdd, Nat.reduceSub, Nat.reduceLT, Nat.reduceLeDiff, Nat.reduceMul, Nat.reduceEqDiff, reduceCtorEq, Int.reduceLE, Int.reduceLT, Int.reduceEq, Int.reduceNe, Int.reduceBEq, Int.reduceBNe, Int.reduceAdd, Int.reduceSub]; exact Fini.ret rfl
  simp -implicitDefEqProofs only [go_sem, List.reduceReplicate, Nat.reduceAdd, Nat.reduceSub, Nat.reduceLT, Nat.reduceLeDiff, Nat.reduceMul, Nat.reduceEqDiff, reduceCtorEq, Int.reduceLE, Int.reduceLT, Int.reduceEq, Int.reduceNe, Int.reduceBEq, Int.reduceBNe, Int.reduceAdd, Int.reduceSub, k3]
  cases h3 : c == 43
  case true => simp -implicitDefEqProofs only [go_sem, List.reduceReplicate, Nat.reduceAdd, Nat.reduceSub, Nat.reduceLT, Nat.reduceLeDiff, Nat.reduceMul, Nat.reduceEqDiff, reduceCtorEq, Int.reduceLE, Int.reduceLT, Int.reduceEq, Int.reduceNe, Int.reduceBEq, Int.reduceBNe, Int.reduceAdd, Int.reduceSub]; exact Fini.ret rfl
  simp -implicitDefEqProofs only [go_sem, List.reduceReplicate, Nat.reduceAdd, Nat.reduceSub, Nat.reduceLT, Nat.reduceLeDiff, Nat.reduceMul, Nat.reduceEqDiff, reduceCtorEq, Int.reduceLE, Int.reduceLT, Int.reduceEq, Int.reduceNe, Int.reduceBEq, Int.reduceBNe, Int.reduceAdd, Int.reduceSub, k4]
  cases h4 : c == 63
  case true => simp -implicitDefEqProofs only [go_sem, List.reduceReplicate, Nat.reduceAdd, Nat.reduceSub, Nat.reduceLT, Nat.reduceLeDiff, Nat.reduceMul, Nat.reduceEqDiff, reduceCtorEq, Int.reduceLE, Int.reduceLT, Int.reduceEq, Int.reduceNe, Int.reduceBEq, Int.reduceBNe, Int.reduceAdd, Int.reduceSub]; exact Fini.ret rfl
  simp -implicitDefEqProofs only [go_sem, List.reduceReplicate, Nat.reduceAdd, Nat.reduceSub, Nat.reduceLT, Nat.reduceLeDiff, Nat.reduceMul, Nat.reduceEqDiff, reduceCtorEq, Int.reduceLE, Int.reduceLT, Int.reduceEq, Int.reduceNe, Int.reduceBEq, Int.reduceBNe, Int.reduceAdd, Int.reduceSub, k5]
  cases h5 : c == 40
  case true => simp -implicitDefEqProofs only [go_sem, List.reduceReplicate, Nat.reduceAdd, Nat.reduceSub, Nat.reduceLT, Nat.reduceLeDiff, Nat.reduceMul, Nat.reduceEqDiff, reduceCtorEq, Int.reduceLE, Int.reduceLT, Int.reduceEq, Int.reduceNe, Int.reduceBEq, Int.reduceBNe, Int.reduceAdd, Int.reduceSub]; exact Fini.ret rfl
  simp -implicitDefEqProofs only [go_sem, List.reduceReplicate, Nat.reduceAdd, Nat.reduceSub, Nat.reduceLT, Nat.reduceLeDiff, Nat.reduceMul, Nat.reduceEqDiff, reduceCtorEq, Int.reduceLE, Int.reduceLT, Int.reduceEq, Int.reduceNe, Int.reduceBEq, Int.reduceBNe, Int.reduceAdd, Int.reduceSub, k6]
  cases h6 : c == 41
  case true => simp -implicitDefEqProofs only [go_sem, List.reduceReplicate, Nat.reduceAdd, Nat.reduceSub, Nat.reduceLT, Nat.reduceLeDiff, Nat.reduceMul, Nat.reduceEqDiff, reduceCtorEq, Int.reduceLE, Int.reduceLT, Int.reduceEq, Int.reduceNe, Int.reduceBEq, Int.reduceBNe, Int.reduceAdd, Int.reduceSub]; exact Fini.ret rfl
  simp -implicitDefEqProofs only [go_sem, List.reduceReplicate, Nat.reduceAdd, Nat.reduceSub, Nat.reduceLT, Nat.reduceLeDiff, Nat.reduceMul, Nat.reduceEqDiff, reduceCtorEq, Int.reduceLE, Int.reduceLT, Int.reduceEq, Int.reduceNe, Int.reduceBEq, Int.reduceBNe, Int.reduceAdd, Int.reduceSub, k7]
  cases h7 : c == 91
  case true => simp -implicitDefEqProofs only [go_sem, List.reduceReplicate, Nat.reduceAdd, Nat.reduceSub, Nat.reduceLT, Nat.reduceLeDiff, Nat.reduceMul, Nat.reduceEqDiff, reduceCtorEq, Int.reduceLE, Int.reduceLT, Int.reduceEq, Int.reduceNe, Int.reduceBEq, Int.reduceBNe, Int.reduceAdd, Int.reduceSub]; exact Fini.ret rfl
  simp -implicitDefEqProofs only [go_sem, List.reduceReplicate, Nat.reduceAdd, Nat.reduceSub, Nat.reduceLT, Nat.reduceLeDiff, Nat.reduceMul, Nat.reduceEqDiff, reduceCtorEq, Int.reduceLE, Int.reduceLT, Int.reduceEq, Int.reduceNe, Int.reduceBEq, Int.reduceBNe, Int.reduceAdd, Int.reduceSub, k8]
  cases h8 : c == 93
  case true => simp -implicitDefEqProofs only [go_sem, List.reduceReplicate, Nat.reduceAdd, Nat.reduceSub, Nat.reduceLT, Nat.reduceLeDiff, Nat.reduceMul, Nat.reduceEqDiff, reduceCtorEq, Int.reduceLE, Int.reduceLT, Int.reduceEq, Int.reduceNe, Int.reduceBEq, Int.reduceBNe, Int.reduceAdd, Int.reduceSub]; exact Fini.ret rfl
  simp -implicitDefEqProofs only [go_sem, List.reduceReplicate, Nat.reduceAdd, Nat.reduceSub, Nat.reduceLT, Nat.reduceLeDiff, Nat.reduceMul, Nat.reduceEqDiff, reduceCtorEq, Int.reduceLE, Int.reduceLT, Int.reduceEq, Int.reduceNe, Int.reduceBEq, Int.reduceBNe, Int.reduceAdd, Int.reduceSub, k9]
  cases h9 : c == 46
  case true => simp -implicitDefEqProofs only [go_sem, List.reduceReplicate, Nat.reduceAdd, Nat.reduceSub, Nat.reduceLT, Nat.reduceLeDiff, Nat.reduceMul, Nat.reduceEqDiff, reduceCtorEq, Int.reduceLE, Int.reduceLT, Int.reduceEq, Int.reduceNe, Int.reduceBEq, Int.reduceBNe, Int.reduceAdd, Int.reduceSub]; exact Fini.ret rfl
  simp -implicitDefEqProofs only [go_sem, List.reduceReplicate, Nat.reduceAdd, Nat.reduceSub, Nat.reduceLT, Nat.reduceLeDiff, Nat.reduceMul, Nat.reduceEqDiff, reduceCtorEq, Int.reduceLE, Int.reduceLT, Int.reduceEq, Int.reduceNe, Int.reduceBEq, Int.reduceBNe, Int.reduceAdd, Int.reduceSub, k10]
  cases h10 : c == 92
  case true => simp -implicitDefEqProofs only [go_sem, List.reduceReplicate, Nat.reduceAdd, Nat.reduceSub, Nat.reduceLT, Nat.reduceLeDiff, Nat.reduceMul, Nat.reduceEqDiff, reduceCtorEq, Int.reduceLE, Int.reduceLT, Int.reduceEq, Int.reduceNe, Int.reduceBEq, Int.reduceBNe, Int.reduceAdd, Int.reduceSub]; exact Fini.ret rfl
  simp -implicitDefEqProofs only [go_sem, List.reduceReplicate, Nat.reduceAdd, Nat.reduceSub, Nat.reduceLT, Nat.reduceLeDiff, Nat.reduceMul, Nat.reduceEqDiff, reduceCtorEq, Int.reduceLE, Int.reduceLT, Int.reduceEq, Int.reduceNe, Int.reduceBEq, Int.reduceBNe, Int.reduceAdd, Int.reduceSub]
  exact Fini.ret rfl
theorem quoted_ans (c : Nat) (hc : c < 256) : Ans Try.prog 151 [B8 c] σ (Bo (signs.contains c)) σ := by
  have k1 : ((c : Int) == 94) = (c == 94) := beq_cast c 94
  have k2 : ((c : Int) == 45) = (c == 45) := beq_cast c 45
  rw [← signs_sp c hc]
  refine Ans.of_run t151 ?_
  simp -implicitDefEqProofs only [c151, r151, go_sem, List.reduceReplicate, Nat.reduceAdd, Nat.reduceSub, Nat.reduceLT, Nat.reduceLeDiff, Nat.reduceMul, Nat.reduceEqDiff, reduceCtorEq, Int.reduceLE, Int.reduceLT, Int.reduceEq, Int.reduceNe, Int.reduceBEq, Int.reduceBNe, Int.reduceAdd, Int.reduceSub]
  refine CO.intro (special_ans σ c) ?_
  simp -implicitDefEqProofs only [go_sem, List.reduceReplicate, Nat.reduceAdd, Nat.reduceSub, Nat.reduceLT, Nat.reduceLeDiff, Nat.reduceMul, Nat.reduceEqDiff, reduceCtorEq, Int.reduceLE, Int.reduceLT, Int.reduceEq, Int.reduceNe, Int.reduceBEq, Int.reduceBNe, Int.reduceAdd, Int.reduceSub, k1]
  cases h1 : specials.contains c
  · simp -implicitDefEqProofs only [go_sem, List.reduceReplicate, Nat.reduceAdd, Nat.reduceSub, Nat.reduceLT, Nat.reduceLeDiff, Nat.reduceMul, Nat.reduceEqDiff, reduceCtorEq, Int.reduceLE, Int.reduceLT, Int.reduceEq, Int.reduceNe, Int.reduceBEq, Int.reduceBNe, Int.reduceAdd, Int.reduceSub, k1]
    cases h2 : c == 94
    · simp -implicitDefEqProofs only [go_sem, List.reduceReplicate, Nat.reduceAdd, Nat.reduceSub, Nat.reduceLT, Nat.reduceLeDiff, Nat.reduceMul, Nat.reduceEqDiff, reduceCtorEq, Int.reduceLE, Int.reduceLT, Int.reduceEq, Int.reduceNe, Int.reduceBEq, Int.reduceBNe, Int.reduceAdd, Int.reduceSub, k2]
      exact Fini.ret rfl
    · simp -implicitDefEqProofs only [go_sem, List.reduceReplicate, Nat.reduceAdd, Nat.reduceSub, Nat.reduceLT, Nat.reduceLeDiff, Nat.reduceMul, Nat.reduceEqDiff, reduceCtorEq, Int.reduceLE, Int.reduceLT, Int.reduceEq, Int.reduceNe, Int.reduceBEq, Int.reduceBNe, Int.reduceAdd, Int.reduceSub, k2]
      exact Fini.ret rfl
  · simp -implicitDefEqProofs only [go_sem, List.reduceReplicate, Nat.reduceAdd, Nat.reduceSub, Nat.reduceLT, Nat.reduceLeDiff, Nat.reduceMul, Nat.reduceEqDiff, reduceCtorEq, Int.reduceLE, Int.reduceLT, Int.reduceEq, Int.reduceNe, Int.reduceBEq, Int.reduceBNe, Int.reduceAdd, Int.reduceSub]
    exact Fini.ret rfl
theorem more_ans (b : Bool) (h : σ[p]? = some (dob s a d b)) : Ans Try.prog 120 [.ptr p 0] σ (Bo (!over s a b)) σ := by
  refine Ans.of_run t120 ?_
  cases b <;> simp -implicitDefEqProofs only [c120, r120, h, go_sem, List.reduceReplicate, Nat.reduceAdd, Nat.reduceSub, Nat.reduceLT, Nat.reduceLeDiff, Nat.reduceMul, Nat.reduceEqDiff, reduceCtorEq, Int.reduceLE, Int.reduceLT, Int.reduceEq, Int.reduceNe, Int.reduceBEq, Int.reduceBNe, Int.reduceAdd, Int.reduceSub]
  · refine Fini.ret ?_
    have e : decide ((a : Int) < (s.size : Int)) = !over s a false := by
      simp only [over, Bool.false_or]
      rw [Bool.eq_iff_iff]; simp
    simp -implicitDefEqProofs only [go_sem, List.reduceReplicate, Nat.reduceAdd, Nat.reduceSub, Nat.reduceLT, Nat.reduceLeDiff, Nat.reduceMul, Nat.reduceEqDiff, reduceCtorEq, Int.reduceLE, Int.reduceLT, Int.reduceEq, Int.reduceNe, Int.reduceBEq, Int.reduceBNe, Int.reduceAdd, Int.reduceSub, e]
    rfl
  · exact Fini.ret rfl
theorem fail_ans (b : Bool) (h : σ[p]? = some (dob s a d b)) : Ans Try.prog 152 [.ptr p 0] σ (.tup []) (σ.set p (dob s a d true)) := by
  refine Ans.of_run t152 ?_
  simp -implicitDefEqProofs only [c152, r152, h, go_sem, List.reduceReplicate, Nat.reduceAdd, Nat.reduceSub, Nat.reduceLT, Nat.reduceLeDiff, Nat.reduceMul, Nat.reduceEqDiff, reduceCtorEq, Int.reduceLE, Int.reduceLT, Int.reduceEq, Int.reduceNe, Int.reduceBEq, Int.reduceBNe, Int.reduceAdd, Int.reduceSub]
  exact Fini.normal2 (n := 0) rfl rfl rfl
theorem oneS_ans (c : Nat) (hc : c < 256) : Ans Try.prog 153 [B8 c] σ (.agg ((oneS c).map U)) σ := by
  have e1 : IntKind.u8.wrap ((c : Int).tdiv 64) = ((c / 64 : Nat) : Int) := by
    rw [show (c : Int).tdiv 64 = ((c / 64 : Nat) : Int) from rfl]
    simp only [IntKind.wrap, IntKind.bits, IntKind.signed]; simp; omega
  have e2 : (c : Int).tmod 64 = ((c % 64 : Nat) : Int) := rfl
  have e3 : ((64 : Int) = 0) = False := by simp
  have e4 : (((c / 64 : Nat) : Int) < (4 : Nat)) = True := by simp; omega
  have hk : c / 64 < 4 := by omega
  have k0 : ∀ (x y : Ob), (σ ++ [x, y])[σ.length]? = some x := fun x y => by rw [List.getElem?_append_right (by simp)]; simp
  have k1 : ∀ (x y : Ob), (σ ++ [x, y])[σ.length + 1]? = some y := fun x y => by rw [List.getElem?_append_right (by simp)]; simp
  have s0 : ∀ (x y z : Ob), (σ ++ [x, y]).set σ.length z = σ ++ [z, y] := fun x y z => by rw [List.set_append_right _ _ (by simp)]; simp
  have s1 : ∀ (x y z : Ob), (σ ++ [x, y]).set (σ.length + 1) z = σ ++ [x, z] := fun x y z => by rw [List.set_append_right _ _ (by simp)]; simp
  refine Ans.of_run' t153 (fun hbel _ => ?_)
  have hb := bel_sets σ.length (oneS c)
  unfold oneS at hb ⊢
  have e5 : IntKind.u64.wrap ((c % 64 : Nat) : Int) = ((c % 64 : Nat) : Int) := by
    simp only [IntKind.wrap, IntKind.bits, IntKind.signed]; simp; omega
  simp -implicitDefEqProofs only [c153, r153, go_sem, List.reduceReplicate, Nat.reduceAdd, Nat.reduceSub, Nat.reduceLT, Nat.reduceLeDiff, Nat.reduceMul, Nat.reduceEqDiff, reduceCtorEq, Int.reduceLE, Int.reduceLT, Int.reduceEq, Int.reduceNe, Int.reduceBEq, Int.reduceBNe, Int.reduceAdd, Int.reduceSub, e1, e2, e3, e4, e5, Nat.mul_one, k0, k1, s0, s1, List.append_assoc, List.length_append]
  generalize hw : bitU (c % 64) = w at hb ⊢
  have hw' : IntKind.u64.wrap (1 * 2 ^ min (c % 64) 64) = w := hw
  rw [hw']
  generalize c / 64 = k at hk hb ⊢
  match k, hk with
  | 0, _ =>
    simp -implicitDefEqProofs only [go_sem, List.reduceReplicate, Nat.reduceAdd, Nat.reduceSub, Nat.reduceLT, Nat.reduceLeDiff, Nat.reduceMul, Nat.reduceEqDiff, reduceCtorEq, Int.reduceLE, Int.reduceLT, Int.reduceEq, Int.reduceNe, Int.reduceBEq, Int.reduceBNe, Int.reduceAdd, Int.reduceSub, k0, k1, s0, s1]
    exact Fini.trim2 (σ' := σ) (ex := [_, _]) (by simp -implicitDefEqProofs only [go_sem, List.reduceReplicate, Nat.reduceAdd, Nat.reduceSub, Nat.reduceLT, Nat.reduceLeDiff, Nat.reduceMul, Nat.reduceEqDiff, reduceCtorEq, Int.reduceLE, Int.reduceLT, Int.reduceEq, Int.reduceNe, Int.reduceBEq, Int.reduceBNe, Int.reduceAdd, Int.reduceSub, resA, allSome, rvA, oneOf, k0]) rfl (Nat.le_refl _) hb hbel
  | 1, _ =>
    simp -implicitDefEqProofs only [go_sem, List.reduceReplicate, Nat.reduceAdd, Nat.reduceSub, Nat.reduceLT, Nat.reduceLeDiff, Nat.reduceMul, Nat.reduceEqDiff, reduceCtorEq, Int.reduceLE, Int.reduceLT, Int.reduceEq, Int.reduceNe, Int.reduceBEq, Int.reduceBNe, Int.reduceAdd, Int.reduceSub, k0, k1, s0, s1]
    exact Fini.trim2 (σ' := σ) (ex := [_, _]) (by simp -implicitDefEqProofs only [go_sem, List.reduceReplicate, Nat.reduceAdd, Nat.reduceSub, Nat.reduceLT, Nat.reduceLeDiff, Nat.reduceMul, Nat.reduceEqDiff, reduceCtorEq, Int.reduceLE, Int.reduceLT, Int.reduceEq, Int.reduceNe, Int.reduceBEq, Int.reduceBNe, Int.reduceAdd, Int.reduceSub, resA, allSome, rvA, oneOf, k0]) rfl (Nat.le_refl _) hb hbel
  | 2, _ =>
    simp -implicitDefEqProofs only [go_sem, List.reduceReplicate, Nat.reduceAdd, Nat.reduceSub, Nat.reduceLT, Nat.reduceLeDiff, Nat.reduceMul, Nat.reduceEqDiff, reduceCtorEq, Int.reduceLE, Int.reduceLT, Int.reduceEq, Int.reduceNe, Int.reduceBEq, Int.reduceBNe, Int.reduceAdd, Int.reduceSub, k0, k1, s0, s1]
    exact Fini.trim2 (σ' := σ) (ex := [_, _]) (by simp -implicitDefEqProofs only [go_sem, List.reduceReplicate, Nat.reduceAdd, Nat.reduceSub, Nat.reduceLT, Nat.reduceLeDiff, Nat.reduceMul, Nat.reduceEqDiff, reduceCtorEq, Int.reduceLE, Int.reduceLT, Int.reduceEq, Int.reduceNe, Int.reduceBEq, Int.reduceBNe, Int.reduceAdd, Int.reduceSub, resA, allSome, rvA, oneOf, k0]) rfl (Nat.le_refl _) hb hbel
  | 3, _ =>
    simp -implicitDefEqProofs only [go_sem, List.reduceReplicate, Nat.reduceAdd, Nat.reduceSub, Nat.reduceLT, Nat.reduceLeDiff, Nat.reduceMul, Nat.reduceEqDiff, reduceCtorEq, Int.reduceLE, Int.reduceLT, Int.reduceEq, Int.reduceNe, Int.reduceBEq, Int.reduceBNe, Int.reduceAdd, Int.reduceSub, k0, k1, s0, s1]
    exact Fini.trim2 (σ' := σ) (ex := [_, _]) (by simp -implicitDefEqProofs only [go_sem, List.reduceReplicate, Nat.reduceAdd, Nat.reduceSub, Nat.reduceLT, Nat.reduceLeDiff, Nat.reduceMul, Nat.reduceEqDiff, reduceCtorEq, Int.reduceLE, Int.reduceLT, Int.reduceEq, Int.reduceNe, Int.reduceBEq, Int.reduceBNe, Int.reduceAdd, Int.reduceSub, resA, allSome, rvA, oneOf, k0]) rfl (Nat.le_refl _) hb hbel
theorem dmember_ans (hs : s.size ≤ 40) (h : σ[p]? = some (dob s a d false)) : Ans Try.prog 158 [.ptr p 0] σ (B8 (dmember s a).1) (σ.set p (dob s (dmember s a).2.1 d (dmember s a).2.2)) := by
  have hp : p < σ.length := (List.getElem?_eq_some_iff.1 h).1
  have hg : ∀ o, (σ.set p o)[p]? = some o := fun o => by simp [hp]
  refine Ans.of_run t158 ?_
  simp -implicitDefEqProofs only [c158, r158, h, go_sem, List.reduceReplicate, Nat.reduceAdd, Nat.reduceSub, Nat.reduceLT, Nat.reduceLeDiff, Nat.reduceMul, Nat.reduceEqDiff, reduceCtorEq, Int.reduceLE, Int.reduceLT, Int.reduceEq, Int.reduceNe, Int.reduceBEq, Int.reduceBNe, Int.reduceAdd, Int.reduceSub]
  refine CO.intro (more_ans σ p s a d false h) ?_
  unfold dmember
  cases ho : over s a false with
  | true =>
    simp -implicitDefEqProofs only [go_sem, List.reduceReplicate, Nat.reduceAdd, Nat.reduceSub, Nat.reduceLT, Nat.reduceLeDiff, Nat.reduceMul, Nat.reduceEqDiff, reduceCtorEq, Int.reduceLE, Int.reduceLT, Int.reduceEq, Int.reduceNe, Int.reduceBEq, Int.reduceBNe, Int.reduceAdd, Int.reduceSub]
    refine CO.intro (fail_ans σ p s a d false h) ?_
    simp -implicitDefEqProofs only [go_sem, List.reduceReplicate, Nat.reduceAdd, Nat.reduceSub, Nat.reduceLT, Nat.reduceLeDiff, Nat.reduceMul, Nat.reduceEqDiff, reduceCtorEq, Int.reduceLE, Int.reduceLT, Int.reduceEq, Int.reduceNe, Int.reduceBEq, Int.reduceBNe, Int.reduceAdd, Int.reduceSub]
    exact Fini.ret rfl
  | false =>
    have hlt := over_lt ho
    have h1 : (a : Int) < s.size := by omega
    have k92 : (((byteAt s a : Nat) : Int) == 92) = (byteAt s a == 92) := beq_cast _ 92
    have k93 : (((byteAt s a : Nat) : Int) == 93) = (byteAt s a == 93) := beq_cast _ 93
    have k91 : (((byteAt s a : Nat) : Int) == 91) = (byteAt s a == 91) := beq_cast _ 91
    have k94 : (((byteAt s a : Nat) : Int) == 94) = (byteAt s a == 94) := beq_cast _ 94
    have k45 : (((byteAt s a : Nat) : Int) == 45) = (byteAt s a == 45) := beq_cast _ 45
    simp -implicitDefEqProofs only [go_sem, List.reduceReplicate, Nat.reduceAdd, Nat.reduceSub, Nat.reduceLT, Nat.reduceLeDiff, Nat.reduceMul, Nat.reduceEqDiff, reduceCtorEq, Int.reduceLE, Int.reduceLT, Int.reduceEq, Int.reduceNe, Int.reduceBEq, Int.reduceBNe, Int.reduceAdd, Int.reduceSub, h, h1, byteAt_def, wrap_nat (show a ≤ 4294967296 by omega), k92]
    cases hc : byteAt s a == 92 with
    | true =>
      simp -implicitDefEqProofs only [go_sem, List.reduceReplicate, Nat.reduceAdd, Nat.reduceSub, Nat.reduceLT, Nat.reduceLeDiff, Nat.reduceMul, Nat.reduceEqDiff, reduceCtorEq, Int.reduceLE, Int.reduceLT, Int.reduceEq, Int.reduceNe, Int.reduceBEq, Int.reduceBNe, Int.reduceAdd, Int.reduceSub]
      refine CD.intro (more_ans _ p s (a + 1) d false (hg _)) ?_
      cases ho2 : over s (a + 1) false with
      | true =>
        simp -implicitDefEqProofs only [go_sem, List.reduceReplicate, Nat.reduceAdd, Nat.reduceSub, Nat.reduceLT, Nat.reduceLeDiff, Nat.reduceMul, Nat.reduceEqDiff, reduceCtorEq, Int.reduceLE, Int.reduceLT, Int.reduceEq, Int.reduceNe, Int.reduceBEq, Int.reduceBNe, Int.reduceAdd, Int.reduceSub, hg]
        refine CO.intro (fail_ans _ p s (a + 1) d false (hg _)) ?_
        simp -implicitDefEqProofs only [go_sem, List.reduceReplicate, Nat.reduceAdd, Nat.reduceSub, Nat.reduceLT, Nat.reduceLeDiff, Nat.reduceMul, Nat.reduceEqDiff, reduceCtorEq, Int.reduceLE, Int.reduceLT, Int.reduceEq, Int.reduceNe, Int.reduceBEq, Int.reduceBNe, Int.reduceAdd, Int.reduceSub, List.set_set, Bool.true_or]
        exact Fini.ret rfl
      | false =>
        have hlt2 := over_lt ho2
        have h2 : ((a + 1 : Nat) : Int) < s.size := by omega
        simp -implicitDefEqProofs only [go_sem, List.reduceReplicate, Nat.reduceAdd, Nat.reduceSub, Nat.reduceLT, Nat.reduceLeDiff, Nat.reduceMul, Nat.reduceEqDiff, reduceCtorEq, Int.reduceLE, Int.reduceLT, Int.reduceEq, Int.reduceNe, Int.reduceBEq, Int.reduceBNe, Int.reduceAdd, Int.reduceSub, hg, h2, byteAt_def]
        refine CD.intro (quoted_ans _ (byteAt s (a + 1)) (byteAt_lt _ _)) ?_
        cases hq : signs.contains (byteAt s (a + 1)) with
        | false =>
          simp -implicitDefEqProofs only [go_sem, List.reduceReplicate, Nat.reduceAdd, Nat.reduceSub, Nat.reduceLT, Nat.reduceLeDiff, Nat.reduceMul, Nat.reduceEqDiff, reduceCtorEq, Int.reduceLE, Int.reduceLT, Int.reduceEq, Int.reduceNe, Int.reduceBEq, Int.reduceBNe, Int.reduceAdd, Int.reduceSub, hg]
          refine CO.intro (fail_ans _ p s (a + 1) d false (hg _)) ?_
          simp -implicitDefEqProofs only [go_sem, List.reduceReplicate, Nat.reduceAdd, Nat.reduceSub, Nat.reduceLT, Nat.reduceLeDiff, Nat.reduceMul, Nat.reduceEqDiff, reduceCtorEq, Int.reduceLE, Int.reduceLT, Int.reduceEq, Int.reduceNe, Int.reduceBEq, Int.reduceBNe, Int.reduceAdd, Int.reduceSub, List.set_set, Bool.or_true]
          exact Fini.ret rfl
        | true =>
          have h3 : IntKind.i64.wrap (((a + 1 + 1 : Nat) : Int) - 1) = ((a + 1 : Nat) : Int) := by
            simp only [IntKind.wrap, IntKind.bits, IntKind.signed]; simp; omega
          simp -implicitDefEqProofs only [go_sem, List.reduceReplicate, Nat.reduceAdd, Nat.reduceSub, Nat.reduceLT, Nat.reduceLeDiff, Nat.reduceMul, Nat.reduceEqDiff, reduceCtorEq, Int.reduceLE, Int.reduceLT, Int.reduceEq, Int.reduceNe, Int.reduceBEq, Int.reduceBNe, Int.reduceAdd, Int.reduceSub, hg, List.set_set, wrap_nat (show a + 1 ≤ 4294967296 by omega), h2, h3, byteAt_def, Bool.or_false]
          exact Fini.ret rfl
    | false =>
      rw [← within2_eq]
      simp -implicitDefEqProofs only [go_sem, List.reduceReplicate, Nat.reduceAdd, Nat.reduceSub, Nat.reduceLT, Nat.reduceLeDiff, Nat.reduceMul, Nat.reduceEqDiff, reduceCtorEq, Int.reduceLE, Int.reduceLT, Int.reduceEq, Int.reduceNe, Int.reduceBEq, Int.reduceBNe, Int.reduceAdd, Int.reduceSub, k93, k91, k94, k45]
      cases h93 : byteAt s a == 93
      case true =>
        simp -implicitDefEqProofs only [go_sem, List.reduceReplicate, Nat.reduceAdd, Nat.reduceSub, Nat.reduceLT, Nat.reduceLeDiff, Nat.reduceMul, Nat.reduceEqDiff, reduceCtorEq, Int.reduceLE, Int.reduceLT, Int.reduceEq, Int.reduceNe, Int.reduceBEq, Int.reduceBNe, Int.reduceAdd, Int.reduceSub]
        refine CO.intro (fail_ans _ p s (a + 1) d false (hg _)) ?_
        simp -implicitDefEqProofs only [go_sem, List.reduceReplicate, Nat.reduceAdd, Nat.reduceSub, Nat.reduceLT, Nat.reduceLeDiff, Nat.reduceMul, Nat.reduceEqDiff, reduceCtorEq, Int.reduceLE, Int.reduceLT, Int.reduceEq, Int.reduceNe, Int.reduceBEq, Int.reduceBNe, Int.reduceAdd, Int.reduceSub, List.set_set, Bool.true_or]
        exact Fini.ret rfl
      simp -implicitDefEqProofs only [go_sem, List.reduceReplicate, Nat.reduceAdd, Nat.reduceSub, Nat.reduceLT, Nat.reduceLeDiff, Nat.reduceMul, Nat.reduceEqDiff, reduceCtorEq, Int.reduceLE, Int.reduceLT, Int.reduceEq, Int.reduceNe, Int.reduceBEq, Int.reduceBNe, Int.reduceAdd, Int.reduceSub, k91]
      cases h91 : byteAt s a == 91
      case true =>
        simp -implicitDefEqProofs only [go_sem, List.reduceReplicate, Nat.reduceAdd, Nat.reduceSub, Nat.reduceLT, Nat.reduceLeDiff, Nat.reduceMul, Nat.reduceEqDiff, reduceCtorEq, Int.reduceLE, Int.reduceLT, Int.reduceEq, Int.reduceNe, Int.reduceBEq, Int.reduceBNe, Int.reduceAdd, Int.reduceSub]
        refine CO.intro (fail_ans _ p s (a + 1) d false (hg _)) ?_
        simp -implicitDefEqProofs only [go_sem, List.reduceReplicate, Nat.reduceAdd, Nat.reduceSub, Nat.reduceLT, Nat.reduceLeDiff, Nat.reduceMul, Nat.reduceEqDiff, reduceCtorEq, Int.reduceLE, Int.reduceLT, Int.reduceEq, Int.reduceNe, Int.reduceBEq, Int.reduceBNe, Int.reduceAdd, Int.reduceSub, List.set_set, Bool.true_or, Bool.or_true]
        exact Fini.ret rfl
      simp -implicitDefEqProofs only [go_sem, List.reduceReplicate, Nat.reduceAdd, Nat.reduceSub, Nat.reduceLT, Nat.reduceLeDiff, Nat.reduceMul, Nat.reduceEqDiff, reduceCtorEq, Int.reduceLE, Int.reduceLT, Int.reduceEq, Int.reduceNe, Int.reduceBEq, Int.reduceBNe, Int.reduceAdd, Int.reduceSub, k94]
      cases h94 : byteAt s a == 94
      case true =>
        simp -implicitDefEqProofs only [go_sem, List.reduceReplicate, Nat.reduceAdd, Nat.reduceSub, Nat.reduceLT, Nat.reduceLeDiff, Nat.reduceMul, Nat.reduceEqDiff, reduceCtorEq, Int.reduceLE, Int.reduceLT, Int.reduceEq, Int.reduceNe, Int.reduceBEq, Int.reduceBNe, Int.reduceAdd, Int.reduceSub]
        refine CO.intro (fail_ans _ p s (a + 1) d false (hg _)) ?_
        simp -implicitDefEqProofs only [go_sem, List.reduceReplicate, Nat.reduceAdd, Nat.reduceSub, Nat.reduceLT, Nat.reduceLeDiff, Nat.reduceMul, Nat.reduceEqDiff, reduceCtorEq, Int.reduceLE, Int.reduceLT, Int.reduceEq, Int.reduceNe, Int.reduceBEq, Int.reduceBNe, Int.reduceAdd, Int.reduceSub, List.set_set, Bool.true_or, Bool.or_true]
        exact Fini.ret rfl
      simp -implicitDefEqProofs only [go_sem, List.reduceReplicate, Nat.reduceAdd, Nat.reduceSub, Nat.reduceLT, Nat.reduceLeDiff, Nat.reduceMul, Nat.reduceEqDiff, reduceCtorEq, Int.reduceLE, Int.reduceLT, Int.reduceEq, Int.reduceNe, Int.reduceBEq, Int.reduceBNe, Int.reduceAdd, Int.reduceSub, k45]
      cases h45 : byteAt s a == 45
      case true =>
        simp -implicitDefEqProofs only [go_sem, List.reduceReplicate, Nat.reduceAdd, Nat.reduceSub, Nat.reduceLT, Nat.reduceLeDiff, Nat.reduceMul, Nat.reduceEqDiff, reduceCtorEq, Int.reduceLE, Int.reduceLT, Int.reduceEq, Int.reduceNe, Int.reduceBEq, Int.reduceBNe, Int.reduceAdd, Int.reduceSub]
        refine CO.intro (fail_ans _ p s (a + 1) d false (hg _)) ?_
        simp -implicitDefEqProofs only [go_sem, List.reduceReplicate, Nat.reduceAdd, Nat.reduceSub, Nat.reduceLT, Nat.reduceLeDiff, Nat.reduceMul, Nat.reduceEqDiff, reduceCtorEq, Int.reduceLE, Int.reduceLT, Int.reduceEq, Int.reduceNe, Int.reduceBEq, Int.reduceBNe, Int.reduceAdd, Int.reduceSub, List.set_set, Bool.true_or, Bool.or_true]
        exact Fini.ret rfl
      simp -implicitDefEqProofs only [go_sem, List.reduceReplicate, Nat.reduceAdd, Nat.reduceSub, Nat.reduceLT, Nat.reduceLeDiff, Nat.reduceMul, Nat.reduceEqDiff, reduceCtorEq, Int.reduceLE, Int.reduceLT, Int.reduceEq, Int.reduceNe, Int.reduceBEq, Int.reduceBNe, Int.reduceAdd, Int.reduceSub, Bool.or_self]
      exact Fini.ret rfl
end
end Go.Proofs.Ytoadgajhkhejiaa
