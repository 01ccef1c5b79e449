/- Any matcher: whether it may be, is too large, holds. No condition. -/
import Derived.Test.YtoadgajhkhejiaaScan4
import Derived.Test.YtoadgajhkhejiaaPBnd
set_option linter.unusedSimpArgs false
set_option linter.unusedVariables false
namespace Go.Proofs.Ytoadgajhkhejiaa
open Go Go.Ab
set_option maxRecDepth 100000

def letterB (c : Nat) : Bool := decide (97 ≤ c) && decide (c ≤ 122) || decide (65 ≤ c) && decide (c ≤ 90) || c == 95
def digitB (c : Nat) : Bool := decide (48 ≤ c) && decide (c ≤ 57)
def nameB (s : ByteArray) : Bool := decide (1 ≤ s.size) && decide (s.size ≤ 12) && letterB (byteAt s 0) && (List.range s.size).all fun i => letterB (byteAt s i) || digitB (byteAt s i)
theorem int_le (a b : Nat) : decide ((a : Int) ≤ (b : Int)) = decide (a ≤ b) := by
  rw [Bool.eq_iff_iff]; simp only [decide_eq_true_eq]; omega
theorem letter_ans (σ : St) (c : Nat) : Ans Try.prog 94 [.pl (.int .u8 c)] σ (Bo (letterB c)) σ := by
  have e1 : decide ((97 : Int) ≤ c) = decide (97 ≤ c) := int_le 97 c
  have e2 : decide ((c : Int) ≤ 122) = decide (c ≤ 122) := int_le c 122
  have e3 : decide ((65 : Int) ≤ c) = decide (65 ≤ c) := int_le 65 c
  have e4 : decide ((c : Int) ≤ 90) = decide (c ≤ 90) := int_le c 90
  have e5 : ((c : Int) == 95) = (c == 95) := beq_cast c 95
  have hg : (if (if decide (97 ≤ c) then decide (c ≤ 122) else false) then true else if (if decide (65 ≤ c) then decide (c ≤ 90) else false) then true else (c == 95)) = letterB c := by
    unfold letterB
    cases decide (97 ≤ c) <;> cases decide (c ≤ 122) <;> cases decide (65 ≤ c) <;> cases decide (c ≤ 90) <;> cases (c == 95) <;> rfl
  rw [← hg]
  refine Ans.of_run t94 ?_
  cases h1 : decide (97 ≤ c) <;> cases h2 : decide (c ≤ 122) <;> cases h3 : decide (65 ≤ c) <;> cases h4 : decide (c ≤ 90) <;> rw [h1] at e1 <;> rw [h2] at e2 <;> rw [h3] at e3 <;> rw [h4] at e4
  all_goals (simp -implicitDefEqProofs only [c94, r94, go_sem, List.reduceReplicate, Nat.reduceAdd, Nat.reduceSub, Nat.reduceLT, Nat.reduceLeDiff, Nat.reduceMul, Nat.reduceEqDiff, reduceCtorEq, Int.reduceLE, Int.reduceLT, Int.reduceEq, Int.reduceNe, Int.reduceBEq, Int.reduceBNe, Int.reduceAdd, Int.reduceSub, e1, e2, e3, e4, e5]; exact Fini.ret rfl)

theorem decN (a b : Nat) : decide ((a : Int) < (b : Int)) = decide (a < b) := by
  rw [Bool.eq_iff_iff]; simp only [decide_eq_true_eq]; omega
theorem name_ans' (σ : St) (s : ByteArray) : Ans Try.prog 51 [Sx s] σ (Bo (nameB s)) σ := by
  refine Ans.of_run t51 ?_
  have d1 : decide ((s.size : Int) < 1) = decide (s.size < 1) := decN s.size 1
  have d2 : decide ((12 : Int) < s.size) = decide (12 < s.size) := decN 12 s.size
  by_cases h1 : s.size < 1
  · have e1 : decide (s.size < 1) = true := by simpa using h1
    rw [e1] at d1
    simp -implicitDefEqProofs only [c51, r51, go_sem, List.reduceReplicate, Nat.reduceAdd, Nat.reduceSub, Nat.reduceLT, Nat.reduceLeDiff, Nat.reduceMul, Nat.reduceEqDiff, reduceCtorEq, Int.reduceLE, Int.reduceLT, Int.reduceEq, Int.reduceNe, Int.reduceBEq, Int.reduceBNe, Int.reduceAdd, Int.reduceSub, d1]
    refine Fini.ret' rfl (bo_congr ?_)
    rw [nameB, show decide (1 ≤ s.size) = false from decide_eq_false (by omega)]; rfl
  have e1 : decide (s.size < 1) = false := by simpa using h1
  rw [e1] at d1
  by_cases h2 : 12 < s.size
  · have e2 : decide (12 < s.size) = true := by simpa using h2
    rw [e2] at d2
    simp -implicitDefEqProofs only [c51, r51, go_sem, List.reduceReplicate, Nat.reduceAdd, Nat.reduceSub, Nat.reduceLT, Nat.reduceLeDiff, Nat.reduceMul, Nat.reduceEqDiff, reduceCtorEq, Int.reduceLE, Int.reduceLT, Int.reduceEq, Int.reduceNe, Int.reduceBEq, Int.reduceBNe, Int.reduceAdd, Int.reduceSub, d1, d2]
    refine Fini.ret' rfl (bo_congr ?_)
    rw [nameB, show decide (s.size ≤ 12) = false from decide_eq_false (by omega), Bool.and_false]; rfl
  have e2 : decide (12 < s.size) = false := by simpa using h2
  rw [e2] at d2
  have z1 : ((0 : Int) < s.size) = True := by simp; omega
  have n1 : decide (1 ≤ s.size) = true := by simp; omega
  have n2 : decide (s.size ≤ 12) = true := by simp; omega
  simp -implicitDefEqProofs only [c51, r51, go_sem, List.reduceReplicate, Nat.reduceAdd, Nat.reduceSub, Nat.reduceLT, Nat.reduceLeDiff, Nat.reduceMul, Nat.reduceEqDiff, reduceCtorEq, Int.reduceLE, Int.reduceLT, Int.reduceEq, Int.reduceNe, Int.reduceBEq, Int.reduceBNe, Int.reduceAdd, Int.reduceSub, d1, d2, z1, byteAt_def, Int.toNat_zero]
  refine CO.intro (letter_ans _ _) ?_
  cases hl : letterB (byteAt s 0) with
  | false =>
    simp -implicitDefEqProofs only [go_sem, List.reduceReplicate, Nat.reduceAdd, Nat.reduceSub, Nat.reduceLT, Nat.reduceLeDiff, Nat.reduceMul, Nat.reduceEqDiff, reduceCtorEq, Int.reduceLE, Int.reduceLT, Int.reduceEq, Int.reduceNe, Int.reduceBEq, Int.reduceBNe, Int.reduceAdd, Int.reduceSub, Int.toNat_zero, hl]
    refine Fini.ret' rfl (bo_congr ?_)
    rw [nameB, hl, Bool.and_false]; rfl
  | true =>
  simp -implicitDefEqProofs only [go_sem, List.reduceReplicate, Nat.reduceAdd, Nat.reduceSub, Nat.reduceLT, Nat.reduceLeDiff, Nat.reduceMul, Nat.reduceEqDiff, reduceCtorEq, Int.reduceLE, Int.reduceLT, Int.reduceEq, Int.reduceNe, Int.reduceBEq, Int.reduceBNe, Int.reduceAdd, Int.reduceSub, Int.toNat_zero, hl]
  refine Go.Ab.L.scan s.size (fun i => letterB (byteAt s i) || digitB (byteAt s i)) (fun i => mkE 41 [(0, Sx s), (19, I s.size), (20, I i)]) (fun _ => σ) ?_ ?_ ?_ rfl
  · intro i hi hp J hJ
    have hlt : ((i : Int) < s.size) = True := by simp; omega
    have hin := wrap_nat (n := i) (by omega)
    have f1 : decide ((byteAt s i : Int) < 48) = decide (byteAt s i < 48) := decN _ 48
    have f2 : decide ((57 : Int) < byteAt s i) = decide (57 < byteAt s i) := decN 57 _
    simp -implicitDefEqProofs only [mkE, List.foldl_cons, List.foldl_nil, go_sem, List.reduceReplicate, Nat.reduceAdd, Nat.reduceSub, Nat.reduceLT, Nat.reduceLeDiff, Nat.reduceMul, Nat.reduceEqDiff, reduceCtorEq, Int.reduceLE, Int.reduceLT, Int.reduceEq, Int.reduceNe, Int.reduceBEq, Int.reduceBNe, Int.reduceAdd, Int.reduceSub, hlt, byteAt_def]
    refine CO.intro (letter_ans _ _) ?_
    have hd : digitB (byteAt s i) = !(decide (byteAt s i < 48) || decide (57 < byteAt s i)) := by
      unfold digitB
      rw [Bool.eq_iff_iff]; simp
    rw [hd] at hJ
    cases h3 : letterB (byteAt s i) with
    | true =>
      rw [h3] at hJ
      simp -implicitDefEqProofs only [go_sem, List.reduceReplicate, Nat.reduceAdd, Nat.reduceSub, Nat.reduceLT, Nat.reduceLeDiff, Nat.reduceMul, Nat.reduceEqDiff, reduceCtorEq, Int.reduceLE, Int.reduceLT, Int.reduceEq, Int.reduceNe, Int.reduceBEq, Int.reduceBNe, Int.reduceAdd, Int.reduceSub, hin]
      exact hJ rfl
    | false =>
      rw [h3] at hJ
      simp -implicitDefEqProofs only [go_sem, List.reduceReplicate, Nat.reduceAdd, Nat.reduceSub, Nat.reduceLT, Nat.reduceLeDiff, Nat.reduceMul, Nat.reduceEqDiff, reduceCtorEq, Int.reduceLE, Int.reduceLT, Int.reduceEq, Int.reduceNe, Int.reduceBEq, Int.reduceBNe, Int.reduceAdd, Int.reduceSub, hlt, byteAt_def]
      cases h4 : decide (byteAt s i < 48) <;> rw [h4] at f1 hJ
      · cases h5 : decide (57 < byteAt s i) <;> rw [h5] at f2 hJ
        · simp -implicitDefEqProofs only [go_sem, List.reduceReplicate, Nat.reduceAdd, Nat.reduceSub, Nat.reduceLT, Nat.reduceLeDiff, Nat.reduceMul, Nat.reduceEqDiff, reduceCtorEq, Int.reduceLE, Int.reduceLT, Int.reduceEq, Int.reduceNe, Int.reduceBEq, Int.reduceBNe, Int.reduceAdd, Int.reduceSub, f1, f2, hlt, byteAt_def, hin]
          exact hJ rfl
        · simp -implicitDefEqProofs only [go_sem, List.reduceReplicate, Nat.reduceAdd, Nat.reduceSub, Nat.reduceLT, Nat.reduceLeDiff, Nat.reduceMul, Nat.reduceEqDiff, reduceCtorEq, Int.reduceLE, Int.reduceLT, Int.reduceEq, Int.reduceNe, Int.reduceBEq, Int.reduceBNe, Int.reduceAdd, Int.reduceSub, f1, f2, hlt, byteAt_def]
          refine Fini.ret' rfl (bo_congr ?_)
          rw [nameB, List.all_eq_false.2 ⟨i, List.mem_range.2 hi, by simp [h3, hd, h4, h5]⟩, Bool.and_false]
      · simp -implicitDefEqProofs only [go_sem, List.reduceReplicate, Nat.reduceAdd, Nat.reduceSub, Nat.reduceLT, Nat.reduceLeDiff, Nat.reduceMul, Nat.reduceEqDiff, reduceCtorEq, Int.reduceLE, Int.reduceLT, Int.reduceEq, Int.reduceNe, Int.reduceBEq, Int.reduceBNe, Int.reduceAdd, Int.reduceSub, f1, hlt, byteAt_def]
        refine Fini.ret' rfl (bo_congr ?_)
        rw [nameB, List.all_eq_false.2 ⟨i, List.mem_range.2 hi, by simp [h3, hd, h4]⟩, Bool.and_false]
  · intro hp J
    have hlt : ((s.size : Int) < s.size) = False := by simp
    simp -implicitDefEqProofs only [mkE, List.foldl_cons, List.foldl_nil, go_sem, List.reduceReplicate, Nat.reduceAdd, Nat.reduceSub, Nat.reduceLT, Nat.reduceLeDiff, Nat.reduceMul, Nat.reduceEqDiff, reduceCtorEq, Int.reduceLE, Int.reduceLT, Int.reduceEq, Int.reduceNe, Int.reduceBEq, Int.reduceBNe, Int.reduceAdd, Int.reduceSub, hlt]
    refine Fini.ret' rfl (bo_congr ?_)
    rw [nameB, n1, n2, hl, List.all_eq_true.2 fun i hi => hp i (List.mem_range.1 hi)]; rfl
  · rfl
end Go.Proofs.Ytoadgajhkhejiaa

set_option linter.unusedSimpArgs false
set_option linter.unusedVariables false
namespace Go.Proofs.Ytoadgajhkhejiaa
open Go Go.Ab
set_option maxRecDepth 100000

def likeB (k : Int) : Bool := k == 3 || k == 4
/-- The program of a pattern, or none. -/
def progO (v : ByteArray) : Option (List Stp) := if (pparse v).2 then (pparse v).1.made else none
def isB (k : Int) (nm v : ByteArray) : Bool := nameB nm && (if likeB k then (pparse v).2 else (k == 1 || k == 2) && decide (v.size ≤ 24))
def largeB (k : Int) (nm v : ByteArray) : Bool := likeB k && isB k nm v && (progO v).isNone
def holdsB (k : Int) (nm v w : ByteArray) : Bool := isB k nm v && (if k == 1 then w.toList == v.toList else if k == 2 then !(w.toList == v.toList) else
  match progO v with
  | some l => pmatch l w == (k == 3)
  | none => false)

theorem like_any (σ : St) (k : Int) (nm v : ByteArray) : Ans Try.prog 52 [mat k nm v] σ (Bo (likeB k)) σ := by
  refine Ans.of_run t52 ?_
  simp -implicitDefEqProofs only [c52, r52, go_sem, List.reduceReplicate, Nat.reduceAdd, Nat.reduceSub, Nat.reduceLT, Nat.reduceLeDiff, Nat.reduceMul, Nat.reduceEqDiff, reduceCtorEq, Int.reduceLE, Int.reduceLT, Int.reduceEq, Int.reduceNe, Int.reduceBEq, Int.reduceBNe, Int.reduceAdd, Int.reduceSub]
  unfold likeB
  cases h : k == 3
  · simp -implicitDefEqProofs only [go_sem, List.reduceReplicate, Nat.reduceAdd, Nat.reduceSub, Nat.reduceLT, Nat.reduceLeDiff, Nat.reduceMul, Nat.reduceEqDiff, reduceCtorEq, Int.reduceLE, Int.reduceLT, Int.reduceEq, Int.reduceNe, Int.reduceBEq, Int.reduceBNe, Int.reduceAdd, Int.reduceSub]
    exact Fini.ret rfl
  · simp -implicitDefEqProofs only [go_sem, List.reduceReplicate, Nat.reduceAdd, Nat.reduceSub, Nat.reduceLT, Nat.reduceLeDiff, Nat.reduceMul, Nat.reduceEqDiff, reduceCtorEq, Int.reduceLE, Int.reduceLT, Int.reduceEq, Int.reduceNe, Int.reduceBEq, Int.reduceBNe, Int.reduceAdd, Int.reduceSub]
    exact Fini.ret rfl

theorem is_any (σ : St) (k : Int) (nm v : ByteArray) : Ans Try.prog 16 [mat k nm v] σ (Bo (isB k nm v)) σ := by
  refine Ans.of_run t16 ?_
  unfold isB
  simp -implicitDefEqProofs only [c16, r16, go_sem, List.reduceReplicate, Nat.reduceAdd, Nat.reduceSub, Nat.reduceLT, Nat.reduceLeDiff, Nat.reduceMul, Nat.reduceEqDiff, reduceCtorEq, Int.reduceLE, Int.reduceLT, Int.reduceEq, Int.reduceNe, Int.reduceBEq, Int.reduceBNe, Int.reduceAdd, Int.reduceSub]
  refine CO.intro (name_ans' σ nm) ?_
  cases hn : nameB nm with
  | false =>
    simp -implicitDefEqProofs only [go_sem, List.reduceReplicate, Nat.reduceAdd, Nat.reduceSub, Nat.reduceLT, Nat.reduceLeDiff, Nat.reduceMul, Nat.reduceEqDiff, reduceCtorEq, Int.reduceLE, Int.reduceLT, Int.reduceEq, Int.reduceNe, Int.reduceBEq, Int.reduceBNe, Int.reduceAdd, Int.reduceSub]
    exact Fini.ret rfl
  | true =>
  simp -implicitDefEqProofs only [go_sem, List.reduceReplicate, Nat.reduceAdd, Nat.reduceSub, Nat.reduceLT, Nat.reduceLeDiff, Nat.reduceMul, Nat.reduceEqDiff, reduceCtorEq, Int.reduceLE, Int.reduceLT, Int.reduceEq, Int.reduceNe, Int.reduceBEq, Int.reduceBNe, Int.reduceAdd, Int.reduceSub]
  refine CO.intro (like_any σ k nm v) ?_
  cases hk : likeB k with
  | true =>
    simp -implicitDefEqProofs only [go_sem, List.reduceReplicate, Nat.reduceAdd, Nat.reduceSub, Nat.reduceLT, Nat.reduceLeDiff, Nat.reduceMul, Nat.reduceEqDiff, reduceCtorEq, Int.reduceLE, Int.reduceLT, Int.reduceEq, Int.reduceNe, Int.reduceBEq, Int.reduceBNe, Int.reduceAdd, Int.reduceSub]
    refine CO.intro (parse_ans v σ) ?_
    have hrv := Rex.rv_eq (pparse v).1
    generalize (pparse v).1 = x at hrv ⊢
    generalize (pparse v).2 = b
    rw [hrv]
    rcases Rex.rvK_cases x.ks with e | ⟨l, e⟩ <;> rw [e]
    all_goals (simp -implicitDefEqProofs only [go_sem, List.reduceReplicate, Nat.reduceAdd, Nat.reduceSub, Nat.reduceLT, Nat.reduceLeDiff, Nat.reduceMul, Nat.reduceEqDiff, reduceCtorEq, Int.reduceLE, Int.reduceLT, Int.reduceEq, Int.reduceNe, Int.reduceBEq, Int.reduceBNe, Int.reduceAdd, Int.reduceSub]; exact Fini.ret rfl)
  | false =>
    have d : decide ((v.size : Int) ≤ 24) = decide (v.size ≤ 24) := int_le v.size 24
    simp -implicitDefEqProofs only [go_sem, List.reduceReplicate, Nat.reduceAdd, Nat.reduceSub, Nat.reduceLT, Nat.reduceLeDiff, Nat.reduceMul, Nat.reduceEqDiff, reduceCtorEq, Int.reduceLE, Int.reduceLT, Int.reduceEq, Int.reduceNe, Int.reduceBEq, Int.reduceBNe, Int.reduceAdd, Int.reduceSub]
    cases h1 : k == 1 with
    | true =>
      simp -implicitDefEqProofs only [go_sem, List.reduceReplicate, Nat.reduceAdd, Nat.reduceSub, Nat.reduceLT, Nat.reduceLeDiff, Nat.reduceMul, Nat.reduceEqDiff, reduceCtorEq, Int.reduceLE, Int.reduceLT, Int.reduceEq, Int.reduceNe, Int.reduceBEq, Int.reduceBNe, Int.reduceAdd, Int.reduceSub, d]
      exact Fini.ret rfl
    | false =>
      simp -implicitDefEqProofs only [go_sem, List.reduceReplicate, Nat.reduceAdd, Nat.reduceSub, Nat.reduceLT, Nat.reduceLeDiff, Nat.reduceMul, Nat.reduceEqDiff, reduceCtorEq, Int.reduceLE, Int.reduceLT, Int.reduceEq, Int.reduceNe, Int.reduceBEq, Int.reduceBNe, Int.reduceAdd, Int.reduceSub]
      cases h2 : k == 2 with
      | true =>
        simp -implicitDefEqProofs only [go_sem, List.reduceReplicate, Nat.reduceAdd, Nat.reduceSub, Nat.reduceLT, Nat.reduceLeDiff, Nat.reduceMul, Nat.reduceEqDiff, reduceCtorEq, Int.reduceLE, Int.reduceLT, Int.reduceEq, Int.reduceNe, Int.reduceBEq, Int.reduceBNe, Int.reduceAdd, Int.reduceSub, d]
        exact Fini.ret rfl
      | false =>
        simp -implicitDefEqProofs only [go_sem, List.reduceReplicate, Nat.reduceAdd, Nat.reduceSub, Nat.reduceLT, Nat.reduceLeDiff, Nat.reduceMul, Nat.reduceEqDiff, reduceCtorEq, Int.reduceLE, Int.reduceLT, Int.reduceEq, Int.reduceNe, Int.reduceBEq, Int.reduceBNe, Int.reduceAdd, Int.reduceSub]
        exact Fini.ret rfl

theorem bel_madeV (n : Nat) (o : Option (List Stp)) : Bel n (madeV o) := by
  cases o with
  | some l => exact bel_res n l
  | none =>
    have : ∀ y ∈ [AV.nils, Bo false], Bel n y := by
      intro y hy
      simp only [List.mem_cons, List.not_mem_nil, or_false] at hy
      rcases hy with rfl | rfl
      · exact .nils
      · exact .pl _
    exact .tup _ fun i hi => this _ (List.getElem_mem hi)

theorem program_any (σ : St) (k : Int) (nm v : ByteArray) : Ans Try.prog 49 [mat k nm v] σ (madeV (progO v)) σ := by
  refine Ans.of_run t49 ?_
  unfold progO
  simp -implicitDefEqProofs only [c49, r49, go_sem, List.reduceReplicate, Nat.reduceAdd, Nat.reduceSub, Nat.reduceLT, Nat.reduceLeDiff, Nat.reduceMul, Nat.reduceEqDiff, reduceCtorEq, Int.reduceLE, Int.reduceLT, Int.reduceEq, Int.reduceNe, Int.reduceBEq, Int.reduceBNe, Int.reduceAdd, Int.reduceSub]
  refine CO.intro (parse_ans v σ) ?_
  have hrv := Rex.rv_eq (pparse v).1
  have hno := pparse_nodes v
  generalize (pparse v).1 = x at hrv hno ⊢
  cases (pparse v).2 with
  | false =>
    rw [hrv]
    rcases Rex.rvK_cases x.ks with e | ⟨l, e⟩ <;> rw [e]
    all_goals (simp -implicitDefEqProofs only [go_sem, List.reduceReplicate, Nat.reduceAdd, Nat.reduceSub, Nat.reduceLT, Nat.reduceLeDiff, Nat.reduceMul, Nat.reduceEqDiff, reduceCtorEq, Int.reduceLE, Int.reduceLT, Int.reduceEq, Int.reduceNe, Int.reduceBEq, Int.reduceBNe, Int.reduceAdd, Int.reduceSub]; exact Fini.ret rfl)
  | true =>
    have hm : Ans Try.prog 90 [x.rv] σ (madeV x.made) σ := Ans.sub (make_ans σ x (by omega))
    rw [hrv] at hm ⊢
    rcases Rex.rvK_cases x.ks with e | ⟨l, e⟩ <;> rw [e] at hm ⊢
    all_goals
      simp -implicitDefEqProofs only [go_sem, List.reduceReplicate, Nat.reduceAdd, Nat.reduceSub, Nat.reduceLT, Nat.reduceLeDiff, Nat.reduceMul, Nat.reduceEqDiff, reduceCtorEq, Int.reduceLE, Int.reduceLT, Int.reduceEq, Int.reduceNe, Int.reduceBEq, Int.reduceBNe, Int.reduceAdd, Int.reduceSub]
      refine CO.intro hm ?_
      cases x.made with
      | none =>
        simp -implicitDefEqProofs only [go_sem, List.reduceReplicate, Nat.reduceAdd, Nat.reduceSub, Nat.reduceLT, Nat.reduceLeDiff, Nat.reduceMul, Nat.reduceEqDiff, reduceCtorEq, Int.reduceLE, Int.reduceLT, Int.reduceEq, Int.reduceNe, Int.reduceBEq, Int.reduceBNe, Int.reduceAdd, Int.reduceSub, madeV]
        exact Fini.ret rfl
      | some l =>
        simp -implicitDefEqProofs only [go_sem, List.reduceReplicate, Nat.reduceAdd, Nat.reduceSub, Nat.reduceLT, Nat.reduceLeDiff, Nat.reduceMul, Nat.reduceEqDiff, reduceCtorEq, Int.reduceLE, Int.reduceLT, Int.reduceEq, Int.reduceNe, Int.reduceBEq, Int.reduceBNe, Int.reduceAdd, Int.reduceSub, madeV]
        exact Fini.ret rfl

theorem large_any (σ : St) (k : Int) (nm v : ByteArray) : Ans Try.prog 18 [mat k nm v] σ (Bo (largeB k nm v)) σ := by
  refine Ans.of_run t18 ?_
  unfold largeB
  simp -implicitDefEqProofs only [c18, r18, go_sem, List.reduceReplicate, Nat.reduceAdd, Nat.reduceSub, Nat.reduceLT, Nat.reduceLeDiff, Nat.reduceMul, Nat.reduceEqDiff, reduceCtorEq, Int.reduceLE, Int.reduceLT, Int.reduceEq, Int.reduceNe, Int.reduceBEq, Int.reduceBNe, Int.reduceAdd, Int.reduceSub]
  refine CO.intro (like_any σ k nm v) ?_
  cases hk : likeB k with
  | false =>
    simp -implicitDefEqProofs only [go_sem, List.reduceReplicate, Nat.reduceAdd, Nat.reduceSub, Nat.reduceLT, Nat.reduceLeDiff, Nat.reduceMul, Nat.reduceEqDiff, reduceCtorEq, Int.reduceLE, Int.reduceLT, Int.reduceEq, Int.reduceNe, Int.reduceBEq, Int.reduceBNe, Int.reduceAdd, Int.reduceSub]
    exact Fini.ret rfl
  | true =>
  simp -implicitDefEqProofs only [go_sem, List.reduceReplicate, Nat.reduceAdd, Nat.reduceSub, Nat.reduceLT, Nat.reduceLeDiff, Nat.reduceMul, Nat.reduceEqDiff, reduceCtorEq, Int.reduceLE, Int.reduceLT, Int.reduceEq, Int.reduceNe, Int.reduceBEq, Int.reduceBNe, Int.reduceAdd, Int.reduceSub]
  refine CO.intro (is_any σ k nm v) ?_
  cases hi : isB k nm v with
  | false =>
    simp -implicitDefEqProofs only [go_sem, List.reduceReplicate, Nat.reduceAdd, Nat.reduceSub, Nat.reduceLT, Nat.reduceLeDiff, Nat.reduceMul, Nat.reduceEqDiff, reduceCtorEq, Int.reduceLE, Int.reduceLT, Int.reduceEq, Int.reduceNe, Int.reduceBEq, Int.reduceBNe, Int.reduceAdd, Int.reduceSub]
    exact Fini.ret rfl
  | true =>
  simp -implicitDefEqProofs only [go_sem, List.reduceReplicate, Nat.reduceAdd, Nat.reduceSub, Nat.reduceLT, Nat.reduceLeDiff, Nat.reduceMul, Nat.reduceEqDiff, reduceCtorEq, Int.reduceLE, Int.reduceLT, Int.reduceEq, Int.reduceNe, Int.reduceBEq, Int.reduceBNe, Int.reduceAdd, Int.reduceSub]
  refine CO.intro (program_any σ k nm v) ?_
  cases progO v with
  | none =>
    simp -implicitDefEqProofs only [go_sem, List.reduceReplicate, Nat.reduceAdd, Nat.reduceSub, Nat.reduceLT, Nat.reduceLeDiff, Nat.reduceMul, Nat.reduceEqDiff, reduceCtorEq, Int.reduceLE, Int.reduceLT, Int.reduceEq, Int.reduceNe, Int.reduceBEq, Int.reduceBNe, Int.reduceAdd, Int.reduceSub, madeV]
    exact Fini.ret rfl
  | some l =>
    simp -implicitDefEqProofs only [go_sem, List.reduceReplicate, Nat.reduceAdd, Nat.reduceSub, Nat.reduceLT, Nat.reduceLeDiff, Nat.reduceMul, Nat.reduceEqDiff, reduceCtorEq, Int.reduceLE, Int.reduceLT, Int.reduceEq, Int.reduceNe, Int.reduceBEq, Int.reduceBNe, Int.reduceAdd, Int.reduceSub, madeV]
    exact Fini.ret rfl

theorem holds_any (σ : St) (k : Int) (nm v : ByteArray) (x : AV) (w : ByteArray) (hg : ∀ σ, Ans Try.prog 48 [x, Sx nm] σ (Sx w) σ) (hw : w.size ≤ 100000) : Ans Try.prog 15 [mat k nm v, x] σ (Bo (holdsB k nm v w)) σ := by
  refine Ans.of_run t15 ?_
  unfold holdsB
  simp -implicitDefEqProofs only [c15, r15, go_sem, List.reduceReplicate, Nat.reduceAdd, Nat.reduceSub, Nat.reduceLT, Nat.reduceLeDiff, Nat.reduceMul, Nat.reduceEqDiff, reduceCtorEq, Int.reduceLE, Int.reduceLT, Int.reduceEq, Int.reduceNe, Int.reduceBEq, Int.reduceBNe, Int.reduceAdd, Int.reduceSub]
  refine CO.intro (is_any σ k nm v) ?_
  cases hi : isB k nm v with
  | false =>
    simp -implicitDefEqProofs only [go_sem, List.reduceReplicate, Nat.reduceAdd, Nat.reduceSub, Nat.reduceLT, Nat.reduceLeDiff, Nat.reduceMul, Nat.reduceEqDiff, reduceCtorEq, Int.reduceLE, Int.reduceLT, Int.reduceEq, Int.reduceNe, Int.reduceBEq, Int.reduceBNe, Int.reduceAdd, Int.reduceSub]
    exact Fini.ret rfl
  | true =>
  simp -implicitDefEqProofs only [go_sem, List.reduceReplicate, Nat.reduceAdd, Nat.reduceSub, Nat.reduceLT, Nat.reduceLeDiff, Nat.reduceMul, Nat.reduceEqDiff, reduceCtorEq, Int.reduceLE, Int.reduceLT, Int.reduceEq, Int.reduceNe, Int.reduceBEq, Int.reduceBNe, Int.reduceAdd, Int.reduceSub]
  refine CO.intro (hg σ) ?_
  simp -implicitDefEqProofs only [go_sem, List.reduceReplicate, Nat.reduceAdd, Nat.reduceSub, Nat.reduceLT, Nat.reduceLeDiff, Nat.reduceMul, Nat.reduceEqDiff, reduceCtorEq, Int.reduceLE, Int.reduceLT, Int.reduceEq, Int.reduceNe, Int.reduceBEq, Int.reduceBNe, Int.reduceAdd, Int.reduceSub]
  cases h1 : k == 1 with
  | true =>
    simp -implicitDefEqProofs only [go_sem, List.reduceReplicate, Nat.reduceAdd, Nat.reduceSub, Nat.reduceLT, Nat.reduceLeDiff, Nat.reduceMul, Nat.reduceEqDiff, reduceCtorEq, Int.reduceLE, Int.reduceLT, Int.reduceEq, Int.reduceNe, Int.reduceBEq, Int.reduceBNe, Int.reduceAdd, Int.reduceSub]
    exact Fini.ret rfl
  | false =>
  simp -implicitDefEqProofs only [go_sem, List.reduceReplicate, Nat.reduceAdd, Nat.reduceSub, Nat.reduceLT, Nat.reduceLeDiff, Nat.reduceMul, Nat.reduceEqDiff, reduceCtorEq, Int.reduceLE, Int.reduceLT, Int.reduceEq, Int.reduceNe, Int.reduceBEq, Int.reduceBNe, Int.reduceAdd, Int.reduceSub]
  cases h2 : k == 2 with
  | true =>
    simp -implicitDefEqProofs only [go_sem, List.reduceReplicate, Nat.reduceAdd, Nat.reduceSub, Nat.reduceLT, Nat.reduceLeDiff, Nat.reduceMul, Nat.reduceEqDiff, reduceCtorEq, Int.reduceLE, Int.reduceLT, Int.reduceEq, Int.reduceNe, Int.reduceBEq, Int.reduceBNe, Int.reduceAdd, Int.reduceSub]
    exact Fini.ret rfl
  | false =>
  simp -implicitDefEqProofs only [go_sem, List.reduceReplicate, Nat.reduceAdd, Nat.reduceSub, Nat.reduceLT, Nat.reduceLeDiff, Nat.reduceMul, Nat.reduceEqDiff, reduceCtorEq, Int.reduceLE, Int.reduceLT, Int.reduceEq, Int.reduceNe, Int.reduceBEq, Int.reduceBNe, Int.reduceAdd, Int.reduceSub]
  refine CO.intro (program_any σ k nm v) ?_
  cases progO v with
  | none =>
    simp -implicitDefEqProofs only [go_sem, List.reduceReplicate, Nat.reduceAdd, Nat.reduceSub, Nat.reduceLT, Nat.reduceLeDiff, Nat.reduceMul, Nat.reduceEqDiff, reduceCtorEq, Int.reduceLE, Int.reduceLT, Int.reduceEq, Int.reduceNe, Int.reduceBEq, Int.reduceBNe, Int.reduceAdd, Int.reduceSub, madeV]
    exact Fini.ret rfl
  | some l =>
    simp -implicitDefEqProofs only [go_sem, List.reduceReplicate, Nat.reduceAdd, Nat.reduceSub, Nat.reduceLT, Nat.reduceLeDiff, Nat.reduceMul, Nat.reduceEqDiff, reduceCtorEq, Int.reduceLE, Int.reduceLT, Int.reduceEq, Int.reduceNe, Int.reduceBEq, Int.reduceBNe, Int.reduceAdd, Int.reduceSub, madeV]
    refine CD.intro (match_ans l _ (.inr rfl) w hw σ) ?_
    simp -implicitDefEqProofs only [go_sem, List.reduceReplicate, Nat.reduceAdd, Nat.reduceSub, Nat.reduceLT, Nat.reduceLeDiff, Nat.reduceMul, Nat.reduceEqDiff, reduceCtorEq, Int.reduceLE, Int.reduceLT, Int.reduceEq, Int.reduceNe, Int.reduceBEq, Int.reduceBNe, Int.reduceAdd, Int.reduceSub]
    exact Fini.ret rfl
end Go.Proofs.Ytoadgajhkhejiaa

set_option linter.unusedSimpArgs false
set_option linter.unusedVariables false
namespace Go.Proofs.Ytoadgajhkhejiaa
open Go Go.Ab
set_option maxRecDepth 100000

abbrev Mtr := Int × ByteArray × ByteArray
def mv3 (x : Mtr) : AV := mat x.1 x.2.1 x.2.2
def mvs3 (L : List Mtr) : List AV := L.map mv3
def labP (x : Lab) : Nat × Nat := (x.1.size, x.2.size)
def matP (x : Mtr) : Nat × Nat := (x.2.1.size, x.2.2.size)
def weighL : List (Nat × Nat) → Nat → Nat
  | [], n => min n 301
  | (a, b) :: l, n => if n ≤ 300 then if 300 < a ∨ 300 < b then 301 else weighL l (n + 1 + a + b) else 301
theorem weighL_len : ∀ (l : List (Nat × Nat)) (n : Nat), weighL l n ≤ 300 → n + l.length ≤ 300 ∧ ∀ x ∈ l, x.1 ≤ 300 ∧ x.2 ≤ 300
  | [], n, h => by
    simp only [weighL] at h
    refine ⟨by simp; omega, by simp⟩
  | (a, b) :: l, n, h => by
    simp only [weighL] at h
    split at h
    · split at h
      · omega
      · have := weighL_len l _ h
        refine ⟨by simp; omega, fun x hx => ?_⟩
        rcases List.mem_cons.1 hx with rfl | hx
        · simp only; omega
        · exact this.2 x hx
    · omega
theorem weigh_labs_ans (σ : St) (L : List Lab) : Ans Try.prog 47 [.sl 2 (lvs L), I 300] σ (I (weighL (L.map labP) 0 : Nat)) σ := by
  refine Ans.of_run t47 ?_
  have hlen : ((lvs L)).length = L.length := by simp [lvs]
  simp -implicitDefEqProofs only [c47, r47, go_sem, List.reduceReplicate, Nat.reduceAdd, Nat.reduceSub, Nat.reduceLT, Nat.reduceLeDiff, Nat.reduceMul, Nat.reduceEqDiff, reduceCtorEq, Int.reduceLE, Int.reduceLT, Int.reduceEq, Int.reduceNe, Int.reduceBEq, Int.reduceBNe, Int.reduceAdd, Int.reduceSub]
  generalize hres : weighL (L.map labP) 0 = res
  refine Go.Ab.L.intro (α := { x : Nat × Nat // x.1 ≤ L.length ∧ weighL ((L.drop x.1).map labP) x.2 = res ∧ x.2 ≤ 1000 ∧ x.1 ≤ x.2 })
    (fun x => L.length - x.1.1)
    (fun x => mkE 58 [(0, .sl 2 (lvs L)), (1, I 300), (5, I x.1.2), (6, I x.1.1)])
    (fun x => σ)
    (fun x J hJ => ?_) ⟨(0, 0), Nat.zero_le _, hres, by omega, Nat.le_refl _⟩ ?_ rfl
  · obtain ⟨⟨i, n⟩, h1, h2, h3, h4⟩ := x
    simp only at h1 h2 h3 hJ ⊢
    have d2 : decide ((n : Int) ≤ 300) = decide (n ≤ 300) := int_le n 300
    by_cases hi : i < L.length
    · have d1 : decide ((i : Int) < L.length) = true := by simp; omega
      have d1' : ((i : Int) < L.length) = True := by simp; omega
      have hget : ((lvs L))[i]? = some (lv L[i]) := by simp [lvs, hi]
      rw [List.drop_eq_getElem_cons hi, List.map_cons] at h2
      have hJ' := hJ
      generalize L[i] = y at h2 hget
      obtain ⟨nm, v⟩ := y
      simp only [lv] at hget
      simp only [labP] at h2
      rw [weighL] at h2
      by_cases hn : n ≤ 300
      · rw [if_pos hn] at h2
        have e2 : decide (n ≤ 300) = true := by simpa using hn
        rw [e2] at d2
        have d3 : decide ((300 : Int) < nm.size) = decide (300 < nm.size) := decN 300 _
        have d4 : decide ((300 : Int) < v.size) = decide (300 < v.size) := decN 300 _
        have w0 : IntKind.i64.wrap (300 + 1) = 301 := by decide
        by_cases ha : 300 < nm.size
        · rw [if_pos (.inl ha)] at h2
          rw [decide_eq_true ha] at d3
          simp -implicitDefEqProofs only [mkE, List.foldl_cons, List.foldl_nil, go_sem, List.reduceReplicate, Nat.reduceAdd, Nat.reduceSub, Nat.reduceLT, Nat.reduceLeDiff, Nat.reduceMul, Nat.reduceEqDiff, reduceCtorEq, Int.reduceLE, Int.reduceLT, Int.reduceEq, Int.reduceNe, Int.reduceBEq, Int.reduceBNe, Int.reduceAdd, Int.reduceSub, hlen, d1, d1', d2, d3, hget, w0]
          subst h2
          exact Fini.ret rfl
        · rw [decide_eq_false ha] at d3
          by_cases hb : 300 < v.size
          · rw [if_pos (.inr hb)] at h2
            rw [decide_eq_true hb] at d4
            simp -implicitDefEqProofs only [mkE, List.foldl_cons, List.foldl_nil, go_sem, List.reduceReplicate, Nat.reduceAdd, Nat.reduceSub, Nat.reduceLT, Nat.reduceLeDiff, Nat.reduceMul, Nat.reduceEqDiff, reduceCtorEq, Int.reduceLE, Int.reduceLT, Int.reduceEq, Int.reduceNe, Int.reduceBEq, Int.reduceBNe, Int.reduceAdd, Int.reduceSub, hlen, d1, d1', d2, d3, d4, hget, w0]
            subst h2
            exact Fini.ret rfl
          · rw [if_neg (by omega)] at h2
            rw [decide_eq_false hb] at d4
            have a1 : IntKind.i64.wrap ((n : Int) + 1) = ((n + 1 : Nat) : Int) := wrap_nat (by omega)
            have a2 : IntKind.i64.wrap (((n + 1 : Nat) : Int) + (nm.size : Nat)) = ((n + 1 + nm.size : Nat) : Int) := by rw [wrapN (by omega) (by omega)]; omega
            have a3 : IntKind.i64.wrap (((n + 1 + nm.size : Nat) : Int) + (v.size : Nat)) = ((n + 1 + nm.size + v.size : Nat) : Int) := by rw [wrapN (by omega) (by omega)]; omega
            have a4 : IntKind.i64.wrap ((i : Int) + 1) = ((i + 1 : Nat) : Int) := wrap_nat (by omega)
            simp -implicitDefEqProofs only [mkE, List.foldl_cons, List.foldl_nil, go_sem, List.reduceReplicate, Nat.reduceAdd, Nat.reduceSub, Nat.reduceLT, Nat.reduceLeDiff, Nat.reduceMul, Nat.reduceEqDiff, reduceCtorEq, Int.reduceLE, Int.reduceLT, Int.reduceEq, Int.reduceNe, Int.reduceBEq, Int.reduceBNe, Int.reduceAdd, Int.reduceSub, hlen, d1, d1', d2, d3, d4, hget, a1, a2, a3, a4]
            exact hJ' ⟨(i + 1, n + 1 + nm.size + v.size), by omega, h2, by omega, by simp only; omega⟩ (by simp only; omega)
      · rw [if_neg hn] at h2
        rw [decide_eq_false hn] at d2
        have w0 : IntKind.i64.wrap (300 + 1) = 301 := by decide
        simp -implicitDefEqProofs only [mkE, List.foldl_cons, List.foldl_nil, go_sem, List.reduceReplicate, Nat.reduceAdd, Nat.reduceSub, Nat.reduceLT, Nat.reduceLeDiff, Nat.reduceMul, Nat.reduceEqDiff, reduceCtorEq, Int.reduceLE, Int.reduceLT, Int.reduceEq, Int.reduceNe, Int.reduceBEq, Int.reduceBNe, Int.reduceAdd, Int.reduceSub, hlen, d1, d1', d2, hget, w0]
        refine Fini.ret' rfl (int_congr ?_)
        rw [show IntKind.i64.wrap 301 = 301 by decide]
        split <;> omega
    · have d1 : decide ((i : Int) < L.length) = false := by simp; omega
      have d1' : ((i : Int) < L.length) = False := by simp; omega
      have w0 : IntKind.i64.wrap (300 + 1) = 301 := by decide
      simp -implicitDefEqProofs only [mkE, List.foldl_cons, List.foldl_nil, go_sem, List.reduceReplicate, Nat.reduceAdd, Nat.reduceSub, Nat.reduceLT, Nat.reduceLeDiff, Nat.reduceMul, Nat.reduceEqDiff, reduceCtorEq, Int.reduceLE, Int.reduceLT, Int.reduceEq, Int.reduceNe, Int.reduceBEq, Int.reduceBNe, Int.reduceAdd, Int.reduceSub, hlen, d1, d1', w0]
      refine Fini.ret' rfl (int_congr ?_)
      have he : L.drop i = [] := List.drop_eq_nil_iff.2 (by omega)
      rw [he, List.map_nil, weighL] at h2
      rw [show IntKind.i64.wrap 301 = 301 by decide]
      split <;> omega
  · rfl
theorem weigh_mats_ans (σ : St) (L : List Mtr) : Ans Try.prog 46 [.sl 3 (mvs3 L), I 300] σ (I (weighL (L.map matP) 0 : Nat)) σ := by
  refine Ans.of_run t46 ?_
  have hlen : ((mvs3 L)).length = L.length := by simp [mvs3]
  simp -implicitDefEqProofs only [c46, r46, go_sem, List.reduceReplicate, Nat.reduceAdd, Nat.reduceSub, Nat.reduceLT, Nat.reduceLeDiff, Nat.reduceMul, Nat.reduceEqDiff, reduceCtorEq, Int.reduceLE, Int.reduceLT, Int.reduceEq, Int.reduceNe, Int.reduceBEq, Int.reduceBNe, Int.reduceAdd, Int.reduceSub]
  generalize hres : weighL (L.map matP) 0 = res
  refine Go.Ab.L.intro (α := { x : Nat × Nat // x.1 ≤ L.length ∧ weighL ((L.drop x.1).map matP) x.2 = res ∧ x.2 ≤ 1000 ∧ x.1 ≤ x.2 })
    (fun x => L.length - x.1.1)
    (fun x => mkE 58 [(0, .sl 3 (mvs3 L)), (1, I 300), (5, I x.1.2), (6, I x.1.1)])
    (fun x => σ)
    (fun x J hJ => ?_) ⟨(0, 0), Nat.zero_le _, hres, by omega, Nat.le_refl _⟩ ?_ rfl
  · obtain ⟨⟨i, n⟩, h1, h2, h3, h4⟩ := x
    simp only at h1 h2 h3 hJ ⊢
    have d2 : decide ((n : Int) ≤ 300) = decide (n ≤ 300) := int_le n 300
    by_cases hi : i < L.length
    · have d1 : decide ((i : Int) < L.length) = true := by simp; omega
      have d1' : ((i : Int) < L.length) = True := by simp; omega
      have hget : ((mvs3 L))[i]? = some (mv3 L[i]) := by simp [mvs3, hi]
      rw [List.drop_eq_getElem_cons hi, List.map_cons] at h2
      have hJ' := hJ
      generalize L[i] = y at h2 hget
      obtain ⟨k, nm, v⟩ := y
      simp only [mv3] at hget
      simp only [matP] at h2
      rw [weighL] at h2
      by_cases hn : n ≤ 300
      · rw [if_pos hn] at h2
        have e2 : decide (n ≤ 300) = true := by simpa using hn
        rw [e2] at d2
        have d3 : decide ((300 : Int) < nm.size) = decide (300 < nm.size) := decN 300 _
        have d4 : decide ((300 : Int) < v.size) = decide (300 < v.size) := decN 300 _
        have w0 : IntKind.i64.wrap (300 + 1) = 301 := by decide
        by_cases ha : 300 < nm.size
        · rw [if_pos (.inl ha)] at h2
          rw [decide_eq_true ha] at d3
          simp -implicitDefEqProofs only [mkE, List.foldl_cons, List.foldl_nil, go_sem, List.reduceReplicate, Nat.reduceAdd, Nat.reduceSub, Nat.reduceLT, Nat.reduceLeDiff, Nat.reduceMul, Nat.reduceEqDiff, reduceCtorEq, Int.reduceLE, Int.reduceLT, Int.reduceEq, Int.reduceNe, Int.reduceBEq, Int.reduceBNe, Int.reduceAdd, Int.reduceSub, hlen, d1, d1', d2, d3, hget, w0]
          subst h2
          exact Fini.ret rfl
        · rw [decide_eq_false ha] at d3
          by_cases hb : 300 < v.size
          · rw [if_pos (.inr hb)] at h2
            rw [decide_eq_true hb] at d4
            simp -implicitDefEqProofs only [mkE, List.foldl_cons, List.foldl_nil, go_sem, List.reduceReplicate, Nat.reduceAdd, Nat.reduceSub, Nat.reduceLT, Nat.reduceLeDiff, Nat.reduceMul, Nat.reduceEqDiff, reduceCtorEq, Int.reduceLE, Int.reduceLT, Int.reduceEq, Int.reduceNe, Int.reduceBEq, Int.reduceBNe, Int.reduceAdd, Int.reduceSub, hlen, d1, d1', d2, d3, d4, hget, w0]
            subst h2
            exact Fini.ret rfl
          · rw [if_neg (by omega)] at h2
            rw [decide_eq_false hb] at d4
            have a1 : IntKind.i64.wrap ((n : Int) + 1) = ((n + 1 : Nat) : Int) := wrap_nat (by omega)
            have a2 : IntKind.i64.wrap (((n + 1 : Nat) : Int) + (nm.size : Nat)) = ((n + 1 + nm.size : Nat) : Int) := by rw [wrapN (by omega) (by omega)]; omega
            have a3 : IntKind.i64.wrap (((n + 1 + nm.size : Nat) : Int) + (v.size : Nat)) = ((n + 1 + nm.size + v.size : Nat) : Int) := by rw [wrapN (by omega) (by omega)]; omega
            have a4 : IntKind.i64.wrap ((i : Int) + 1) = ((i + 1 : Nat) : Int) := wrap_nat (by omega)
            simp -implicitDefEqProofs only [mkE, List.foldl_cons, List.foldl_nil, go_sem, List.reduceReplicate, Nat.reduceAdd, Nat.reduceSub, Nat.reduceLT, Nat.reduceLeDiff, Nat.reduceMul, Nat.reduceEqDiff, reduceCtorEq, Int.reduceLE, Int.reduceLT, Int.reduceEq, Int.reduceNe, Int.reduceBEq, Int.reduceBNe, Int.reduceAdd, Int.reduceSub, hlen, d1, d1', d2, d3, d4, hget, a1, a2, a3, a4]
            exact hJ' ⟨(i + 1, n + 1 + nm.size + v.size), by omega, h2, by omega, by simp only; omega⟩ (by simp only; omega)
      · rw [if_neg hn] at h2
        rw [decide_eq_false hn] at d2
        have w0 : IntKind.i64.wrap (300 + 1) = 301 := by decide
        simp -implicitDefEqProofs only [mkE, List.foldl_cons, List.foldl_nil, go_sem, List.reduceReplicate, Nat.reduceAdd, Nat.reduceSub, Nat.reduceLT, Nat.reduceLeDiff, Nat.reduceMul, Nat.reduceEqDiff, reduceCtorEq, Int.reduceLE, Int.reduceLT, Int.reduceEq, Int.reduceNe, Int.reduceBEq, Int.reduceBNe, Int.reduceAdd, Int.reduceSub, hlen, d1, d1', d2, hget, w0]
        refine Fini.ret' rfl (int_congr ?_)
        rw [show IntKind.i64.wrap 301 = 301 by decide]
        split <;> omega
    · have d1 : decide ((i : Int) < L.length) = false := by simp; omega
      have d1' : ((i : Int) < L.length) = False := by simp; omega
      have w0 : IntKind.i64.wrap (300 + 1) = 301 := by decide
      simp -implicitDefEqProofs only [mkE, List.foldl_cons, List.foldl_nil, go_sem, List.reduceReplicate, Nat.reduceAdd, Nat.reduceSub, Nat.reduceLT, Nat.reduceLeDiff, Nat.reduceMul, Nat.reduceEqDiff, reduceCtorEq, Int.reduceLE, Int.reduceLT, Int.reduceEq, Int.reduceNe, Int.reduceBEq, Int.reduceBNe, Int.reduceAdd, Int.reduceSub, hlen, d1, d1', w0]
      refine Fini.ret' rfl (int_congr ?_)
      have he : L.drop i = [] := List.drop_eq_nil_iff.2 (by omega)
      rw [he, List.map_nil, weighL] at h2
      rw [show IntKind.i64.wrap 301 = 301 by decide]
      split <;> omega
  · rfl

def smallB (M : List Mtr) (L : List Lab) : Bool := decide (weighL (M.map matP) 0 ≤ 300) && decide (weighL (L.map labP) 0 ≤ 300)
theorem small_ans (σ : St) (M : List Mtr) (L : List Lab) : Ans Try.prog 13 [.sl 3 (mvs3 M), .sl 2 (lvs L)] σ (Bo (smallB M L)) σ := by
  refine Ans.of_run t13 ?_
  unfold smallB
  simp -implicitDefEqProofs only [c13, r13, go_sem, List.reduceReplicate, Nat.reduceAdd, Nat.reduceSub, Nat.reduceLT, Nat.reduceLeDiff, Nat.reduceMul, Nat.reduceEqDiff, reduceCtorEq, Int.reduceLE, Int.reduceLT, Int.reduceEq, Int.reduceNe, Int.reduceBEq, Int.reduceBNe, Int.reduceAdd, Int.reduceSub]
  refine CO.intro (weigh_mats_ans σ M) ?_
  have e1 : decide (((weighL (M.map matP) 0 : Nat) : Int) ≤ 300) = decide (weighL (M.map matP) 0 ≤ 300) := int_le _ 300
  have e2 : decide (((weighL (L.map labP) 0 : Nat) : Int) ≤ 300) = decide (weighL (L.map labP) 0 ≤ 300) := int_le _ 300
  cases h1 : decide (weighL (M.map matP) 0 ≤ 300) with
  | false =>
    rw [h1] at e1
    simp -implicitDefEqProofs only [go_sem, List.reduceReplicate, Nat.reduceAdd, Nat.reduceSub, Nat.reduceLT, Nat.reduceLeDiff, Nat.reduceMul, Nat.reduceEqDiff, reduceCtorEq, Int.reduceLE, Int.reduceLT, Int.reduceEq, Int.reduceNe, Int.reduceBEq, Int.reduceBNe, Int.reduceAdd, Int.reduceSub, e1]
    exact Fini.ret rfl
  | true =>
    rw [h1] at e1
    simp -implicitDefEqProofs only [go_sem, List.reduceReplicate, Nat.reduceAdd, Nat.reduceSub, Nat.reduceLT, Nat.reduceLeDiff, Nat.reduceMul, Nat.reduceEqDiff, reduceCtorEq, Int.reduceLE, Int.reduceLT, Int.reduceEq, Int.reduceNe, Int.reduceBEq, Int.reduceBNe, Int.reduceAdd, Int.reduceSub, e1]
    refine CO.intro (weigh_labs_ans σ L) ?_
    simp -implicitDefEqProofs only [go_sem, List.reduceReplicate, Nat.reduceAdd, Nat.reduceSub, Nat.reduceLT, Nat.reduceLeDiff, Nat.reduceMul, Nat.reduceEqDiff, reduceCtorEq, Int.reduceLE, Int.reduceLT, Int.reduceEq, Int.reduceNe, Int.reduceBEq, Int.reduceBNe, Int.reduceAdd, Int.reduceSub, e2]
    exact Fini.ret rfl
end Go.Proofs.Ytoadgajhkhejiaa
