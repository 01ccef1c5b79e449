/- Any matcher: whether it may be, is too large, holds. No condition. -/
import Derived.Test.YtoadgajhkhejiaaTake2
import Derived.Test.YtoadgajhkhejiaaPBnd
set_option linter.unusedSimpArgs false
set_option linter.unusedVariables false
namespace Go.Proofs.Ytoadgajhkhejiaa
open Go Go.Ab
set_option maxRecDepth 100000
def letterB (c : Nat) : Bool := decide (97 ≤ c) && decide (c ≤ 122) || decide (65 ≤ c) && decide (c ≤ 90) || c == 95
def digitB (c : Nat) : Bool := decide (48 ≤ c) && decide (c ≤ 57)
def nameB (s : ByteArray) : Bool := decide (1 ≤ s.size) && decide (s.size ≤ 12) && letterB (byteAt s 0) && (List.range s.size).all fun i => letterB (byteAt s i) || digitB (byteAt s i)
theorem int_le (a b : Nat) : decide ((a : Int) ≤ (b : Int)) = decide (a ≤ b) := by
  rw [Bool.eq_iff_iff]; simp only [decide_eq_true_eq]; omega
theorem letter_ans (σ : St) (c : Nat) : Ans Try.prog 94 [.pl (.int .u8 c)] σ (Bo (letterB c)) σ := by
  have e1 : decide ((97 : Int) ≤ c) = decide (97 ≤ c) := int_le 97 c
  have e2 : decide ((c : Int) ≤ 122) = decide (c ≤ 122) := int_le c 122
  have e3 : decide ((65 : Int) ≤ c) = decide (65 ≤ c) := int_le 65 c
  have e4 : decide ((c : Int) ≤ 90) = decide (c ≤ 90) := int_le c 90
  have e5 : ((c : Int) == 95) = (c == 95) := beq_cast c 95
  have hg : (if (if decide (97 ≤ c) then decide (c ≤ 122) else false) then true else if (if decide (65 ≤ c) then decide (c ≤ 90) else false) then true else (c == 95)) = letterB c := by
    unfold letterB
    cases decide (97 ≤ c) <;> cases decide (c ≤ 122) <;> cases decide (65 ≤ c) <;> cases decide (c ≤ 90) <;> cases (c == 95) <;> rfl
  rw [← hg]
  refine Ans.of_run t94 ?_
  cases h1 : decide (97 ≤ c) <;> cases h2 : decide (c ≤ 122) <;> cases h3 : decide (65 ≤ c) <;> cases h4 : decide (c ≤ 90) <;> rw [h1] at e1 <;> rw [h2] at e2 <;> rw [h3] at e3 <;> rw [h4] at e4
  all_goals (simp -implicitDefEqProofs only [c94, r94, go_sem, List.reduceReplicate, Nat.reduceAdd, Nat.reduceSub, Nat.reduceLT, Nat.reduceLeDiff, Nat.reduceMul, Nat.reduceEqDiff, reduceCtorEq, Int.reduceLE, Int.reduceLT, Int.reduceEq, Int.reduceNe, Int.reduceBEq, Int.reduceBNe, Int.reduceAdd, Int.reduceSub, e1, e2, e3, e4, e5]; exact Fini.ret rfl)
theorem decN (a b : Nat) : decide ((a : Int) < (b : Int)) = decide (a < b) := by
  rw [Bool.eq_iff_iff]; simp only [decide_eq_true_eq]; omega
theorem name_ans' (σ : St) (s : ByteArray) : Ans Try.prog 51 [Sx s] σ (Bo (nameB s)) σ := by
  refine Ans.of_run t51 ?_
  have d1 : decide ((s.size : Int) < 1) = decide (s.size < 1) := decN s.size 1
  have d2 : decide ((12 : Int) < s.size) = decide (12 < s.size) := decN 12 s.size
  by_cases h1 : s.size < 1
  · have e1 : decide (s.size < 1) = true := by simpa using h1
    rw [e1] at d1
    simp -implicitDefEqProofs only [c51, r51, go_sem, List.reduceReplicate, Nat.reduceAdd, Nat.reduceSub, Nat.reduceLT, Nat.reduceLeDiff, Nat.reduceMul, Nat.reduceEqDiff, reduceCtorEq, Int.reduceLE, Int.reduceLT, Int.reduceEq, Int.reduceNe, Int.reduceBEq, Int.reduceBNe, Int.reduceAdd, Int.reduceSub, d1]
    refine Fini.ret' rfl (bo_congr ?_)
    rw [nameB, show decide (1 ≤ s.size) = false from decide_eq_false (by omega)]; rfl
  have e1 : decide (s.size < 1) = false := by simpa using h1
  rw [e1] at d1
  by_cases h2 : 12 < s.size
  · have e2 : decide (12 < s.size) = true := by simpa using h2
    rw [e2] at d2
    simp -implicitDefEqProofs only [c51, r51, go_sem, List.reduceReplicate, Nat.reduceAdd, Nat.reduceSub, Nat.reduceLT, Nat.reduceLeDiff, Nat.reduceMul, Nat.reduceEqDiff, reduceCtorEq, Int.reduceLE, Int.reduceLT, Int.reduceEq, Int.reduceNe, Int.reduceBEq, Int.reduceBNe, Int.reduceAdd, Int.reduceSub, d1, d2]
    refine Fini.ret' rfl (bo_congr ?_)
    rw [nameB, show decide (s.size ≤ 12) = false from decide_eq_false (by omega), Bool.and_false]; rfl
  have e2 : decide (12 < s.size) = false := by simpa using h2
  rw [e2] at d2
  have z1 : ((0 : Int) < s.size) = True := by simp; omega
  have n1 : decide (1 ≤ s.size) = true := by simp; omega
  have n2 : decide (s.size ≤ 12) = true := by simp; omega
  simp -implicitDefEqProofs only [c51, r51, go_sem, List.reduceReplicate, Nat.reduceAdd, Nat.reduceSub, Nat.reduceLT, Nat.reduceLeDiff, Nat.reduceMul, Nat.reduceEqDiff, reduceCtorEq, Int.reduceLE, Int.reduceLT, Int.reduceEq, Int.reduceNe, Int.reduceBEq, Int.reduceBNe, Int.reduceAdd, Int.reduceSub, d1, d2, z1, byteAt_def, Int.toNat_zero]
  refine CO.intro (letter_ans _ _) ?_
  cases hl : letterB (byteAt s 0) with
  | false =>
    simp -implicitDefEqProofs only [go_sem, List.reduceReplicate, Nat.reduceAdd, Nat.reduceSub, Nat.reduceLT, Nat.reduceLeDiff, Nat.reduceMul, Nat.reduceEqDiff, reduceCtorEq, Int.reduceLE, Int.reduceLT, Int.reduceEq, Int.reduceNe, Int.reduceBEq, Int.reduceBNe, Int.reduceAdd, Int.reduceSub, Int.toNat_zero, hl]
    refine Fini.ret' rfl (bo_congr ?_)
    rw [nameB, hl, Bool.and_false]; rfl
  | true =>
  simp -implicitDefEqProofs only [go_sem, List.reduceReplicate, Nat.reduceAdd, Nat.reduceSub, Nat.reduceLT, Nat.reduceLeDiff, Nat.reduceMul, Nat.reduceEqDiff, reduceCtorEq, Int.reduceLE, Int.reduceLT, Int.reduceEq, Int.reduceNe, Int.reduceBEq, Int.reduceBNe, Int.reduceAdd, Int.reduceSub, Int.toNat_zero, hl]
  refine Go.Ab.L.scan s.size (fun i => letterB (byteAt s i) || digitB (byteAt s i)) (fun i => mkE 41 [(0, Sx s), (19, I s.size), (20, I i)]) (fun _ => σ) ?_ ?_ ?_ rfl
  · intro i hi hp J hJ
    have hlt : ((i : Int) < s.size) = True := by simp; omega
    have hin := wrap_nat (n := i) (by omega)
    have f1 : decide ((byteAt s i : Int) < 48) = decide (byteAt s i < 48) := decN _ 48
    have f2 : decide ((57 : Int) < byteAt s i) = decide (57 < byteAt s i) := decN 57 _
    simp -implicitDefEqProofs only [mkE, List.foldl_cons, List.foldl_nil, go_sem, List.reduceReplicate, Nat.reduceAdd, Nat.reduceSub, Nat.reduceLT, Nat.reduceLeDiff, Nat.reduceMul, Nat.reduceEqDiff, reduceCtorEq, Int.reduceLE, Int.reduceLT, Int.reduceEq, Int.reduceNe, Int.reduceBEq, Int.reduceBNe, Int.reduceAdd, Int.reduceSub, hlt, byteAt_def]
    refine CO.intro (letter_ans _ _) ?_
    have hd : digitB (byteAt s i) = !(decide (byteAt s i < 48) || decide (57 < byteAt s i)) := by
      unfold digitB
      rw [Bool.eq_iff_iff]; simp
    rw [hd] at hJ
    cases h3 : letterB (byteAt s i) with
    | true =>
      rw [h3] at hJ
      simp -implicitDefEqProofs only [go_sem, List.reduceReplicate, Nat.reduceAdd, Nat.reduceSub, Nat.reduceLT, Nat.reduceLeDiff, Nat.reduceMul, Nat.reduceEqDiff, reduceCtorEq, Int.reduceLE, Int.reduceLT, Int.reduceEq, Int.reduceNe, Int.reduceBEq, Int.reduceBNe, Int.reduceAdd, Int.reduceSub, hin]
      exact hJ rfl
    | false =>
      rw [h3] at hJ
      simp -implicitDefEqProofs only [go_sem, List.reduceReplicate, Nat.reduceAdd, Nat.reduceSub, Nat.reduceLT, Nat.reduceLeDiff, Nat.reduceMul, Nat.reduceEqDiff, reduceCtorEq, Int.reduceLE, Int.reduceLT, Int.reduceEq, Int.reduceNe, Int.reduceBEq, Int.reduceBNe, Int.reduceAdd, Int.reduceSub, hlt, byteAt_def]
      cases h4 : decide (byteAt s i < 48) <;> rw [h4] at f1 hJ
      · cases h5 : decide (57 < byteAt s i) <;> rw [h5] at f2 hJ
        · simp -implicitDefEqProofs only [go_sem, List.reduceReplicate, Nat.reduceAdd, Nat.reduceSub, Nat.reduceLT, Nat.reduceLeDiff, Nat.reduceMul, Nat.reduceEqDiff, reduceCtorEq, Int.reduceLE, Int.reduceLT, Int.reduceEq, Int.reduceNe, Int.reduceBEq, Int.reduceBNe, Int.reduceAdd, Int.reduceSub, f1, f2, hlt, byteAt_def, hin]
          exact hJ rfl
        · simp -implicitDefEqProofs only [go_sem, List.reduceReplicate, Nat.reduceAdd, Nat.reduceSub, Nat.reduceLT, Nat.reduceLeDiff, Nat.reduceMul, Nat.reduceEqDiff, reduceCtorEq, Int.reduceLE, Int.reduceLT, Int.reduceEq, Int.reduceNe, Int.reduceBEq, Int.reduceBNe, Int.reduceAdd, Int.reduceSub, f1, f2, hlt, byteAt_def]
          refine Fini.ret' rfl (bo_congr ?_)
          rw [nameB, List.all_eq_false.2 ⟨i, List.mem_range.2 hi, by simp [h3, hd, h4, h5]⟩, Bool.and_false]
      · simp -implicitDefEqProofs only [go_sem, List.reduceReplicate, Nat.reduceAdd, Nat.reduceSub, Nat.reduceLT, Nat.reduceLeDiff, Nat.reduceMul, Nat.reduceEqDiff, reduceCtorEq, Int.reduceLE, Int.reduceLT, Int.reduceEq, Int.reduceNe, Int.reduceBEq, Int.reduceBNe, Int.reduceAdd, Int.reduceSub, f1, hlt, byteAt_def]
        refine Fini.ret' rfl (bo_congr ?_)
        rw [nameB, List.all_eq_false.2 ⟨i, List.mem_range.2 hi, by simp [h3, hd, h4]⟩, Bool.and_false]
  · intro hp J
    have hlt : ((s.size : Int) < s.size) = False := by simp
    simp -implicitDefEqProofs only [mkE, List.foldl_cons, List.foldl_nil, go_sem, List.reduceReplicate, Nat.reduceAdd, Nat.reduceSub, Nat.reduceLT, Nat.reduceLeDiff, Nat.reduceMul, Nat.reduceEqDiff, reduceCtorEq, Int.reduceLE, Int.reduceLT, Int.reduceEq, Int.reduceNe, Int.reduceBEq, Int.reduceBNe, Int.reduceAdd, Int.reduceSub, hlt]
    refine Fini.ret' rfl (bo_congr ?_)
    rw [nameB, n1, n2, hl, List.all_eq_true.2 fun i hi => hp i (List.mem_range.1 hi)]; rfl
  · rfl
end Go.Proofs.Ytoadgajhkhejiaa
namespace Go.Proofs.Ytoadgajhkhejiaa
open Go Go.Ab
set_option maxRecDepth 100000
def likeB (k : Int) : Bool := k == 3 || k == 4
def progO (v : ByteArray) : Option (List Stp) := if (pparse v).2 then (pparse v).1.made else none
def isB (k : Int) (nm v : ByteArray) : Bool := nameB nm && (if likeB k then (pparse v).2 else (k == 1 || k == 2) && decide (v.size ≤ 24))
def largeB (k : Int) (nm v : ByteArray) : Bool := likeB k && isB k nm v && (progO v).isNone
def holdsB (k : Int) (nm v w : ByteArray) : Bool := isB k nm v && (if k == 1 then w.toList == v.toList else if k == 2 then !(w.toList == v.toList) else
  match progO v with
  | some l => pmatch l w == (k == 3)
  | none => false)
theorem like_any (σ : St) (k : Int) (nm v : ByteArray) : Ans Try.prog 52 [mat k nm v] σ (Bo (likeB k)) σ := by
  refine Ans.of_run t52 ?_
  simp -implicitDefEqProofs only [c52, r52, go_sem, List.reduceReplicate, Nat.reduceAdd, Nat.reduceSub, Nat.reduceLT, Nat.reduceLeDiff, Nat.reduceMul, Nat.reduceEqDiff, reduceCtorEq, Int.reduceLE, Int.reduceLT, Int.reduceEq, Int.reduceNe, Int.reduceBEq, Int.reduceBNe, Int.reduceAdd, Int.reduceSub]
  unfold likeB
  cases h : k == 3
  · simp -implicitDefEqProofs only [go_sem, List.reduceReplicate, Nat.reduceAdd, Nat.reduceSub, Nat.reduceLT, Nat.reduceLeDiff, Nat.reduceMul, Nat.reduceEqDiff, reduceCtorEq, Int.reduceLE, Int.reduceLT, Int.reduceEq, Int.reduceNe, Int.reduceBEq, Int.reduceBNe, Int.reduceAdd, Int.reduceSub]
    exact Fini.ret rfl
  · simp -implicitDefEqProofs only [go_sem, List.reduceReplicate, Nat.reduceAdd, Nat.reduceSub, Nat.reduceLT, Nat.reduceLeDiff, Nat.reduceMul, Nat.reduceEqDiff, reduceCtorEq, Int.reduceLE, Int.reduceLT, Int.reduceEq, Int.reduceNe, Int.reduceBEq, Int.reduceBNe, Int.reduceAdd, Int.reduceSub]
    exact Fini.ret rfl
theorem is_any (σ : St) (k : Int) (nm v : ByteArray) : Ans Try.prog 16 [mat k nm v] σ (Bo (isB k nm v)) σ := by
  refine Ans.of_run t16 ?_
  unfold isB
  simp -implicitDefEqProofs only [c16, r16, go_sem, List.reduceReplicate, Nat.reduceAdd, Nat.reduceSub, Nat.reduceLT, Nat.reduceLeDiff, Nat.reduceMul, Nat.reduceEqDiff, reduceCtorEq, Int.reduceLE, Int.reduceLT, Int.reduceEq, Int.reduceNe, Int.reduceBEq, Int.reduceBNe, Int.reduceAdd, Int.reduceSub]
  refine CO.intro (name_ans' σ nm) ?_
  cases hn : nameB nm with
  | false =>
    simp -implicitDefEqProofs only [go_sem, List.reduceReplicate, Nat.reduceAdd, Nat.reduceSub, Nat.reduceLT, Nat.reduceLeDiff, Nat.reduceMul, Nat.reduceEqDiff, reduceCtorEq, Int.reduceLE, Int.reduceLT, Int.reduceEq, Int.reduceNe, Int.reduceBEq, Int.reduceBNe, Int.reduceAdd, Int.reduceSub]
    exact Fini.ret rfl
  | true =>
  simp -implicitDefEqProofs only [go_sem, List.reduceReplicate, Nat.reduceAdd, Nat.reduceSub, Nat.reduceLT, Nat.reduceLeDiff, Nat.reduceMul, Nat.reduceEqDiff, reduceCtorEq, Int.reduceLE, Int.reduceLT, Int.reduceEq, Int.reduceNe, Int.reduceBEq, Int.reduceBNe, Int.reduceAdd, Int.reduceSub]
  refine CO.intro (like_any σ k nm v) ?_
  cases hk : likeB k with
  | true =>
    simp -implicitDefEqProofs only [go_sem, List.reduceReplicate, Nat.reduceAdd, Nat.reduceSub, Nat.reduceLT, Nat.reduceLeDiff, Nat.reduceMul, Nat.reduceEqDiff, reduceCtorEq, Int.reduceLE, Int.reduceLT, Int.reduceEq, Int.reduceNe, Int.reduceBEq, Int.reduceBNe, Int.reduceAdd, Int.reduceSub]
    refine CO.intro (parse_ans v σ) ?_
    have hrv := Rex.rv_eq (pparse v).1
    generalize (pparse v).1 = x at hrv ⊢
    generalize (pparse v).2 = b
    rw [hrv]
    rcases Rex.rvK_cases x.ks with e | ⟨l, e⟩ <;> rw [e]
    all_goals (simp -implicitDefEqProofs only [go_sem, List.reduceReplicate, Nat.reduceAdd, Nat.reduceSub, Nat.reduceLT, Nat.reduceLeDiff, Nat.reduceMul, Nat.reduceEqDiff, reduceCtorEq, Int.reduceLE, Int.reduceLT, Int.reduceEq, Int.reduceNe, Int.reduceBEq, Int.reduceBNe, Int.reduceAdd, Int.reduceSub]; exact Fini.ret rfl)
  | false =>
    have d : decide ((v.size : Int) ≤ 24) = decide (v.size ≤ 24) := int_le v.size 24
    simp -implicitDefEqProofs only [go_sem, List.reduceReplicate, Nat.reduceAdd, Nat.reduceSub, Nat.reduceLT, Nat.reduceLeDiff, Nat.reduceMul, Nat.reduceEqDiff, reduceCtorEq, Int.reduceLE, Int.reduceLT, Int.reduceEq, Int.reduceNe, Int.reduceBEq, Int.reduceBNe, Int.reduceAdd, Int.reduceSub]
    cases h1 : k == 1 with
    | true =>
      simp -implicitDefEqProofs only [go_sem, List.reduceReplicate, Nat.reduceAdd, Nat.reduceSub, Nat.reduceLT, Nat.reduceLeDiff, Nat.reduceMul, Nat.reduceEqDiff, reduceCtorEq, Int.reduceLE, Int.reduceLT, Int.reduceEq, Int.reduceNe, Int.reduceBEq, Int.reduceBNe, Int.reduceAdd, Int.reduceSub, d]
      exact Fini.ret rfl
    | false =>
      simp -implicitDefEqProofs only [go_sem, List.reduceReplicate, Nat.reduceAdd, Nat.reduceSub, Nat.reduceLT, Nat.reduceLeDiff, Nat.reduceMul, Nat.reduceEqDiff, reduceCtorEq, Int.reduceLE, Int.reduceLT, Int.reduceEq, Int.reduceNe, Int.reduceBEq, Int.reduceBNe, Int.reduceAdd, Int.reduceSub]
      cases h2 : k == 2 with
      | true =>
        simp -implicitDefEqProofs only [go_sem, List.reduceReplicate, Nat.reduceAdd, Nat.reduceSub, Nat.reduceLT, Nat.reduceLeDiff, Nat.reduceMul, Nat.reduceEqDiff, reduceCtorEq, Int.reduceLE, Int.reduceLT, Int.reduceEq, Int.reduceNe, Int.reduceBEq, Int.reduceBNe, Int.reduceAdd, Int.reduceSub, d]
        exact Fini.ret rfl
      | false =>
        simp -implicitDefEqProofs only [go_sem, List.reduceReplicate, Nat.reduceAdd, Nat.reduceSub, Nat.reduceLT, Nat.reduceLeDiff, Nat.reduceMul, Nat.reduceEqDiff, reduceCtorEq, Int.reduceLE, Int.reduceLT, Int.reduceEq, Int.reduceNe, Int.reduceBEq, Int.reduceBNe, Int.reduceAdd, Int.reduceSub]
        exact Fini.ret rfl
theorem program_any (σ : St) (k : Int) (nm v : ByteArray) : Ans Try.prog 49 [mat k nm v] σ (madeV (progO v)) σ := by
  refine Ans.of_run t49 ?_
  unfold progO
  simp -implicitDefEqProofs only [c49, r49, go_sem, List.reduceReplicate, Nat.reduceAdd, Nat.reduceSub, Nat.reduceLT, Nat.reduceLeDiff, Nat.reduceMul, Nat.reduceEqDiff, reduceCtorEq, Int.reduceLE, Int.reduceLT, Int.reduceEq, Int.reduceNe, Int.reduceBEq, Int.reduceBNe, Int.reduceAdd, Int.reduceSub]
  refine CO.intro (parse_ans v σ) ?_
  have hrv := Rex.rv_eq (pparse v).1
  have hno := pparse_nodes v
  generalize (pparse v).1 = x at hrv hno ⊢
  cases (pparse v).2 with
  | false =>
    rw [hrv]
    rcases Rex.rvK_cases x.ks with e | ⟨l, e⟩ <;> rw [e]
    all_goals (simp -implicitDefEqProofs only [go_sem, List.reduceReplicate, Nat.reduceAdd, Nat.reduceSub, Nat.reduceLT, Nat.reduceLeDiff, Nat.reduceMul, Nat.reduceEqDiff, reduceCtorEq, Int.reduceLE, Int.reduceLT, Int.reduceEq, Int.reduceNe, Int.reduceBEq, Int.reduceBNe, Int.reduceAdd, Int.reduceSub]; exact Fini.ret rfl)
  | true =>
    have hm : Ans Try.prog 90 [x.rv] σ (madeV x.made) σ := Ans.sub (make_ans σ x (by omega))
    rw [hrv] at hm ⊢
    rcases Rex.rvK_cases x.ks with e | ⟨l, e⟩ <;> rw [e] at hm ⊢
    all_goals
      simp -implicitDefEqProofs only [go_sem, List.reduceReplicate, Nat.reduceAdd, Nat.reduceSub, Nat.reduceLT, Nat.reduceLeDiff, Nat.reduceMul, Nat.reduceEqDiff, reduceCtorEq, Int.reduceLE, Int.reduceLT, Int.reduceEq, Int.reduceNe, Int.reduceBEq, Int.reduceBNe, Int.reduceAdd, Int.reduceSub]
      refine CO.intro hm ?_
      cases x.made with
      | none =>
        simp -implicitDefEqProofs only [go_sem, List.reduceReplicate, Nat.reduceAdd, Nat.reduceSub, Nat.reduceLT, Nat.reduceLeDiff, Nat.reduceMul, Nat.reduceEqDiff, reduceCtorEq, Int.reduceLE, Int.reduceLT, Int.reduceEq, Int.reduceNe, Int.reduceBEq, Int.reduceBNe, Int.reduceAdd, Int.reduceSub, madeV]
        exact Fini.ret rfl
      | some l =>
        simp -implicitDefEqProofs only [go_sem, List.reduceReplicate, Nat.reduceAdd, Nat.reduceSub, Nat.reduceLT, Nat.reduceLeDiff, Nat.reduceMul, Nat.reduceEqDiff, reduceCtorEq, Int.reduceLE, Int.reduceLT, Int.reduceEq, Int.reduceNe, Int.reduceBEq, Int.reduceBNe, Int.reduceAdd, Int.reduceSub, madeV]
        exact Fini.ret rfl
theorem large_any (σ : St) (k : Int) (nm v : ByteArray) : Ans Try.prog 18 [mat k nm v] σ (Bo (largeB k nm v)) σ := by
  refine Ans.of_run t18 ?_
  unfold largeB
  simp -implicitDefEqProofs only [c18, r18, go_sem, List.reduceReplicate, Nat.reduceAdd, Nat.reduceSub, Nat.reduceLT, Nat.reduceLeDiff, Nat.reduceMul, Nat.reduceEqDiff, reduceCtorEq, Int.reduceLE, Int.reduceLT, Int.reduceEq, Int.reduceNe, Int.reduceBEq, Int.reduceBNe, Int.reduceAdd, Int.reduceSub]
  refine CO.intro (like_any σ k nm v) ?_
  cases hk : likeB k with
  | false =>
    simp -implicitDefEqProofs only [go_sem, List.reduceReplicate, Nat.reduceAdd, Nat.reduceSub, Nat.reduceLT, Nat.reduceLeDiff, Nat.reduceMul, Nat.reduceEqDiff, reduceCtorEq, Int.reduceLE, Int.reduceLT, Int.reduceEq, Int.reduceNe, Int.reduceBEq, Int.reduceBNe, Int.reduceAdd, Int.reduceSub]
    exact Fini.ret rfl
  | true =>
  simp -implicitDefEqProofs only [go_sem, List.reduceReplicate, Nat.reduceAdd, Nat.reduceSub, Nat.reduceLT, Nat.reduceLeDiff, Nat.reduceMul, Nat.reduceEqDiff, reduceCtorEq, Int.reduceLE, Int.reduceLT, Int.reduceEq, Int.reduceNe, Int.reduceBEq, Int.reduceBNe, Int.reduceAdd, Int.reduceSub]
  refine CO.intro (is_any σ k nm v) ?_
  cases hi : isB k nm v with
  | false =>
    simp -implicitDefEqProofs only [go_sem, List.reduceReplicate, Nat.reduceAdd, Nat.reduceSub, Nat.reduceLT, Nat.reduceLeDiff, Nat.reduceMul, Nat.reduceEqDiff, reduceCtorEq, Int.reduceLE, Int.reduceLT, Int.reduceEq, Int.reduceNe, Int.reduceBEq, Int.reduceBNe, Int.reduceAdd, Int.reduceSub]
    exact Fini.ret rfl
  | true =>
  simp -implicitDefEqProofs only [go_sem, List.reduceReplicate, Nat.reduceAdd, Nat.reduceSub, Nat.reduceLT, Nat.reduceLeDiff, Nat.reduceMul, Nat.reduceEqDiff, reduceCtorEq, Int.reduceLE, Int.reduceLT, Int.reduceEq, Int.reduceNe, Int.reduceBEq, Int.reduceBNe, Int.reduceAdd, Int.reduceSub]
  refine CO.intro (program_any σ k nm v) ?_
  cases progO v with
  | none =>
    simp -implicitDefEqProofs only [go_sem, List.reduceReplicate, Nat.reduceAdd, Nat.reduceSub, Nat.reduceLT, Nat.reduceLeDiff, Nat.reduceMul, Nat.reduceEqDiff, reduceCtorEq, Int.reduceLE, Int.reduceLT, Int.reduceEq, Int.reduceNe, Int.reduceBEq, Int.reduceBNe, Int.reduceAdd, Int.reduceSub, madeV]
    exact Fini.ret rfl
  | some l =>
    simp -implicitDefEqProofs only [go_sem, List.reduceReplicate, Nat.reduceAdd, Nat.reduceSub, Nat.reduceLT, Nat.reduceLeDiff, Nat.reduceMul, Nat.reduceEqDiff, reduceCtorEq, Int.reduceLE, Int.reduceLT, Int.reduceEq, Int.reduceNe, Int.reduceBEq, Int.reduceBNe, Int.reduceAdd, Int.reduceSub, madeV]
    exact Fini.ret rfl
theorem holds_any (σ : St) (k : Int) (nm v : ByteArray) (x : AV) (w : ByteArray) (hg : ∀ σ, Ans Try.prog 48 [x, Sx nm] σ (Sx w) σ) (hw : w.size ≤ 100000) : Ans Try.prog 15 [mat k nm v, x] σ (Bo (holdsB k nm v w)) σ := by
  refine Ans.of_run t15 ?_
  unfold holdsB
  simp -implicitDefEqProofs only [c15, r15, go_sem, List.reduceReplicate, Nat.reduceAdd, Nat.reduceSub, Nat.reduceLT, Nat.reduceLeDiff, Nat.reduceMul, Nat.reduceEqDiff, reduceCtorEq, Int.reduceLE, Int.reduceLT, Int.reduceEq, Int.reduceNe, Int.reduceBEq, Int.reduceBNe, Int.reduceAdd, Int.reduceSub]
  refine CO.intro (is_any σ k nm v) ?_
  cases hi : isB k nm v with
  | false =>
    simp -implicitDefEqProofs only [go_sem, List.reduceReplicate, Nat.reduceAdd, Nat.reduceSub, Nat.reduceLT, Nat.reduceLeDiff, Nat.reduceMul, Nat.reduceEqDiff, reduceCtorEq, Int.reduceLE, Int.reduceLT, Int.reduceEq, Int.reduceNe, Int.reduceBEq, Int.reduceBNe, Int.reduceAdd, Int.reduceSub]
    exact Fini.ret rfl
  | true =>
  simp -implicitDefEqProofs only [go_sem, List.reduceReplicate, Nat.reduceAdd, Nat.reduceSub, Nat.reduceLT, Nat.reduceLeDiff, Nat.reduceMul, Nat.reduceEqDiff, reduceCtorEq, Int.reduceLE, Int.reduceLT, Int.reduceEq, Int.reduceNe, Int.reduceBEq, Int.reduceBNe, Int.reduceAdd, Int.reduceSub]
  refine CO.intro (hg σ) ?_
  simp -implicitDefEqProofs only [go_sem, List.reduceReplicate, Nat.reduceAdd, Nat.reduceSub, Nat.reduceLT, Nat.reduceLeDiff, Nat.reduceMul, Nat.reduceEqDiff, reduceCtorEq, Int.reduceLE, Int.reduceLT, Int.reduceEq, Int.reduceNe, Int.reduceBEq, Int.reduceBNe, Int.reduceAdd, Int.reduceSub]
  cases h1 : k == 1 with
  | true =>
    simp -implicitDefEqProofs only [go_sem, List.reduceReplicate, Nat.reduceAdd, Nat.reduceSub, Nat.reduceLT, Nat.reduceLeDiff, Nat.reduceMul, Nat.reduceEqDiff, reduceCtorEq, Int.reduceLE, Int.reduceLT, Int.reduceEq, Int.reduceNe, Int.reduceBEq, Int.reduceBNe, Int.reduceAdd, Int.reduceSub]
    exact Fini.ret rfl
  | false =>
  simp -implicitDefEqProofs only [go_sem, List.reduceReplicate, Nat.reduceAdd, Nat.reduceSub, Nat.reduceLT, Nat.reduceLeDiff, Nat.reduceMul, Nat.reduceEqDiff, reduceCtorEq, Int.reduceLE, Int.reduceLT, Int.reduceEq, Int.reduceNe, Int.reduceBEq, Int.reduceBNe, Int.reduceAdd, Int.reduceSub]
  cases h2 : k == 2 with
  | true =>
    simp -implicitDefEqProofs only [go_sem, List.reduceReplicate, Nat.reduceAdd, Nat.reduceSub, Nat.reduceLT, Nat.reduceLeDiff, Nat.reduceMul, Nat.reduceEqDiff, reduceCtorEq, Int.reduceLE, Int.reduceLT, Int.reduceEq, Int.reduceNe, Int.reduceBEq, Int.reduceBNe, Int.reduceAdd, Int.reduceSub]
    exact Fini.ret rfl
  | false =>
  simp -implicitDefEqProofs only [go_sem, List.reduceReplicate, Nat.reduceAdd, Nat.reduceSub, Nat.reduceLT, Nat.reduceLeDiff, Nat.reduceMul, Nat.reduceEqDiff, reduceCtorEq, Int.reduceLE, Int.reduceLT, Int.reduceEq, Int.reduceNe, Int.reduceBEq, Int.reduceBNe, Int.reduceAdd, Int.reduceSub]
  refine CO.intro (program_any σ k nm v) ?_
  cases progO v with
  | none =>
    simp -implicitDefEqProofs only [go_sem, List.reduceReplicate, Nat.reduceAdd, Nat.reduceSub, Nat.reduceLT, Nat.reduceLeDiff, Nat.reduceMul, Nat.reduceEqDiff, reduceCtorEq, Int.reduceLE, Int.reduceLT, Int.reduceEq, Int.reduceNe, Int.reduceBEq, Int.reduceBNe, Int.reduceAdd, Int.reduceSub, madeV]
    exact Fini.ret rfl
  | some l =>
    simp -implicitDefEqProofs only [go_sem, List.reduceReplicate, Nat.reduceAdd, Nat.reduceSub, Nat.reduceLT, Nat.reduceLeDiff, Nat.reduceMul, Nat.reduceEqDiff, reduceCtorEq, Int.reduceLE, Int.reduceLT, Int.reduceEq, Int.reduceNe, Int.reduceBEq, Int.reduceBNe, Int.reduceAdd, Int.reduceSub, madeV]
    refine CD.intro (match_ans l _ (.inr rfl) w hw σ) ?_
    simp -implicitDefEqProofs only [go_sem, List.reduceReplicate, Nat.reduceAdd, Nat.reduceSub, Nat.reduceLT, Nat.reduceLeDiff, Nat.reduceMul, Nat.reduceEqDiff, reduceCtorEq, Int.reduceLE, Int.reduceLT, Int.reduceEq, Int.reduceNe, Int.reduceBEq, Int.reduceBNe, Int.reduceAdd, Int.reduceSub]
    exact Fini.ret rfl
end Go.Proofs.Ytoadgajhkhejiaa
namespace Go.Proofs.Ytoadgajhkhejiaa
open Go Go.Ab
set_option maxRecDepth 100000
abbrev bv (S : List Bool) : AV := .sl 1 (S.map Bo)
theorem has_ans (σ : St) (a b c d : Int) (ch : Nat) (hch : ch < 256) : Ans Try.prog 136 [.agg [U a, U b, U c, U d], .pl (.int .u8 ch)] σ (Bo (tstU ([a, b, c, d].getD (ch / 64) 0) (ch % 64))) σ := by
  have e1 : IntKind.u8.wrap ((ch : Int).tdiv 64) = ((ch / 64 : Nat) : Int) := by
    rw [show (ch : Int).tdiv 64 = ((ch / 64 : Nat) : Int) from rfl]
    simp only [IntKind.wrap, IntKind.bits, IntKind.signed]; simp; omega
  have e2 : (ch : Int).tmod 64 = ((ch % 64 : Nat) : Int) := rfl
  have e3 : ((64 : Int) = 0) = False := by simp
  have e4 : (((ch / 64 : Nat) : Int) < (4 : Nat)) = True := by simp; omega
  have e5 : IntKind.u64.wrap ((ch % 64 : Nat) : Int) = ((ch % 64 : Nat) : Int) := by
    simp only [IntKind.wrap, IntKind.bits, IntKind.signed]; simp; omega
  have e6 : (List.drop (ch / 64) [U a, U b, U c, U d]).head? = some (U ([a, b, c, d].getD (ch / 64) 0)) := by
    rw [List.head?_drop]
    have hk : ch / 64 < 4 := by omega
    generalize ch / 64 = k at hk
    rcases k with _ | _ | _ | _ | k
    · rfl
    · rfl
    · rfl
    · rfl
    · omega
  refine Ans.of_run t136 ?_
  simp -implicitDefEqProofs only [c136, r136, go_sem, List.reduceReplicate, Nat.reduceAdd, Nat.reduceSub, Nat.reduceLT, Nat.reduceLeDiff, Nat.reduceMul, Nat.reduceEqDiff, reduceCtorEq, Int.reduceLE, Int.reduceLT, Int.reduceEq, Int.reduceNe, Int.reduceBEq, Int.reduceBNe, Int.reduceAdd, Int.reduceSub, e1, e2, e3, e4, e5, e6, Nat.mul_one, Nat.zero_add]
  exact Fini.ret rfl
theorem same_ans (σ : St) (A B : List Bool) (hl : A.length = B.length) (hn : A.length ≤ 100001) : Ans Try.prog 138 [bv A, bv B] σ (Bo (A == B)) σ := by
  refine Ans.of_run t138 ?_
  simp -implicitDefEqProofs only [c138, r138, go_sem, List.reduceReplicate, Nat.reduceAdd, Nat.reduceSub, Nat.reduceLT, Nat.reduceLeDiff, Nat.reduceMul, Nat.reduceEqDiff, reduceCtorEq, Int.reduceLE, Int.reduceLT, Int.reduceEq, Int.reduceNe, Int.reduceBEq, Int.reduceBNe, Int.reduceAdd, Int.reduceSub]
  refine Go.Ab.L.scan A.length (fun i => A.getD i false == B.getD i false) (fun i => mkE 21 [(0, bv A), (1, bv B), (5, I i)]) (fun _ => σ) ?_ ?_ rfl rfl
  · intro i hi hp J hJ
    have h1 : (A.map Bo)[i]? = some (Bo (A.getD i false)) := by simp [hi]
    have h2 : (B.map Bo)[i]? = some (Bo (B.getD i false)) := by simp [show i < B.length by omega]
    have hlt : ((i : Int) < A.length) = True := by simp; omega
    have hlt2 : ((i : Int) < B.length) = True := by simp; omega
    have hin := wrap_nat (n := i) (by omega)
    have hdi : decide ((i : Int) < A.length) = true := by simp; omega
    simp -implicitDefEqProofs only [mkE, List.foldl_cons, List.foldl_nil, go_sem, List.reduceReplicate, Nat.reduceAdd, Nat.reduceSub, Nat.reduceLT, Nat.reduceLeDiff, Nat.reduceMul, Nat.reduceEqDiff, reduceCtorEq, Int.reduceLE, Int.reduceLT, Int.reduceEq, Int.reduceNe, Int.reduceBEq, Int.reduceBNe, Int.reduceAdd, Int.reduceSub, List.length_map, hlt, hlt2, hdi, h1, h2]
    cases hb : (A.getD i false == B.getD i false) with
    | true =>
      rw [hb] at hJ
      have hb' : (A.getD i false != B.getD i false) = false := by rw [bne, hb]; rfl
      simp -implicitDefEqProofs only [go_sem, List.reduceReplicate, Nat.reduceAdd, Nat.reduceSub, Nat.reduceLT, Nat.reduceLeDiff, Nat.reduceMul, Nat.reduceEqDiff, reduceCtorEq, Int.reduceLE, Int.reduceLT, Int.reduceEq, Int.reduceNe, Int.reduceBEq, Int.reduceBNe, Int.reduceAdd, Int.reduceSub, hb, hb', hin, Bool.not_true]
      exact hJ rfl
    | false =>
      have hb' : (A.getD i false != B.getD i false) = true := by rw [bne, hb]; rfl
      simp -implicitDefEqProofs only [go_sem, List.reduceReplicate, Nat.reduceAdd, Nat.reduceSub, Nat.reduceLT, Nat.reduceLeDiff, Nat.reduceMul, Nat.reduceEqDiff, reduceCtorEq, Int.reduceLE, Int.reduceLT, Int.reduceEq, Int.reduceNe, Int.reduceBEq, Int.reduceBNe, Int.reduceAdd, Int.reduceSub, hb, hb', Bool.not_false]
      refine Fini.ret' rfl (bo_congr ?_)
      symm
      rw [beq_eq_false_iff_ne]
      intro e
      rw [e] at hb
      simp at hb
  · intro hp J
    have hlt : decide ((A.length : Int) < A.length) = false := by simp
    simp -implicitDefEqProofs only [mkE, List.foldl_cons, List.foldl_nil, go_sem, List.reduceReplicate, Nat.reduceAdd, Nat.reduceSub, Nat.reduceLT, Nat.reduceLeDiff, Nat.reduceMul, Nat.reduceEqDiff, reduceCtorEq, Int.reduceLE, Int.reduceLT, Int.reduceEq, Int.reduceNe, Int.reduceBEq, Int.reduceBNe, Int.reduceAdd, Int.reduceSub, List.length_map, hlt]
    refine Fini.ret' rfl (bo_congr ?_)
    symm
    rw [beq_iff_eq]
    exact ext_getD hl fun i hi => by simpa using hp i hi
end Go.Proofs.Ytoadgajhkhejiaa
namespace Go.Proofs.Ytoadgajhkhejiaa
open Go Go.Ab
set_option maxRecDepth 100000
theorem rep_cells (v : AV) : ∀ n : Nat, chunks 1 false n (repeatA [v] n) = List.replicate n v
  | 0 => rfl
  | n + 1 => by
    rw [chunks, repeatA, List.replicate_succ]
    simp only [Bool.false_eq_true, if_false, List.cons_append, List.nil_append, List.headD_cons, List.drop_succ_cons, List.drop_zero]
    rw [rep_cells v n]
def fillB (A : List Bool) (n i : Nat) : List Bool := A.take i ++ List.replicate (n - i) false
theorem fillB_len (A : List Bool) (i : Nat) (hi : i ≤ A.length) : (fillB A A.length i).length = A.length := by simp [fillB]; omega
theorem fillB_end (A : List Bool) : fillB A A.length A.length = A := by simp [fillB]
theorem fillB_set (A : List Bool) (i : Nat) (hi : i < A.length) : (fillB A A.length i).set i (A.getD i false) = fillB A A.length (i + 1) := by
  unfold fillB
  rw [List.set_append_right _ _ (by simp; omega), List.length_take, Nat.min_eq_left (by omega), Nat.sub_self, show A.length - i = (A.length - (i + 1)) + 1 by omega, List.replicate_succ, List.set_cons_zero,
    List.take_succ_eq_append_getElem hi, List.append_assoc, List.getD_eq_getElem?_getD, List.getElem?_eq_getElem hi]
  rfl
theorem join_ans (σ : St) (A B : List Bool) (hl : A.length = B.length) (hn : A.length ≤ 100001) : Ans Try.prog 137 [bv A, bv B] σ (bv (joinB A B)) σ := by
  refine Ans.of_run' t137 (fun hbel _ => ?_)
  have q1 : ((0 : Int) ≤ A.length) = True := by simp
  have q2 : ((A.length : Int) ≤ 4294967296) = True := by simp; omega
  simp -implicitDefEqProofs only [c137, r137, go_sem, List.reduceReplicate, Nat.reduceAdd, Nat.reduceSub, Nat.reduceLT, Nat.reduceLeDiff, Nat.reduceMul, Nat.reduceEqDiff, reduceCtorEq, Int.reduceLE, Int.reduceLT, Int.reduceEq, Int.reduceNe, Int.reduceBEq, Int.reduceBNe, Int.reduceAdd, Int.reduceSub, List.length_map, q1, q2, Int.le_refl, Int.toNat_natCast, rep_cells]
  refine Go.Ab.L.count A.length (fun i => mkE 30 [(0, bv A), (1, bv B), (5, .osl σ.length A.length), (6, I i)]) (fun i => σ ++ [.row 1 ((fillB (joinB A B) A.length i).map Bo)]) ?_ ?_ rfl ?_
  · intro i hi J hJ
    have h1 : (A.map Bo)[i]? = some (Bo (A.getD i false)) := by simp [hi]
    have h2 : (B.map Bo)[i]? = some (Bo (B.getD i false)) := by simp [show i < B.length by omega]
    have hlt : ((i : Int) < A.length) = True := by simp; omega
    have hlt2 : ((i : Int) < B.length) = True := by simp; omega
    have hin := wrap_nat (n := i) (by omega)
    have hdi : decide ((i : Int) < A.length) = true := by simp; omega
    have hjl : (joinB A B).length = A.length := joinB_len A B
    have hfl : (fillB (joinB A B) A.length i).length = A.length := by have := fillB_len (joinB A B) i (by omega); rwa [hjl] at this
    have hfs := fillB_set (joinB A B) i (by omega)
    rw [hjl, joinB_get _ _ _ hi] at hfs
    rw [← hfs] at hJ
    generalize fillB (joinB A B) A.length i = M at hfl hJ ⊢
    have hM : (M.map Bo)[i]? = some (Bo (M.getD i false)) := by simp [show i < M.length by omega]
    have hMl : (A.length = M.length) = True := by simp [hfl]
    cases hb : A.getD i false with
    | true =>
      rw [hb, List.map_set] at hJ
      simp -implicitDefEqProofs only [mkE, List.foldl_cons, List.foldl_nil, go_sem, List.reduceReplicate, Nat.reduceAdd, Nat.reduceSub, Nat.reduceLT, Nat.reduceLeDiff, Nat.reduceMul, Nat.reduceEqDiff, reduceCtorEq, Int.reduceLE, Int.reduceLT, Int.reduceEq, Int.reduceNe, Int.reduceBEq, Int.reduceBNe, Int.reduceAdd, Int.reduceSub, List.length_map, hlt, hlt2, hdi, h1, h2, hb, hin, hM, hMl, hfl, g0, s0]
      exact hJ
    | false =>
      rw [hb, List.map_set] at hJ
      simp -implicitDefEqProofs only [mkE, List.foldl_cons, List.foldl_nil, go_sem, List.reduceReplicate, Nat.reduceAdd, Nat.reduceSub, Nat.reduceLT, Nat.reduceLeDiff, Nat.reduceMul, Nat.reduceEqDiff, reduceCtorEq, Int.reduceLE, Int.reduceLT, Int.reduceEq, Int.reduceNe, Int.reduceBEq, Int.reduceBNe, Int.reduceAdd, Int.reduceSub, List.length_map, hlt, hlt2, hdi, h1, h2, hb, hin, hM, hMl, hfl, g0, s0]
      exact hJ
  · intro J
    have hlt : decide ((A.length : Int) < A.length) = false := by simp
    have hjl : (joinB A B).length = A.length := joinB_len A B
    have hfe := fillB_end (joinB A B)
    rw [hjl] at hfe
    simp -implicitDefEqProofs only [mkE, List.foldl_cons, List.foldl_nil, go_sem, List.reduceReplicate, Nat.reduceAdd, Nat.reduceSub, Nat.reduceLT, Nat.reduceLeDiff, Nat.reduceMul, Nat.reduceEqDiff, reduceCtorEq, Int.reduceLE, Int.reduceLT, Int.reduceEq, Int.reduceNe, Int.reduceBEq, Int.reduceBNe, Int.reduceAdd, Int.reduceSub, List.length_map, hlt, hfe, g0, s0, hjl]
    exact Fini.trim2 (σ' := σ) rfl rfl (Nat.le_refl _) (.sl 1 _ fun i hi => by simp; exact .pl _) hbel
  · simp [fillB]
end Go.Proofs.Ytoadgajhkhejiaa
