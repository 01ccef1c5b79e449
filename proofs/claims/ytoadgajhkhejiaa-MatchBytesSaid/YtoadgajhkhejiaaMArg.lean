/- Any lists of matchers: the document's List. No condition. -/
import Derived.Test.YtoadgajhkhejiaaDc3
import Derived.Test.YtoadgajhkhejiaaDc10
import Derived.Test.YtoadgajhkhejiaaPPar3
import Derived.Test.YtoadgajhkhejiaaMRun
import Derived.ProofKit
import Derived.Carry
import Derived.OpenShut
import Derived.Test.YtoadgajhkhejiaaRows
set_option linter.unusedSimpArgs false
set_option linter.unusedVariables false
namespace Go.Proofs.Ytoadgajhkhejiaa
open Go Go.Ab
set_option maxRecDepth 100000
theorem before_ans (σ : St) (x y : Mtr) : Ans Try.prog 69 [mv3 x, mv3 y] σ (Bo (aheadD x y)) σ := by
  refine Ans.of_run t69 ?_
  unfold aheadD
  simp -implicitDefEqProofs only [c69, r69, go_sem, List.reduceReplicate, Nat.reduceAdd, Nat.reduceSub, Nat.reduceLT, Nat.reduceLeDiff, Nat.reduceMul, Nat.reduceEqDiff, reduceCtorEq, Int.reduceLE, Int.reduceLT, Int.reduceEq, Int.reduceNe, Int.reduceBEq, Int.reduceBNe, Int.reduceAdd, Int.reduceSub, mv3]
  cases h1 : (x.2.1.toList == y.2.1.toList) with
  | false =>
    simp -implicitDefEqProofs only [go_sem, List.reduceReplicate, Nat.reduceAdd, Nat.reduceSub, Nat.reduceLT, Nat.reduceLeDiff, Nat.reduceMul, Nat.reduceEqDiff, reduceCtorEq, Int.reduceLE, Int.reduceLT, Int.reduceEq, Int.reduceNe, Int.reduceBEq, Int.reduceBNe, Int.reduceAdd, Int.reduceSub]
    exact Fini.ret rfl
  | true =>
    simp -implicitDefEqProofs only [go_sem, List.reduceReplicate, Nat.reduceAdd, Nat.reduceSub, Nat.reduceLT, Nat.reduceLeDiff, Nat.reduceMul, Nat.reduceEqDiff, reduceCtorEq, Int.reduceLE, Int.reduceLT, Int.reduceEq, Int.reduceNe, Int.reduceBEq, Int.reduceBNe, Int.reduceAdd, Int.reduceSub]
    cases h2 : (x.1 == y.1) with
    | false =>
      simp -implicitDefEqProofs only [go_sem, List.reduceReplicate, Nat.reduceAdd, Nat.reduceSub, Nat.reduceLT, Nat.reduceLeDiff, Nat.reduceMul, Nat.reduceEqDiff, reduceCtorEq, Int.reduceLE, Int.reduceLT, Int.reduceEq, Int.reduceNe, Int.reduceBEq, Int.reduceBNe, Int.reduceAdd, Int.reduceSub, bne, h2]
      exact Fini.ret rfl
    | true =>
      simp -implicitDefEqProofs only [go_sem, List.reduceReplicate, Nat.reduceAdd, Nat.reduceSub, Nat.reduceLT, Nat.reduceLeDiff, Nat.reduceMul, Nat.reduceEqDiff, reduceCtorEq, Int.reduceLE, Int.reduceLT, Int.reduceEq, Int.reduceNe, Int.reduceBEq, Int.reduceBNe, Int.reduceAdd, Int.reduceSub, bne, h2]
      exact Fini.ret rfl
theorem mvs3_get (M : List Mtr) (i : Nat) (h : i < M.length) : (mvs3 M)[i]? = some (mv3 M[i]) := by simp [mvs3, h]
theorem mvs3_len (M : List Mtr) : (mvs3 M).length = M.length := List.length_map ..
abbrev noM3 : Mtr := (0, ⟨#[]⟩, ⟨#[]⟩)
def isM (x : Mtr) : Bool := isB x.1 x.2.1 x.2.2
def okL (M : List Mtr) (i : Nat) : Bool := isM (M.getD i noM3) && (i == 0 || aheadD (M.getD (i - 1) noM3) (M.getD i noM3))
def listB (M : List Mtr) : Bool := decide (M.length ≤ 5) && (List.range M.length).all (okL M)
theorem mget_D (M : List Mtr) (i : Nat) (h : i < M.length) : (mvs3 M)[i]? = some (mv3 (M.getD i noM3)) := by
  rw [mvs3_get M i h, List.getD_eq_getElem?_getD, List.getElem?_eq_getElem h]; rfl
theorem dlist_ans (σ : St) (M : List Mtr) (hs : ∀ x ∈ M, x.2.1.size ≤ 100000) : Ans Try.prog 26 [.sl 3 (mvs3 M)] σ (Bo (listB M)) σ := by
  refine Ans.of_run t26 ?_
  have d5 : decide ((5 : Int) < M.length) = decide (5 < M.length) := decN 5 _
  unfold listB
  simp -implicitDefEqProofs only [c26, r26, go_sem, List.reduceReplicate, Nat.reduceAdd, Nat.reduceSub, Nat.reduceLT, Nat.reduceLeDiff, Nat.reduceMul, Nat.reduceEqDiff, reduceCtorEq, Int.reduceLE, Int.reduceLT, Int.reduceEq, Int.reduceNe, Int.reduceBEq, Int.reduceBNe, Int.reduceAdd, Int.reduceSub, mvs3_len, d5]
  by_cases hl : M.length ≤ 5
  · rw [decide_eq_true hl, Bool.true_and]
    have h5 : decide (5 < M.length) = false := decide_eq_false (by omega)
    simp -implicitDefEqProofs only [go_sem, List.reduceReplicate, Nat.reduceAdd, Nat.reduceSub, Nat.reduceLT, Nat.reduceLeDiff, Nat.reduceMul, Nat.reduceEqDiff, reduceCtorEq, Int.reduceLE, Int.reduceLT, Int.reduceEq, Int.reduceNe, Int.reduceBEq, Int.reduceBNe, Int.reduceAdd, Int.reduceSub, h5]
    refine Go.Ab.L.scan M.length (okL M) (fun i => mkE 36 [(0, .sl 3 (mvs3 M)), (3, I i)]) (fun _ => σ) ?_ ?_ rfl rfl
    · intro i hi hp J hJ
      have hF : okL M i = false → (List.range M.length).all (okL M) = false := fun h => List.all_eq_false.2 ⟨i, List.mem_range.2 hi, by simp [h]⟩
      have hx := mget_D M i hi
      have hsz : (M.getD i noM3).2.1.size ≤ 100000 := by
        rw [List.getD_eq_getElem?_getD, List.getElem?_eq_getElem hi]; exact hs _ (List.getElem_mem hi)
      have hin := wrap_nat (n := i) (by omega)
      have hI := fun σ => dis_any σ (M.getD i noM3).1 (M.getD i noM3).2.1 (M.getD i noM3).2.2 hsz
      have hO : okL M i = (isB (M.getD i noM3).1 (M.getD i noM3).2.1 (M.getD i noM3).2.2 && (i == 0 || aheadD (M.getD (i - 1) noM3) (M.getD i noM3))) := rfl
      have d0 : decide ((0 : Int) < i) = decide (0 < i) := decN 0 i
      rw [hO] at hJ hF
      simp -implicitDefEqProofs only [mkE, List.foldl_cons, List.foldl_nil, go_sem, List.reduceReplicate, Nat.reduceAdd, Nat.reduceSub, Nat.reduceLT, Nat.reduceLeDiff, Nat.reduceMul, Nat.reduceEqDiff, reduceCtorEq, Int.reduceLE, Int.reduceLT, Int.reduceEq, Int.reduceNe, Int.reduceBEq, Int.reduceBNe, Int.reduceAdd, Int.reduceSub, mvs3_len, nat_lt hi, dec_lt hi, hx, mv3, D_callS]
      first | refine CD.intro (hI _) ?_ | refine CS.intro hI ?_
      generalize isB (M.getD i noM3).1 (M.getD i noM3).2.1 (M.getD i noM3).2.2 = b1 at hJ hF
      cases b1 with
      | false =>
        simp -implicitDefEqProofs only [go_sem, List.reduceReplicate, Nat.reduceAdd, Nat.reduceSub, Nat.reduceLT, Nat.reduceLeDiff, Nat.reduceMul, Nat.reduceEqDiff, reduceCtorEq, Int.reduceLE, Int.reduceLT, Int.reduceEq, Int.reduceNe, Int.reduceBEq, Int.reduceBNe, Int.reduceAdd, Int.reduceSub]
        refine Fini.ret' rfl (bo_congr ?_)
        rw [hF rfl]
      | true =>
        by_cases hz : i = 0
        · subst hz
          simp -implicitDefEqProofs only [go_sem, List.reduceReplicate, Nat.reduceAdd, Nat.reduceSub, Nat.reduceLT, Nat.reduceLeDiff, Nat.reduceMul, Nat.reduceEqDiff, reduceCtorEq, Int.reduceLE, Int.reduceLT, Int.reduceEq, Int.reduceNe, Int.reduceBEq, Int.reduceBNe, Int.reduceAdd, Int.reduceSub, hin, D_callS, Int.natCast_zero]
          exact hJ rfl
        · have hpos : decide (0 < i) = true := by simp; omega
          have hx1 := mget_D M (i - 1) (by omega)
          have hB := fun σ => before_ans σ (M.getD (i - 1) noM3) (M.getD i noM3)
          have w1 : IntKind.i64.wrap ((i : Int) - 1) = ((i - 1 : Nat) : Int) := by rw [wrapN (by omega) (by omega)]; omega
          have hlt1 : (((i - 1 : Nat) : Int) < M.length) = True := by simp; omega
          have hz' : (i == 0) = false := by simpa using hz
          rw [hz'] at hJ hF
          simp -implicitDefEqProofs only [go_sem, List.reduceReplicate, Nat.reduceAdd, Nat.reduceSub, Nat.reduceLT, Nat.reduceLeDiff, Nat.reduceMul, Nat.reduceEqDiff, reduceCtorEq, Int.reduceLE, Int.reduceLT, Int.reduceEq, Int.reduceNe, Int.reduceBEq, Int.reduceBNe, Int.reduceAdd, Int.reduceSub, d0, hpos, w1, mvs3_len, nat_lt hi, dec_lt hi, hlt1, hx, hx1, D_callS, mv3]
          first | refine CD.intro (hB _) ?_ | refine CS.intro hB ?_
          generalize aheadD (M.getD (i - 1) noM3) (M.getD i noM3) = b2 at hJ hF
          cases b2 with
          | true =>
            simp -implicitDefEqProofs only [go_sem, List.reduceReplicate, Nat.reduceAdd, Nat.reduceSub, Nat.reduceLT, Nat.reduceLeDiff, Nat.reduceMul, Nat.reduceEqDiff, reduceCtorEq, Int.reduceLE, Int.reduceLT, Int.reduceEq, Int.reduceNe, Int.reduceBEq, Int.reduceBNe, Int.reduceAdd, Int.reduceSub, hin]
            exact hJ rfl
          | false =>
            simp -implicitDefEqProofs only [go_sem, List.reduceReplicate, Nat.reduceAdd, Nat.reduceSub, Nat.reduceLT, Nat.reduceLeDiff, Nat.reduceMul, Nat.reduceEqDiff, reduceCtorEq, Int.reduceLE, Int.reduceLT, Int.reduceEq, Int.reduceNe, Int.reduceBEq, Int.reduceBNe, Int.reduceAdd, Int.reduceSub]
            refine Fini.ret' rfl (bo_congr ?_)
            rw [hF rfl]
    · intro hp J
      have hd : decide ((M.length : Int) < M.length) = false := by simp
      simp -implicitDefEqProofs only [mkE, List.foldl_cons, List.foldl_nil, go_sem, List.reduceReplicate, Nat.reduceAdd, Nat.reduceSub, Nat.reduceLT, Nat.reduceLeDiff, Nat.reduceMul, Nat.reduceEqDiff, reduceCtorEq, Int.reduceLE, Int.reduceLT, Int.reduceEq, Int.reduceNe, Int.reduceBEq, Int.reduceBNe, Int.reduceAdd, Int.reduceSub, mvs3_len, hd]
      refine Fini.ret' rfl (bo_congr ?_)
      exact (List.all_eq_true.2 fun i hi => hp i (List.mem_range.1 hi)).symm
  · rw [decide_eq_false hl, Bool.false_and]
    have h5 : decide (5 < M.length) = true := decide_eq_true (by omega)
    simp -implicitDefEqProofs only [go_sem, List.reduceReplicate, Nat.reduceAdd, Nat.reduceSub, Nat.reduceLT, Nat.reduceLeDiff, Nat.reduceMul, Nat.reduceEqDiff, reduceCtorEq, Int.reduceLE, Int.reduceLT, Int.reduceEq, Int.reduceNe, Int.reduceBEq, Int.reduceBNe, Int.reduceAdd, Int.reduceSub, h5]
    exact Fini.ret rfl
end Go.Proofs.Ytoadgajhkhejiaa
namespace Go.Proofs.Ytoadgajhkhejiaa
open Go Go.Ab
set_option maxRecDepth 100000
theorem bel_mvs3 (n : Nat) (M : List Mtr) : Bel n (.sl 3 (mvs3 M)) := by
  refine .sl 3 _ fun i hi => ?_
  have : ∀ y ∈ mvs3 M, Bel n y := by
    intro y hy
    simp only [mvs3, List.mem_map] at hy
    obtain ⟨x, _, rfl⟩ := hy
    refine .agg _ fun i hi => ?_
    have : ∀ y ∈ ([I x.1, Sx x.2.1, Sx x.2.2] : List AV), Bel n y := by
      intro y hy
      simp only [List.mem_cons, List.not_mem_nil, or_false] at hy
      rcases hy with rfl | rfl | rfl <;> exact .pl _
    exact this _ (List.getElem_mem hi)
  exact this _ (List.getElem_mem hi)
theorem BL_mvs (n : Nat) (M : List Mtr) : Bel n (.sl 3 (mvs3 M)) = True := eq_true (bel_mvs3 n M)
theorem memM (n : Nat) (k : Int) (a b : ByteArray) : ∀ y ∈ ([I k, Sx a, Sx b] : List AV), Bel n y := by
  intro y hy
  simp only [List.mem_cons, List.not_mem_nil, or_false] at hy
  rcases hy with rfl | rfl | rfl <;> exact .pl _
theorem BL_mat (n : Nat) (k : Int) (a b : ByteArray) : Bel n (.agg [I k, Sx a, Sx b]) = True := eq_true (.agg _ fun i hi => memM n k a b _ (List.getElem_mem hi))
theorem BL_rp (n : Nat) (k : Int) (a b : ByteArray) : Bel n (.rp [I k, Sx a, Sx b]) = True := eq_true (.rp _ fun i hi => memM n k a b _ (List.getElem_mem hi))
theorem list_any (σ : St) (M : List Mtr) : Ans Try.prog 24 [.sl 3 (mvs3 M)] σ (Bo (listB M)) σ := by
  refine Ans.of_run' t24 (fun hbel _ => ?_)
  have d5 : decide ((5 : Int) < M.length) = decide (5 < M.length) := decN 5 _
  have hb0 : (∀ o ∈ σ, BelO σ.length o) = True := eq_true hbel
  unfold listB
  simp -implicitDefEqProofs only [c24, r24, go_sem, List.reduceReplicate, Nat.reduceAdd, Nat.reduceSub, Nat.reduceLT, Nat.reduceLeDiff, Nat.reduceMul, Nat.reduceEqDiff, reduceCtorEq, Int.reduceLE, Int.reduceLT, Int.reduceEq, Int.reduceNe, Int.reduceBEq, Int.reduceBNe, Int.reduceAdd, Int.reduceSub, mvs3_len, d5]
  by_cases hl : M.length ≤ 5
  · rw [decide_eq_true hl, Bool.true_and]
    have h5 : decide (5 < M.length) = false := decide_eq_false (by omega)
    simp -implicitDefEqProofs only [go_sem, List.reduceReplicate, Nat.reduceAdd, Nat.reduceSub, Nat.reduceLT, Nat.reduceLeDiff, Nat.reduceMul, Nat.reduceEqDiff, reduceCtorEq, Int.reduceLE, Int.reduceLT, Int.reduceEq, Int.reduceNe, Int.reduceBEq, Int.reduceBNe, Int.reduceAdd, Int.reduceSub, h5, mvs3_len]
    refine Go.Ab.L.scan M.length (okL M) (fun i => mkE 33 [(0, .sl 3 (mvs3 M)), (8, .sl 3 (mvs3 M)), (9, I M.length), (10, I i)]) (fun _ => σ) ?_ ?_ rfl rfl
    · intro i hi hp J hJ
      have htk : ∀ x : Ob, (σ ++ [x]).take σ.length = σ := fun x => List.take_left' rfl
      have hF : okL M i = false → (List.range M.length).all (okL M) = false := fun h => List.all_eq_false.2 ⟨i, List.mem_range.2 hi, by simp [h]⟩
      have hx := mget_D M i hi
      have hin := wrap_nat (n := i) (by omega)
      have hI := fun σ => is_any σ (M.getD i noM3).1 (M.getD i noM3).2.1 (M.getD i noM3).2.2
      have hO : okL M i = (isB (M.getD i noM3).1 (M.getD i noM3).2.1 (M.getD i noM3).2.2 && (i == 0 || aheadD (M.getD (i - 1) noM3) (M.getD i noM3))) := rfl
      have d0 : decide ((0 : Int) < i) = decide (0 < i) := decN 0 i
      rw [hO] at hJ hF
      simp -implicitDefEqProofs only [mkE, List.foldl_cons, List.foldl_nil, go_sem, List.reduceReplicate, Nat.reduceAdd, Nat.reduceSub, Nat.reduceLT, Nat.reduceLeDiff, Nat.reduceMul, Nat.reduceEqDiff, reduceCtorEq, Int.reduceLE, Int.reduceLT, Int.reduceEq, Int.reduceNe, Int.reduceBEq, Int.reduceBNe, Int.reduceAdd, Int.reduceSub, mvs3_len, nat_lt hi, dec_lt hi, hx, mv3, D_callS, g0, s0, List.drop_nil]
      first | refine CD.intro (hI _) ?_ | refine CS.intro hI ?_
      generalize isB (M.getD i noM3).1 (M.getD i noM3).2.1 (M.getD i noM3).2.2 = b1 at hJ hF
      cases b1 with
      | false =>
        simp -implicitDefEqProofs only [go_sem, List.reduceReplicate, Nat.reduceAdd, Nat.reduceSub, Nat.reduceLT, Nat.reduceLeDiff, Nat.reduceMul, Nat.reduceEqDiff, reduceCtorEq, Int.reduceLE, Int.reduceLT, Int.reduceEq, Int.reduceNe, Int.reduceBEq, Int.reduceBNe, Int.reduceAdd, Int.reduceSub, D_callS, g0, s0]
        rw [hF rfl]
        exact Fini.trim2 (σ' := σ) rfl rfl (Nat.le_refl _) (.pl _) hbel
      | true =>
        by_cases hz : i = 0
        · subst hz
          have hgo := hJ rfl
          simp -implicitDefEqProofs only [go_sem, List.reduceReplicate, Nat.reduceAdd, Nat.reduceSub, Nat.reduceLT, Nat.reduceLeDiff, Nat.reduceMul, Nat.reduceEqDiff, reduceCtorEq, Int.reduceLE, Int.reduceLT, Int.reduceEq, Int.reduceNe, Int.reduceBEq, Int.reduceBNe, Int.reduceAdd, Int.reduceSub, hin, D_callS, g0, s0, Int.natCast_zero, B_pl, B_any, B_nils, B_tup, B_osl, B_ptr, B_sl0, BL_mvs, BL_mat, BL_rp, htk, Nat.add_zero, hb0, List.length_append]
          exact ⟨by omega, hgo⟩
        · have hpos : decide (0 < i) = true := by simp; omega
          have hx1 := mget_D M (i - 1) (by omega)
          have hB := fun σ => compare_ans σ (M.getD (i - 1) noM3) (M.getD i noM3)
          have hc := cmp3_aheadD (M.getD (i - 1) noM3) (M.getD i noM3)
          have w1 : IntKind.i64.wrap ((i : Int) - 1) = ((i - 1 : Nat) : Int) := by rw [wrapN (by omega) (by omega)]; omega
          have hlt1 : (((i - 1 : Nat) : Int) < M.length) = True := by simp; omega
          have hz' : (i == 0) = false := by simpa using hz
          rw [hz'] at hJ hF
          simp -implicitDefEqProofs only [go_sem, List.reduceReplicate, Nat.reduceAdd, Nat.reduceSub, Nat.reduceLT, Nat.reduceLeDiff, Nat.reduceMul, Nat.reduceEqDiff, reduceCtorEq, Int.reduceLE, Int.reduceLT, Int.reduceEq, Int.reduceNe, Int.reduceBEq, Int.reduceBNe, Int.reduceAdd, Int.reduceSub, d0, hpos, w1, mvs3_len, nat_lt hi, dec_lt hi, hlt1, hx, hx1, D_callS, mv3, g0, s0]
          first | refine CD.intro (hB _) ?_ | refine CS.intro hB ?_
          generalize aheadD (M.getD (i - 1) noM3) (M.getD i noM3) = b2 at hJ hF hc
          generalize cmp3 (M.getD (i - 1) noM3) (M.getD i noM3) = cc at hc
          cases b2 with
          | true =>
            have hgo := hJ rfl
            simp -implicitDefEqProofs only [go_sem, List.reduceReplicate, Nat.reduceAdd, Nat.reduceSub, Nat.reduceLT, Nat.reduceLeDiff, Nat.reduceMul, Nat.reduceEqDiff, reduceCtorEq, Int.reduceLE, Int.reduceLT, Int.reduceEq, Int.reduceNe, Int.reduceBEq, Int.reduceBNe, Int.reduceAdd, Int.reduceSub, hc, hin, g0, s0, B_pl, B_any, B_nils, B_tup, B_osl, B_ptr, B_sl0, BL_mvs, BL_mat, BL_rp, htk, Nat.add_zero, hb0, List.length_append, Bool.not_true]
            exact ⟨by omega, hgo⟩
          | false =>
            simp -implicitDefEqProofs only [go_sem, List.reduceReplicate, Nat.reduceAdd, Nat.reduceSub, Nat.reduceLT, Nat.reduceLeDiff, Nat.reduceMul, Nat.reduceEqDiff, reduceCtorEq, Int.reduceLE, Int.reduceLT, Int.reduceEq, Int.reduceNe, Int.reduceBEq, Int.reduceBNe, Int.reduceAdd, Int.reduceSub, hc, Bool.not_false, g0, s0]
            rw [hF rfl]
            exact Fini.trim2 (σ' := σ) rfl rfl (Nat.le_refl _) (.pl _) hbel
    · intro hp J
      have hd : decide ((M.length : Int) < M.length) = false := by simp
      simp -implicitDefEqProofs only [mkE, List.foldl_cons, List.foldl_nil, go_sem, List.reduceReplicate, Nat.reduceAdd, Nat.reduceSub, Nat.reduceLT, Nat.reduceLeDiff, Nat.reduceMul, Nat.reduceEqDiff, reduceCtorEq, Int.reduceLE, Int.reduceLT, Int.reduceEq, Int.reduceNe, Int.reduceBEq, Int.reduceBNe, Int.reduceAdd, Int.reduceSub, mvs3_len, hd]
      refine Fini.ret' rfl (bo_congr ?_)
      exact (List.all_eq_true.2 fun i hi => hp i (List.mem_range.1 hi)).symm
  · rw [decide_eq_false hl, Bool.false_and]
    have h5 : decide (5 < M.length) = true := decide_eq_true (by omega)
    simp -implicitDefEqProofs only [go_sem, List.reduceReplicate, Nat.reduceAdd, Nat.reduceSub, Nat.reduceLT, Nat.reduceLeDiff, Nat.reduceMul, Nat.reduceEqDiff, reduceCtorEq, Int.reduceLE, Int.reduceLT, Int.reduceEq, Int.reduceNe, Int.reduceBEq, Int.reduceBNe, Int.reduceAdd, Int.reduceSub, h5]
    exact Fini.ret rfl
end Go.Proofs.Ytoadgajhkhejiaa
namespace Go.Proofs.Ytoadgajhkhejiaa
open Go Go.Ab Go.Cod
set_option maxRecDepth 100000
def mkM (x : UInt8 × ByteArray × ByteArray) : Mtr := ((x.1.toNat : Int), x.2.1, x.2.2)
def mtrR : Rd Mtr := dressR (seqR byteR (seqR (textR 12) (textR 40))) mkM
def listR : Rd (List Mtr) := onlyR (rowR 5 mtrR) listB
def putM (x : Mtr) : Byt := x.1.toNat.toUInt8 :: (txtB x.2.1 ++ txtB x.2.2)
def putL (M : List Mtr) : Byt := laidRow putM M
theorem ends_mtr : EndsR mtrR := ends_dress (ends_seq ends_byte (ends_seq (ends_text 12) (ends_text 40))) _
theorem mtr_fits : Fits mtrR putM (fun x => 0 ≤ x.1 ∧ x.1 < 256 ∧ x.2.1.size ≤ 12 ∧ x.2.2.size ≤ 40) := by
  refine dress_fits (seq_fits byte_fits (seq_fits (text_fits (by decide)) (text_fits (by decide)))) (g := fun x => (x.1.toNat.toUInt8, x.2.1, x.2.2)) ?_ ?_
  · rintro ⟨c, n, v⟩ ⟨_, h1, h2⟩
    have := c.toNat_lt
    refine ⟨⟨by simp only [mkM]; omega, by simp only [mkM]; omega, h1, h2⟩, ?_⟩
    simp only [putM, mkM, Int.toNat_natCast, toUInt8_toNat]
    rfl
  · rintro ⟨k, n, v⟩ ⟨h0, h1, h2, h3⟩
    refine ⟨⟨trivial, h2, h3⟩, ?_⟩
    simp only at h0 h1
    have : (k.toNat.toUInt8.toNat : Int) = k := by rw [toNat_toUInt8 (by omega)]; omega
    simp only [mkM, this]
theorem pparse_size {s : ByteArray} (h : (pparse s).2 = true) : s.size ≤ 40 := by
  unfold pparse at h
  rcases Nat.lt_or_ge 40 s.size with h40 | h40
  · exfalso
    have := (fwd_PW s 8 0 true).2 rfl
    simp [h40, this] at h
  · exact h40
theorem isB_kind {k : Int} {nm v : ByteArray} (h : isB k nm v = true) : (1 ≤ k ∧ k ≤ 4) ∧ nm.size ≤ 12 ∧ v.size ≤ 40 := by
  unfold isB nameB at h
  simp only [Bool.and_eq_true, decide_eq_true_eq] at h
  obtain ⟨⟨⟨⟨_, hn⟩, _⟩, _⟩, h2⟩ := h
  split at h2
  · rename_i hl
    unfold likeB at hl
    simp only [Bool.or_eq_true, beq_iff_eq] at hl
    exact ⟨by omega, hn, pparse_size h2⟩
  · simp only [Bool.and_eq_true, Bool.or_eq_true, beq_iff_eq, decide_eq_true_eq] at h2
    exact ⟨by omega, hn, by omega⟩
theorem listB_fits : Fits listR putL (fun M => listB M = true) := by
  refine (only_fits (row_fits (by decide) mtr_fits) listB).weaken fun M => ⟨fun h => h.2, fun h => ⟨?_, h⟩⟩
  unfold listB at h
  simp only [Bool.and_eq_true, decide_eq_true_eq] at h
  refine ⟨h.1, fun x hx => ?_⟩
  obtain ⟨i, hi, rfl⟩ := List.getElem_of_mem hx
  have h2 := List.all_eq_true.1 h.2 i (List.mem_range.2 hi)
  unfold okL isM at h2
  simp only [Bool.and_eq_true] at h2
  have e : M.getD i noM3 = M[i] := by rw [List.getD_eq_getElem?_getD, List.getElem?_eq_getElem hi]; rfl
  rw [e] at h2
  have := isB_kind h2.1
  omega
def mtrS (b : Byt) (q : Nat × Bool) : Mtr × (Nat × Bool) := dressSt (seqSt (runR byteR 0 b) (seqSt (runR (textR 12) ⟨#[]⟩ b) (runR (textR 40) ⟨#[]⟩ b))) mkM q
theorem steps_mtr (b : Byt) : StepsR b mtrR (mtrS b) := steps_dress (steps_seq (steps_run b byteR 0) (steps_seq (steps_run b _ _) (steps_run b _ _) (ends_text 12)) ends_byte) _
def listS (b : Byt) : Nat × Bool → List Mtr × (Nat × Bool) := onlySt (rowSt 5 b (mtrS b)) listB
theorem steps_list (b : Byt) : StepsR b listR (listS b) := steps_only (steps_row (steps_mtr b) ends_mtr 5) _
def readV {α : Type} (r : Option (α × Byt)) (b : Byt) (enc : α → AV) (none_ : AV) : AV := match r with
  | some p => .tup [enc p.1, I (b.length - p.2.length : Nat), Bo true]
  | none => .tup [none_, I 0, Bo false]
theorem runR_le {most : Nat} (b : Byt) (q : Nat × Bool) : (runR (numR most) 0 b q).1 ≤ most := by
  unfold runR
  split
  · exact Nat.zero_le _
  · split
    · exact Nat.zero_le _
    · rename_i p h
      simp only [numR] at h
      cases hg : getN 0 (b.drop q.1) with
      | none => simp [hg] at h
      | some x =>
        simp only [hg, Option.bind_some] at h
        split at h
        · simp only [Option.some.injEq] at h; rw [← h]; assumption
        · cases h
theorem mvs3_snoc (M : List Mtr) (x : Mtr) : mvs3 M ++ [mv3 x] = mvs3 (M ++ [x]) := by simp [mvs3]
theorem bel_tup3 {n : Nat} {x : AV} {i : Int} {c : Bool} (h : Bel n x) : Bel n (.tup [x, I i, Bo c]) := .tup _ fun j hj => by
  have : ∀ y ∈ ([x, I i, Bo c] : List AV), Bel n y := by
    intro y hy
    simp only [List.mem_cons, List.not_mem_nil, or_false] at hy
    rcases hy with rfl | rfl | rfl
    · exact h
    · exact .pl _
    · exact .pl _
  exact this _ (List.getElem_mem hj)
theorem mread_ans0 (σ : St) (b : Byt) (hb : b.length ≤ 50000) : Ans Try.prog 41 [.sl 1 (byv b)] σ (readV (listR b) b (fun M => .sl 3 (mvs3 M)) .nils) σ := by
  have hS := (steps_list b).top
  refine Ans.of_run' t41 (fun hbel _ => ?_)
  simp -implicitDefEqProofs only [c41, r41, go_sem, List.reduceReplicate, Nat.reduceAdd, Nat.reduceSub, Nat.reduceLT, Nat.reduceLeDiff, Nat.reduceMul, Nat.reduceEqDiff, reduceCtorEq, Int.reduceLE, Int.reduceLT, Int.reduceEq, Int.reduceNe, Int.reduceBEq, Int.reduceBNe, Int.reduceAdd, Int.reduceSub]
  refine CO.intro (new_ans σ b) ?_
  simp -implicitDefEqProofs only [go_sem, List.reduceReplicate, Nat.reduceAdd, Nat.reduceSub, Nat.reduceLT, Nat.reduceLeDiff, Nat.reduceMul, Nat.reduceEqDiff, reduceCtorEq, Int.reduceLE, Int.reduceLT, Int.reduceEq, Int.reduceNe, Int.reduceBEq, Int.reduceBNe, Int.reduceAdd, Int.reduceSub, List.append_assoc, List.length_append]
  generalize hq1 : runR (numR 5) 0 b (0, false) = q1
  have hin0 : Inb b (0, false) := Nat.zero_le _
  have hn := num_ans (σ ++ [rob b (0, false), .row 3 []]) σ.length b (0, false) 5 (by decide) (g0 _ _ _) hin0 hb
  rw [hq1, s0] at hn
  refine CO.intro hn ?_
  have hn5 : q1.1 ≤ 5 := by rw [← hq1]; exact runR_le b _
  have hin1 : Inb b q1.2 := by rw [← hq1]; exact run_inb _ _ _ _ hin0
  simp -implicitDefEqProofs only [go_sem, List.reduceReplicate, Nat.reduceAdd, Nat.reduceSub, Nat.reduceLT, Nat.reduceLeDiff, Nat.reduceMul, Nat.reduceEqDiff, reduceCtorEq, Int.reduceLE, Int.reduceLT, Int.reduceEq, Int.reduceNe, Int.reduceBEq, Int.reduceBNe, Int.reduceAdd, Int.reduceSub]
  refine Go.Ab.L.count q1.1 (fun i => mkE 40 [(5, .ptr σ.length 0), (6, .osl (σ.length + 1) i), (12, UN q1.1), (13, UN i)]) (fun i => σ ++ [rob b (itSt (mtrS b) q1.2 i).2, .row 3 (mvs3 (itSt (mtrS b) q1.2 i).1)]) ?_ ?_ rfl rfl
  · intro i hi J hJ
    have hitI := itSt_inb (steps_mtr b).inb q1.2 hin1 i
    have hlen := itSt_len (mtrS b) q1.2 i
    simp only [itSt] at hJ
    generalize itSt (mtrS b) q1.2 i = c at hJ hitI hlen ⊢
    obtain ⟨l, q⟩ := c
    simp only at hJ hitI hlen ⊢
    have d0 : decide ((i : Int) < q1.1) = true := dec_lt hi
    have w0 := wrapUN (n := i + 1) (by omega)
    have e0 : ((i : Int) + 1) = ((i + 1 : Nat) : Int) := rfl
    unfold mtrS dressSt seqSt at hJ
    simp only at hJ
    simp -implicitDefEqProofs only [mkE, List.foldl_cons, List.foldl_nil, go_sem, List.reduceReplicate, Nat.reduceAdd, Nat.reduceSub, Nat.reduceLT, Nat.reduceLeDiff, Nat.reduceMul, Nat.reduceEqDiff, reduceCtorEq, Int.reduceLE, Int.reduceLT, Int.reduceEq, Int.reduceNe, Int.reduceBEq, Int.reduceBNe, Int.reduceAdd, Int.reduceSub, d0]
    have h1 := byte_ans' (σ ++ [rob b q, .row 3 (mvs3 l)]) σ.length b q (g0 _ _ _) hitI hb
    have hi2 := run_inb byteR 0 b q hitI
    generalize runR byteR 0 b q = r1 at h1 hi2 hJ
    rw [s0] at h1
    refine CO.intro h1 ?_
    have h2 := text_ans (σ ++ [rob b r1.2, .row 3 (mvs3 l)]) σ.length b r1.2 12 (by decide) (g0 _ _ _) hi2 hb
    have hi3 := run_inb (textR 12) ⟨#[]⟩ b r1.2 hi2
    generalize runR (textR 12) ⟨#[]⟩ b r1.2 = r2 at h2 hi3 hJ
    rw [s0] at h2
    simp -implicitDefEqProofs only [go_sem, List.reduceReplicate, Nat.reduceAdd, Nat.reduceSub, Nat.reduceLT, Nat.reduceLeDiff, Nat.reduceMul, Nat.reduceEqDiff, reduceCtorEq, Int.reduceLE, Int.reduceLT, Int.reduceEq, Int.reduceNe, Int.reduceBEq, Int.reduceBNe, Int.reduceAdd, Int.reduceSub, bc]
    refine CO.intro h2 ?_
    have h3 := text_ans (σ ++ [rob b r2.2, .row 3 (mvs3 l)]) σ.length b r2.2 40 (by decide) (g0 _ _ _) hi3 hb
    generalize runR (textR 40) ⟨#[]⟩ b r2.2 = r3 at h3 hJ
    rw [s0] at h3
    simp -implicitDefEqProofs only [go_sem, List.reduceReplicate, Nat.reduceAdd, Nat.reduceSub, Nat.reduceLT, Nat.reduceLeDiff, Nat.reduceMul, Nat.reduceEqDiff, reduceCtorEq, Int.reduceLE, Int.reduceLT, Int.reduceEq, Int.reduceNe, Int.reduceBEq, Int.reduceBNe, Int.reduceAdd, Int.reduceSub]
    refine CO.intro h3 ?_
    have hl : (mvs3 l).length = i := by rw [mvs3_len, hlen]
    have hw : IntKind.i64.wrap (r1.1.toNat : Int) = (r1.1.toNat : Int) := wrapI (by have := r1.1.toNat_lt; omega)
    have hle : i + 1 ≤ 4294967296 := by omega
    have hsn := mvs3_snoc l (mkM (r1.1, r2.1, r3.1))
    simp -implicitDefEqProofs only [go_sem, List.reduceReplicate, Nat.reduceAdd, Nat.reduceSub, Nat.reduceLT, Nat.reduceLeDiff, Nat.reduceMul, Nat.reduceEqDiff, reduceCtorEq, Int.reduceLE, Int.reduceLT, Int.reduceEq, Int.reduceNe, Int.reduceBEq, Int.reduceBNe, Int.reduceAdd, Int.reduceSub, hw, g1, s1, hl, hle, List.length_singleton, e0, w0]
    rw [← hsn] at hJ
    exact hJ
  · intro J
    have hitI := itSt_inb (steps_mtr b).inb q1.2 hin1 q1.1
    have hlen := itSt_len (mtrS b) q1.2 q1.1
    have hL : listS b (0, false) = ((itSt (mtrS b) q1.2 q1.1).1, took (itSt (mtrS b) q1.2 q1.1).2 0 (listB (itSt (mtrS b) q1.2 q1.1).1)) := by
      unfold listS onlySt rowSt
      rw [hq1]
    rw [hL] at hS
    generalize itSt (mtrS b) q1.2 q1.1 = c at hS hitI hlen ⊢
    obtain ⟨l, q⟩ := c
    simp only at hS hitI hlen ⊢
    have hl : (mvs3 l).length = q1.1 := by rw [mvs3_len, hlen]
    have d0 : decide ((q1.1 : Int) < q1.1) = false := by simp
    simp -implicitDefEqProofs only [mkE, List.foldl_cons, List.foldl_nil, go_sem, List.reduceReplicate, Nat.reduceAdd, Nat.reduceSub, Nat.reduceLT, Nat.reduceLeDiff, Nat.reduceMul, Nat.reduceEqDiff, reduceCtorEq, Int.reduceLE, Int.reduceLT, Int.reduceEq, Int.reduceNe, Int.reduceBEq, Int.reduceBNe, Int.reduceAdd, Int.reduceSub, d0, g1, s1, hl]
    refine CO.intro (list_any _ l) ?_
    have h2 := refuse_ans (σ ++ [rob b q, .dead]) σ.length b q (listB l) (g0 _ _ _) hitI hb
    rw [s0] at h2
    simp -implicitDefEqProofs only [go_sem, List.reduceReplicate, Nat.reduceAdd, Nat.reduceSub, Nat.reduceLT, Nat.reduceLeDiff, Nat.reduceMul, Nat.reduceEqDiff, reduceCtorEq, Int.reduceLE, Int.reduceLT, Int.reduceEq, Int.reduceNe, Int.reduceBEq, Int.reduceBNe, Int.reduceAdd, Int.reduceSub]
    refine CO.intro h2 ?_
    have h3 := end_ans (σ ++ [rob b (took q 0 (listB l)), .dead]) σ.length b (took q 0 (listB l)) (g0 _ _ _)
    simp -implicitDefEqProofs only [go_sem, List.reduceReplicate, Nat.reduceAdd, Nat.reduceSub, Nat.reduceLT, Nat.reduceLeDiff, Nat.reduceMul, Nat.reduceEqDiff, reduceCtorEq, Int.reduceLE, Int.reduceLT, Int.reduceEq, Int.reduceNe, Int.reduceBEq, Int.reduceBNe, Int.reduceAdd, Int.reduceSub]
    refine CO.intro h3 ?_
    have hbm : Bel σ.length (.sl 3 (mvs3 l)) := bel_mvs3 _ _
    cases hr : listR b with
    | none =>
      have hb2 := hS.2 hr
      rw [hb2]
      simp -implicitDefEqProofs only [go_sem, List.reduceReplicate, Nat.reduceAdd, Nat.reduceSub, Nat.reduceLT, Nat.reduceLeDiff, Nat.reduceMul, Nat.reduceEqDiff, reduceCtorEq, Int.reduceLE, Int.reduceLT, Int.reduceEq, Int.reduceNe, Int.reduceBEq, Int.reduceBNe, Int.reduceAdd, Int.reduceSub]
      exact Fini.trim2 (σ' := σ) rfl rfl (Nat.le_refl _) (by unfold readV; exact bel_tup3 .nils) hbel
    | some p =>
      obtain ⟨M, t⟩ := p
      have hb2 := hS.1 M t hr
      simp only [Prod.mk.injEq] at hb2
      obtain ⟨rfl, hb2⟩ := hb2
      rw [hb2]
      simp -implicitDefEqProofs only [go_sem, List.reduceReplicate, Nat.reduceAdd, Nat.reduceSub, Nat.reduceLT, Nat.reduceLeDiff, Nat.reduceMul, Nat.reduceEqDiff, reduceCtorEq, Int.reduceLE, Int.reduceLT, Int.reduceEq, Int.reduceNe, Int.reduceBEq, Int.reduceBNe, Int.reduceAdd, Int.reduceSub]
      refine Fini.trim2 (σ' := σ) rfl rfl (Nat.le_refl _) ?_ hbel
      unfold readV
      exact bel_tup3 hbm
theorem mread_ans (σ : St) (b : Byt) (hb : b.length ≤ 50000) : Ans Try.prog 41 [.sl 1 (byv b)] σ (readV (listR b) b (fun M => .sl 3 (mvs3 M)) (.sl 3 [])) σ := by
  refine (mread_ans0 σ b hb).subR ?_
  unfold readV
  cases listR b with
  | none => exact .tup (.cons (.nils 3) (.refl _))
  | some p => exact .refl _
end Go.Proofs.Ytoadgajhkhejiaa
namespace Go.Proofs.Ytoadgajhkhejiaa
open Go Go.Ab Go.Cod
set_option maxRecDepth 100000
theorem tmod128 (n : Nat) : ((n : Int).tmod 128) = ((n % 128 : Nat) : Int) := rfl
theorem tdiv128 (n : Nat) : ((n : Int).tdiv 128) = ((n / 128 : Nat) : Int) := rfl
theorem add128 (n : Nat) : IntKind.u8.wrap (((n % 128 % 256 : Nat) : Int) + 128) = ((n % 128 + 128 : Nat) : Int) := by
  have : (((n % 128 % 256 : Nat) : Int) + 128) = ((n % 128 % 256 + 128 : Nat) : Int) := by push_cast; rfl
  rw [this, wrap8N]
  congr 1; omega
def orD (a d s : Nat) : Int := IntKind.u64.wrap ((BitVec.ofInt 64 (a : Int) ||| BitVec.ofInt 64 (IntKind.u64.wrap ((d : Int) * 2 ^ min s 64))).toNat : Int)
theorem orD_eq (a d s : Nat) (ha : a < 2 ^ s) (hs : s < 64) (hd : d * 2 ^ s < 18446744073709551616) : orD a d s = ((a + 2 ^ s * d : Nat) : Int) := or_shl a d s ha hs hd
theorem shl_bound (i c : Nat) (h : i < 9 ∨ i = 9 ∧ c % 128 ≤ 1) : c % 128 * 2 ^ (7 * i) < 18446744073709551616 := by
  rcases h with h | ⟨rfl, h⟩
  · have h4 : c % 128 < 2 ^ 7 := Nat.mod_lt _ (by decide)
    calc c % 128 * 2 ^ (7 * i) < 2 ^ 7 * 2 ^ (7 * i) := Nat.mul_lt_mul_of_pos_right h4 (Nat.two_pow_pos _)
      _ = 2 ^ (7 + 7 * i) := by rw [Nat.pow_add]
      _ ≤ 2 ^ 63 := Nat.pow_le_pow_right (by decide) (by omega)
      _ < 18446744073709551616 := by decide
  · calc c % 128 * 2 ^ (7 * 9) ≤ 1 * 2 ^ 63 := Nat.mul_le_mul_right _ h
      _ < 18446744073709551616 := by decide
section
variable (σ : St)
theorem dput_ans (n : Nat) (hn : n < 18446744073709551616) : Ans Try.prog 86 [UN n] σ (.osl σ.length (putN n).length) (σ ++ [.row 1 (byv (putN n))]) := by
  have h10 := putN_len10 hn
  refine Ans.of_run t86 ?_
  simp -implicitDefEqProofs only [c86, r86, go_sem, List.reduceReplicate, Nat.reduceAdd, Nat.reduceSub, Nat.reduceLT, Nat.reduceLeDiff, Nat.reduceMul, Nat.reduceEqDiff, reduceCtorEq, Int.reduceLE, Int.reduceLT, Int.reduceEq, Int.reduceNe, Int.reduceBEq, Int.reduceBNe, Int.reduceAdd, Int.reduceSub]
  refine Go.Ab.L.intro (α := { p : Nat × Byt // p.1 < 18446744073709551616 ∧ p.2 ++ putN p.1 = putN n }) (fun p => p.1.1) (fun p => mkE 20 [(0, UN p.1.1), (3, .osl σ.length p.1.2.length)]) (fun p => σ ++ [.row 1 (byv p.1.2)]) ?_ ⟨(n, []), hn, rfl⟩ rfl rfl
  rintro ⟨⟨m, pre⟩, hm, hp⟩ J hJ
  have hl : pre.length + (putN m).length ≤ 10 := by rw [← List.length_append, hp]; exact h10
  have hw := wrapUN hm
  have hle : pre.length + 1 ≤ 2 ^ 32 := by omega
  by_cases h : m < 128
  · have d1 : decide ((128 : Int) ≤ m) = false := by simp; omega
    have d2 : IntKind.u8.wrap (m : Int) = m := by rw [wrap8N]; congr 1; omega
    simp -implicitDefEqProofs only [mkE, List.foldl_cons, List.foldl_nil, go_sem, List.reduceReplicate, Nat.reduceAdd, Nat.reduceSub, Nat.reduceLT, Nat.reduceLeDiff, Nat.reduceMul, Nat.reduceEqDiff, reduceCtorEq, Int.reduceLE, Int.reduceLT, Int.reduceEq, Int.reduceNe, Int.reduceBEq, Int.reduceBNe, Int.reduceAdd, Int.reduceSub, d1, row1, byv_len, List.length_singleton, hle, d2]
    refine Fini.ret3 (n := 0) rfl ?_ ?_
    · show AV.osl σ.length (pre.length + 1) = AV.osl σ.length (putN n).length
      rw [← hp, putN_lt h]; simp
    · rw [List.set_append_right _ _ (Nat.le_refl _)]
      simp only [Nat.sub_self, List.set_cons_zero]
      rw [← hp, byv_append, putN_lt h, bc_of (show m < 256 by omega)]
      rfl
  · have d1 : decide ((128 : Int) ≤ m) = true := by simp; omega
    simp -implicitDefEqProofs only [mkE, List.foldl_cons, List.foldl_nil, go_sem, List.reduceReplicate, Nat.reduceAdd, Nat.reduceSub, Nat.reduceLT, Nat.reduceLeDiff, Nat.reduceMul, Nat.reduceEqDiff, reduceCtorEq, Int.reduceLE, Int.reduceLT, Int.reduceEq, Int.reduceNe, Int.reduceBEq, Int.reduceBNe, Int.reduceAdd, Int.reduceSub, d1, row1, byv_len, List.length_singleton, hle, tmod128, wrap8N (n := m % 128), add128, tdiv128, wrapUN (show m / 128 < 18446744073709551616 by omega)]
    rw [List.set_append_right _ _ (Nat.le_refl _)]
    simp only [Nat.sub_self, List.set_cons_zero]
    have hgo := hJ ⟨(m / 128, pre ++ [(m % 128 + 128).toUInt8]), by simp only; omega, by
      rw [← hp]; simp only [List.append_assoc, List.singleton_append]; rw [putN_ge h]⟩ (by simp only; omega)
    simp only [byv_append, List.length_append, List.length_singleton] at hgo
    rw [bc_of (show m % 128 + 128 < 256 by omega)]
    exact hgo
theorem dputtext_ans (s : ByteArray) (hs : s.size ≤ 4294967280) : Ans Try.prog 87 [Sx s] σ (.sl 1 (byv (txtB s))) σ := by
  have h10 := putN_len10 (n := s.size) (by omega)
  have hsz := size_list s
  have hw := wrapUN (n := s.size) (by omega)
  have hle : (putN s.size).length + s.size ≤ 2 ^ 32 := by omega
  refine Ans.of_run' t87 (fun hbel _ => ?_)
  simp -implicitDefEqProofs only [c87, r87, go_sem, List.reduceReplicate, Nat.reduceAdd, Nat.reduceSub, Nat.reduceLT, Nat.reduceLeDiff, Nat.reduceMul, Nat.reduceEqDiff, reduceCtorEq, Int.reduceLE, Int.reduceLT, Int.reduceEq, Int.reduceNe, Int.reduceBEq, Int.reduceBNe, Int.reduceAdd, Int.reduceSub, hw]
  refine CO.intro (dput_ans σ s.size (by omega)) ?_
  simp -implicitDefEqProofs only [go_sem, List.reduceReplicate, Nat.reduceAdd, Nat.reduceSub, Nat.reduceLT, Nat.reduceLeDiff, Nat.reduceMul, Nat.reduceEqDiff, reduceCtorEq, Int.reduceLE, Int.reduceLT, Int.reduceEq, Int.reduceNe, Int.reduceBEq, Int.reduceBNe, Int.reduceAdd, Int.reduceSub, strA_byv, row1, byv_len, hsz, hle]
  simp -implicitDefEqProofs only [go_sem, List.reduceReplicate, Nat.reduceAdd, Nat.reduceSub, Nat.reduceLT, Nat.reduceLeDiff, Nat.reduceMul, Nat.reduceEqDiff, reduceCtorEq, Int.reduceLE, Int.reduceLT, Int.reduceEq, Int.reduceNe, Int.reduceBEq, Int.reduceBNe, Int.reduceAdd, Int.reduceSub, g0, s0, byv_len, hsz, ← byv_append, List.length_append]
  exact Fini.trim2 (σ' := σ) (by show _ = some (AV.sl 1 (byv (txtB s))); rfl) rfl (Nat.le_refl _) (bel_byv _ _) hbel
theorem dget_ans (b : Byt) (hb : b.length ≤ 100000) : Ans Try.prog 82 [.sl 1 (byv b)] σ (getV b) σ := by
  refine Ans.of_run t82 ?_
  simp -implicitDefEqProofs only [c82, r82, go_sem, List.reduceReplicate, Nat.reduceAdd, Nat.reduceSub, Nat.reduceLT, Nat.reduceLeDiff, Nat.reduceMul, Nat.reduceEqDiff, reduceCtorEq, Int.reduceLE, Int.reduceLT, Int.reduceEq, Int.reduceNe, Int.reduceBEq, Int.reduceBNe, Int.reduceAdd, Int.reduceSub]
  refine Go.Ab.L.intro (α := { p : Nat × Nat // p.1 ≤ b.length ∧ ((p.1 ≤ 9 ∧ p.2 < 2 ^ (7 * p.1) ∧ getN 0 b = (getN p.1 (b.drop p.1)).map fun q => (p.2 + 2 ^ (7 * p.1) * q.1, q.2)) ∨ (p.1 = 10 ∧ getN 0 b = none)) }) (fun p => b.length - p.1.1)
    (fun p => mkE 51 [(0, .sl 1 (byv b)), (5, UN p.1.2), (6, I p.1.1)]) (fun _ => σ) ?_ ⟨(0, 0), Nat.zero_le _, .inl ⟨Nat.zero_le _, by simp, by cases h : getN 0 b <;> simp [h]⟩⟩ rfl rfl
  rintro ⟨⟨i, a⟩, hi, hinv⟩ J hJ
  simp only at hi hinv hJ
  rcases hinv with ⟨h9, ha, hg⟩ | ⟨h10, hg⟩
  · have h10 : decide ((i : Int) < 10) = true := by simp; omega
    by_cases hlt : i < b.length
    · have hx := byv_get b i hlt
      have hdr : b.drop i = b[i] :: b.drop (i + 1) := List.drop_eq_getElem_cons hlt
      rw [hdr] at hg
      have hcl := (b[i]).toNat_lt
      generalize hc : b[i] = c at hx hg hcl
      have hbeq9 : ((i : Int) == 9) = decide (i = 9) := by rw [Bool.eq_iff_iff]; simp; omega
      have hgt1 : decide ((1 : Int) < ((c.toNat % 128 : Nat) : Int)) = decide (1 < c.toNat % 128) := by rw [Bool.eq_iff_iff]; simp only [decide_eq_true_eq]; omega
      have hgt0 : decide ((0 : Int) < i) = decide (0 < i) := by rw [Bool.eq_iff_iff]; simp
      have hbeq0 : (((c.toNat % 128 : Nat) : Int) == 0) = decide (c.toNat % 128 = 0) := by rw [Bool.eq_iff_iff]; simp only [decide_eq_true_eq, beq_iff_eq]; omega
      have h128 : decide ((128 : Int) ≤ c.toNat) = decide (128 ≤ c.toNat) := by rw [Bool.eq_iff_iff]; simp only [decide_eq_true_eq]; omega
      have hwd := wrapUN (n := c.toNat % 128) (by omega)
      have hin := wrap_succ (i := i) (by omega)
      have h7 := wrap_mul7 (i := i) (by omega)
      have h7u := wrapUN (n := 7 * i) (by omega)
      simp only [getN] at hg
      by_cases hbad : i = 9 ∧ 1 < c.toNat % 128
      · rw [if_pos (.inl ⟨hbad.1, by omega⟩)] at hg
        rw [getV_none hg]
        simp -implicitDefEqProofs only [mkE, List.foldl_cons, List.foldl_nil, go_sem, List.reduceReplicate, Nat.reduceAdd, Nat.reduceSub, Nat.reduceLT, Nat.reduceLeDiff, Nat.reduceMul, Nat.reduceEqDiff, reduceCtorEq, Int.reduceLE, Int.reduceLT, Int.reduceEq, Int.reduceNe, Int.reduceBEq, Int.reduceBNe, Int.reduceAdd, Int.reduceSub, byv_len, nat_lt hlt, dec_lt hlt, h10, hx, bc, tmod128, hwd, hbeq9, hgt1, decide_eq_true hbad.1, decide_eq_true hbad.2]
        exact Fini.ret rfl
      · have go : ∀ (P : Prop), (decide (i = 9) = true → decide (1 < c.toNat % 128) = false → P) → (decide (i = 9) = false → P) → P := fun P p q => by
          by_cases h3 : i = 9
          · exact p (decide_eq_true h3) (decide_eq_false (by omega))
          · exact q (decide_eq_false h3)
        have hor := orD_eq a (c.toNat % 128) (7 * i) ha (by omega) (shl_bound i c.toNat (by omega))
        by_cases hend : c.toNat < 128
        · have e128 : decide (128 ≤ c.toNat) = false := decide_eq_false (by omega)
          have hmod : c.toNat % 128 = c.toNat := Nat.mod_eq_of_lt hend
          by_cases hz : c.toNat % 128 = 0 ∧ 0 < i
          · rw [if_pos (.inr ⟨hz.2, by omega⟩)] at hg
            rw [getV_none hg]
            refine go _ (fun x1 x2 => ?_) fun x1 => ?_
            · simp -implicitDefEqProofs only [mkE, List.foldl_cons, List.foldl_nil, go_sem, List.reduceReplicate, Nat.reduceAdd, Nat.reduceSub, Nat.reduceLT, Nat.reduceLeDiff, Nat.reduceMul, Nat.reduceEqDiff, reduceCtorEq, Int.reduceLE, Int.reduceLT, Int.reduceEq, Int.reduceNe, Int.reduceBEq, Int.reduceBNe, Int.reduceAdd, Int.reduceSub, byv_len, nat_lt hlt, dec_lt hlt, h10, hx, bc, tmod128, hwd, hbeq9, hgt1, hgt0, hbeq0, x1, x2, h7, h7u, h128, e128, decide_eq_true hz.1, decide_eq_true hz.2]
              exact Fini.ret rfl
            · simp -implicitDefEqProofs only [mkE, List.foldl_cons, List.foldl_nil, go_sem, List.reduceReplicate, Nat.reduceAdd, Nat.reduceSub, Nat.reduceLT, Nat.reduceLeDiff, Nat.reduceMul, Nat.reduceEqDiff, reduceCtorEq, Int.reduceLE, Int.reduceLT, Int.reduceEq, Int.reduceNe, Int.reduceBEq, Int.reduceBNe, Int.reduceAdd, Int.reduceSub, byv_len, nat_lt hlt, dec_lt hlt, h10, hx, bc, tmod128, hwd, hbeq9, hgt1, hgt0, hbeq0, x1, h7, h7u, h128, e128, decide_eq_true hz.1, decide_eq_true hz.2]
              exact Fini.ret rfl
          · rw [if_neg (by omega), if_pos hend] at hg
            simp only [Option.map_some] at hg
            rw [getV_some hg]
            have hfin : ∀ v : Int, v = ((a + 2 ^ (7 * i) * (c.toNat % 128) : Nat) : Int) → (.tup [.pl (.int .u64 v), I ((i + 1 : Nat) : Int), Bo true] : AV) = .tup [UN (a + 2 ^ (7 * i) * c.toNat), I (b.length - (b.drop (i + 1)).length : Nat), Bo true] := by
              rintro _ rfl
              rw [hmod, List.length_drop, show b.length - (b.length - (i + 1)) = i + 1 by omega]
            have go2 : ∀ (P : Prop), (decide (c.toNat % 128 = 0) = true → decide (0 < i) = false → P) → (decide (c.toNat % 128 = 0) = false → P) → P := fun P p q => by
              by_cases h3 : c.toNat % 128 = 0
              · exact p (decide_eq_true h3) (decide_eq_false (by omega))
              · exact q (decide_eq_false h3)
            refine go _ (fun x1 x2 => go2 _ (fun y1 y2 => ?_) fun y1 => ?_) fun x1 => go2 _ (fun y1 y2 => ?_) fun y1 => ?_
            · simp -implicitDefEqProofs only [mkE, List.foldl_cons, List.foldl_nil, go_sem, List.reduceReplicate, Nat.reduceAdd, Nat.reduceSub, Nat.reduceLT, Nat.reduceLeDiff, Nat.reduceMul, Nat.reduceEqDiff, reduceCtorEq, Int.reduceLE, Int.reduceLT, Int.reduceEq, Int.reduceNe, Int.reduceBEq, Int.reduceBNe, Int.reduceAdd, Int.reduceSub, byv_len, nat_lt hlt, dec_lt hlt, h10, hx, bc, tmod128, hwd, hbeq9, hgt1, hgt0, hbeq0, x1, x2, y1, y2, h7, h7u, h128, e128, hin]
              exact Fini.ret' rfl (hfin _ hor)
            · simp -implicitDefEqProofs only [mkE, List.foldl_cons, List.foldl_nil, go_sem, List.reduceReplicate, Nat.reduceAdd, Nat.reduceSub, Nat.reduceLT, Nat.reduceLeDiff, Nat.reduceMul, Nat.reduceEqDiff, reduceCtorEq, Int.reduceLE, Int.reduceLT, Int.reduceEq, Int.reduceNe, Int.reduceBEq, Int.reduceBNe, Int.reduceAdd, Int.reduceSub, byv_len, nat_lt hlt, dec_lt hlt, h10, hx, bc, tmod128, hwd, hbeq9, hgt1, hgt0, hbeq0, x1, x2, y1, h7, h7u, h128, e128, hin]
              exact Fini.ret' rfl (hfin _ hor)
            · simp -implicitDefEqProofs only [mkE, List.foldl_cons, List.foldl_nil, go_sem, List.reduceReplicate, Nat.reduceAdd, Nat.reduceSub, Nat.reduceLT, Nat.reduceLeDiff, Nat.reduceMul, Nat.reduceEqDiff, reduceCtorEq, Int.reduceLE, Int.reduceLT, Int.reduceEq, Int.reduceNe, Int.reduceBEq, Int.reduceBNe, Int.reduceAdd, Int.reduceSub, byv_len, nat_lt hlt, dec_lt hlt, h10, hx, bc, tmod128, hwd, hbeq9, hgt1, hgt0, hbeq0, x1, y1, y2, h7, h7u, h128, e128, hin]
              exact Fini.ret' rfl (hfin _ hor)
            · simp -implicitDefEqProofs only [mkE, List.foldl_cons, List.foldl_nil, go_sem, List.reduceReplicate, Nat.reduceAdd, Nat.reduceSub, Nat.reduceLT, Nat.reduceLeDiff, Nat.reduceMul, Nat.reduceEqDiff, reduceCtorEq, Int.reduceLE, Int.reduceLT, Int.reduceEq, Int.reduceNe, Int.reduceBEq, Int.reduceBNe, Int.reduceAdd, Int.reduceSub, byv_len, nat_lt hlt, dec_lt hlt, h10, hx, bc, tmod128, hwd, hbeq9, hgt1, hgt0, hbeq0, x1, y1, h7, h7u, h128, e128, hin]
              exact Fini.ret' rfl (hfin _ hor)
        · have e128 : decide (128 ≤ c.toNat) = true := decide_eq_true (by omega)
          have hgo := hJ ⟨(i + 1, a + 2 ^ (7 * i) * (c.toNat % 128)), by simp only; omega, (by
            simp only
            rcases Nat.lt_or_eq_of_le h9 with hi9 | hi9
            · refine .inl ⟨by omega, ?_, ?_⟩
              · have e1 : 2 ^ (7 * (i + 1)) = 2 ^ (7 * i) * 128 := by rw [Nat.mul_add, Nat.pow_add]
                have : c.toNat % 128 < 128 := Nat.mod_lt _ (by decide)
                have : 2 ^ (7 * i) * (c.toNat % 128 + 1) ≤ 2 ^ (7 * i) * 128 := Nat.mul_le_mul_left _ this
                rw [Nat.mul_add, Nat.mul_one] at this
                omega
              · rw [if_neg (by omega), if_neg hend] at hg
                rw [hg]
                have hm : c.toNat % 128 = c.toNat - 128 := by omega
                cases getN (i + 1) (b.drop (i + 1)) with
                | none => rfl
                | some q =>
                  simp only [Option.map_some, Option.some.injEq, Prod.mk.injEq, and_true]
                  rw [hm, show 7 * (i + 1) = 7 * i + 7 by omega, Nat.pow_add, Nat.mul_add, Nat.add_assoc, ← Nat.mul_assoc]
            · refine .inr ⟨by omega, ?_⟩
              rw [if_pos (.inl ⟨hi9, by omega⟩)] at hg
              exact hg)⟩ (by simp only; omega)
          have key : ∀ v : Int, v = ((a + 2 ^ (7 * i) * (c.toNat % 128) : Nat) : Int) → J (mkE 51 [(0, .sl 1 (byv b)), (5, .pl (.int .u64 v)), (6, I ((i + 1 : Nat) : Int))]) σ := by
            rintro _ rfl
            exact hgo
          refine go _ (fun x1 x2 => ?_) fun x1 => ?_
          · simp -implicitDefEqProofs only [mkE, List.foldl_cons, List.foldl_nil, go_sem, List.reduceReplicate, Nat.reduceAdd, Nat.reduceSub, Nat.reduceLT, Nat.reduceLeDiff, Nat.reduceMul, Nat.reduceEqDiff, reduceCtorEq, Int.reduceLE, Int.reduceLT, Int.reduceEq, Int.reduceNe, Int.reduceBEq, Int.reduceBNe, Int.reduceAdd, Int.reduceSub, byv_len, nat_lt hlt, dec_lt hlt, h10, hx, bc, tmod128, hwd, hbeq9, hgt1, x1, x2, h7, h7u, h128, e128, hin]
            exact key _ hor
          · simp -implicitDefEqProofs only [mkE, List.foldl_cons, List.foldl_nil, go_sem, List.reduceReplicate, Nat.reduceAdd, Nat.reduceSub, Nat.reduceLT, Nat.reduceLeDiff, Nat.reduceMul, Nat.reduceEqDiff, reduceCtorEq, Int.reduceLE, Int.reduceLT, Int.reduceEq, Int.reduceNe, Int.reduceBEq, Int.reduceBNe, Int.reduceAdd, Int.reduceSub, byv_len, nat_lt hlt, dec_lt hlt, h10, hx, bc, tmod128, hwd, hbeq9, hgt1, x1, h7, h7u, h128, e128, hin]
            exact key _ hor
    · have hn : b.drop i = [] := List.drop_eq_nil_of_le (by omega)
      rw [hn] at hg
      simp only [getN, Option.map_none] at hg
      rw [getV_none hg]
      simp -implicitDefEqProofs only [mkE, List.foldl_cons, List.foldl_nil, go_sem, List.reduceReplicate, Nat.reduceAdd, Nat.reduceSub, Nat.reduceLT, Nat.reduceLeDiff, Nat.reduceMul, Nat.reduceEqDiff, reduceCtorEq, Int.reduceLE, Int.reduceLT, Int.reduceEq, Int.reduceNe, Int.reduceBEq, Int.reduceBNe, Int.reduceAdd, Int.reduceSub, byv_len, nat_nlt hlt, dec_nlt hlt]
      exact Fini.ret rfl
  · subst h10
    have h10 : decide (((10 : Nat) : Int) < 10) = false := by simp
    rw [getV_none hg]
    by_cases hlt : 10 < b.length
    · simp -implicitDefEqProofs only [mkE, List.foldl_cons, List.foldl_nil, go_sem, List.reduceReplicate, Nat.reduceAdd, Nat.reduceSub, Nat.reduceLT, Nat.reduceLeDiff, Nat.reduceMul, Nat.reduceEqDiff, reduceCtorEq, Int.reduceLE, Int.reduceLT, Int.reduceEq, Int.reduceNe, Int.reduceBEq, Int.reduceBNe, Int.reduceAdd, Int.reduceSub, byv_len, dec_lt hlt, h10]
      exact Fini.ret rfl
    · simp -implicitDefEqProofs only [mkE, List.foldl_cons, List.foldl_nil, go_sem, List.reduceReplicate, Nat.reduceAdd, Nat.reduceSub, Nat.reduceLT, Nat.reduceLeDiff, Nat.reduceMul, Nat.reduceEqDiff, reduceCtorEq, Int.reduceLE, Int.reduceLT, Int.reduceEq, Int.reduceNe, Int.reduceBEq, Int.reduceBNe, Int.reduceAdd, Int.reduceSub, byv_len, dec_nlt hlt]
      exact Fini.ret rfl
theorem dgettext_ans (b : Byt) (most : Nat) (hb : b.length ≤ 100000) (hm : most < 9223372036854775808) : Ans Try.prog 83 [.sl 1 (byv b), I most] σ (textV most b) σ := by
  refine Ans.of_run t83 ?_
  simp -implicitDefEqProofs only [c83, r83, go_sem, List.reduceReplicate, Nat.reduceAdd, Nat.reduceSub, Nat.reduceLT, Nat.reduceLeDiff, Nat.reduceMul, Nat.reduceEqDiff, reduceCtorEq, Int.reduceLE, Int.reduceLT, Int.reduceEq, Int.reduceNe, Int.reduceBEq, Int.reduceBNe, Int.reduceAdd, Int.reduceSub]
  refine CO.intro (dget_ans σ b hb) ?_
  have hneg : decide ((most : Int) < 0) = false := by simp
  have hwm := wrapUN (n := most) (by omega)
  cases hg : getN 0 b with
  | none =>
    rw [getV_none hg, textV_none (textR_none hg)]
    simp -implicitDefEqProofs only [go_sem, List.reduceReplicate, Nat.reduceAdd, Nat.reduceSub, Nat.reduceLT, Nat.reduceLeDiff, Nat.reduceMul, Nat.reduceEqDiff, reduceCtorEq, Int.reduceLE, Int.reduceLT, Int.reduceEq, Int.reduceNe, Int.reduceBEq, Int.reduceBNe, Int.reduceAdd, Int.reduceSub]
    exact Fini.ret rfl
  | some p =>
    obtain ⟨n, t⟩ := p
    obtain ⟨hbt, hn, _⟩ := getN_inv b 0 n t (by omega) hg
    have hn : n < 18446744073709551616 := hn
    have hlen : b.length = (putN n).length + t.length := by rw [hbt, List.length_append]
    have hk : b.length - t.length = (putN n).length := by omega
    have hsub := subN (a := b.length) (b := (putN n).length) (by omega) hb
    have hsub2 : b.length - (putN n).length = t.length := by omega
    have hwt := wrapUN (n := t.length) (by omega)
    have e1 : decide ((most : Int) < n) = decide (most < n) := decNN most n
    have e2 : decide ((t.length : Int) < n) = decide (t.length < n) := decNN _ n
    rw [getV_some hg, hk]
    have hR := textR_of (most := most) hg
    by_cases h2 : n ≤ t.length
    · have x2 : decide (t.length < n) = false := decide_eq_false (by omega)
      by_cases h1 : n ≤ most
      · have x1 : decide (most < n) = false := decide_eq_false (by omega)
        rw [if_pos ⟨h1, h2⟩] at hR
        have hwn := wrapI (a := n) (by omega)
        have hadd := addN (a := (putN n).length) (b := n) (by omega)
        have hlo : ((putN n).length : Int) ≤ ((putN n).length + n : Nat) := by omega
        have hhi : (((putN n).length + n : Nat) : Int) ≤ (b.length : Nat) := by omega
        have hcut : (b.take ((putN n).length + n)).drop (putN n).length = t.take n := by
          rw [hbt, List.take_append, List.take_of_length_le (by omega), Nat.add_sub_cancel_left, List.drop_left]
        rw [textV_some hR]
        simp -implicitDefEqProofs only [go_sem, List.reduceReplicate, Nat.reduceAdd, Nat.reduceSub, Nat.reduceLT, Nat.reduceLeDiff, Nat.reduceMul, Nat.reduceEqDiff, reduceCtorEq, Int.reduceLE, Int.reduceLT, Int.reduceEq, Int.reduceNe, Int.reduceBEq, Int.reduceBNe, Int.reduceAdd, Int.reduceSub, hneg, hwm, e1, x1, hsub, hsub2, hwt, e2, x2, hwn, hadd, byv_len, hlo, hhi, AV.isStr, byv_take, byv_drop, hcut, byv_all', bc, byteL_byv, textOf_byv]
        refine Fini.ret' rfl ?_
        rw [List.length_drop]
        have : b.length - (t.length - n) = (putN n).length + n := by omega
        rw [this]; rfl
      · have x1 : decide (most < n) = true := decide_eq_true (by omega)
        rw [if_neg (by omega)] at hR
        rw [textV_none hR]
        simp -implicitDefEqProofs only [go_sem, List.reduceReplicate, Nat.reduceAdd, Nat.reduceSub, Nat.reduceLT, Nat.reduceLeDiff, Nat.reduceMul, Nat.reduceEqDiff, reduceCtorEq, Int.reduceLE, Int.reduceLT, Int.reduceEq, Int.reduceNe, Int.reduceBEq, Int.reduceBNe, Int.reduceAdd, Int.reduceSub, hneg, hwm, e1, x1, byv_len, hsub, hsub2, hwt, e2, x2]
        exact Fini.ret rfl
    · have x2 : decide (t.length < n) = true := decide_eq_true (by omega)
      rw [if_neg (by omega)] at hR
      rw [textV_none hR]
      simp -implicitDefEqProofs only [go_sem, List.reduceReplicate, Nat.reduceAdd, Nat.reduceSub, Nat.reduceLT, Nat.reduceLeDiff, Nat.reduceMul, Nat.reduceEqDiff, reduceCtorEq, Int.reduceLE, Int.reduceLT, Int.reduceEq, Int.reduceNe, Int.reduceBEq, Int.reduceBNe, Int.reduceAdd, Int.reduceSub, hneg, hwm, byv_len, hsub, hsub2, hwt, e2, x2]
      exact Fini.ret rfl
end
end Go.Proofs.Ytoadgajhkhejiaa
namespace Go.Proofs.Ytoadgajhkhejiaa
open Go Go.Ab Go.Cod
set_option maxRecDepth 100000
theorem txtB_len (s : ByteArray) (h : s.size ≤ 1000000) : (txtB s).length ≤ 10 + s.size := by
  have h10 := putN_len10 (n := s.size) (by omega)
  rw [txtB, List.length_append, size_list]
  omega
theorem listB_at {M : List Mtr} (h : listB M = true) : M.length ≤ 5 ∧ ∀ x ∈ M, (1 ≤ x.1 ∧ x.1 ≤ 4) ∧ x.2.1.size ≤ 12 ∧ x.2.2.size ≤ 40 := by
  unfold listB at h
  simp only [Bool.and_eq_true, decide_eq_true_eq] at h
  refine ⟨h.1, fun x hx => ?_⟩
  obtain ⟨i, hi, rfl⟩ := List.getElem_of_mem hx
  have h2 := List.all_eq_true.1 h.2 i (List.mem_range.2 hi)
  unfold okL isM at h2
  simp only [Bool.and_eq_true] at h2
  have e : M.getD i noM3 = M[i] := by rw [List.getD_eq_getElem?_getD, List.getElem?_eq_getElem hi]; rfl
  rw [e] at h2
  exact isB_kind h2.1
def preL (M : List Mtr) (i : Nat) : Byt := putN M.length ++ laidMany putM (M.take i)
theorem preL_succ (M : List Mtr) (i : Nat) (h : i < M.length) : preL M (i + 1) = preL M i ++ putM M[i] := by
  unfold preL laidMany
  rw [List.take_succ_eq_append_getElem h, List.flatMap_append, List.append_assoc]
  simp
theorem preL_all (M : List Mtr) : preL M M.length = putL M := by unfold preL putL laidRow; rw [List.take_length]
theorem preL_len {M : List Mtr} (h : listB M = true) : ∀ i, i ≤ M.length → (preL M i).length ≤ 10 + 100 * i
  | 0, _ => by
    have := (listB_at h).1
    unfold preL laidMany
    simp only [List.take_zero, List.flatMap_nil, List.append_nil]
    have := putN_len10 (n := M.length) (by omega)
    omega
  | i + 1, hi => by
    have ih := preL_len h i (by omega)
    have hx := (listB_at h).2 M[i] (List.getElem_mem (by omega))
    have h1 := txtB_len (M[i]).2.1 (by omega)
    have h2 := txtB_len (M[i]).2.2 (by omega)
    rw [preL_succ M i (by omega), List.length_append]
    unfold putM
    simp only [List.length_cons, List.length_append]
    omega
def bytesL (M : List Mtr) : Byt := if listB M then putL M else []
theorem kind_bc {k : Int} (h : 1 ≤ k ∧ k ≤ 4) : IntKind.u8.wrap k = ((k.toNat.toUInt8.toNat : Nat) : Int) := by
  obtain ⟨n, rfl⟩ := Int.eq_ofNat_of_zero_le (show 0 ≤ k by omega)
  have : n < 256 := by omega
  rw [wrap8N, Nat.mod_eq_of_lt this, Int.toNat_natCast, toNat_toUInt8 this]
section
variable (σ : St)
theorem mbytes_ans (M : List Mtr) : Ans Try.prog 43 [.sl 3 (mvs3 M)] σ (.sl 1 (byv (bytesL M))) σ := by
  unfold bytesL
  cases hL : listB M with
  | false =>
    have : Ans Try.prog 43 [.sl 3 (mvs3 M)] σ .nils σ := by
      refine Ans.of_run t43 ?_
      simp -implicitDefEqProofs only [c43, r43, go_sem, List.reduceReplicate, Nat.reduceAdd, Nat.reduceSub, Nat.reduceLT, Nat.reduceLeDiff, Nat.reduceMul, Nat.reduceEqDiff, reduceCtorEq, Int.reduceLE, Int.reduceLT, Int.reduceEq, Int.reduceNe, Int.reduceBEq, Int.reduceBNe, Int.reduceAdd, Int.reduceSub]
      refine CO.intro (list_any σ M) ?_
      rw [hL]
      simp -implicitDefEqProofs only [go_sem, List.reduceReplicate, Nat.reduceAdd, Nat.reduceSub, Nat.reduceLT, Nat.reduceLeDiff, Nat.reduceMul, Nat.reduceEqDiff, reduceCtorEq, Int.reduceLE, Int.reduceLT, Int.reduceEq, Int.reduceNe, Int.reduceBEq, Int.reduceBNe, Int.reduceAdd, Int.reduceSub]
      exact Fini.ret rfl
    exact this.subR (.nils 1)
  | true =>
    obtain ⟨h5, hM⟩ := listB_at hL
    have hpl := preL_len hL
    have hw := wrapUN (n := M.length) (by omega)
    have e00 : preL M 0 = putN M.length := by simp [preL, laidMany]
    refine Ans.of_run' t43 (fun hbel _ => ?_)
    simp -implicitDefEqProofs only [c43, r43, go_sem, List.reduceReplicate, Nat.reduceAdd, Nat.reduceSub, Nat.reduceLT, Nat.reduceLeDiff, Nat.reduceMul, Nat.reduceEqDiff, reduceCtorEq, Int.reduceLE, Int.reduceLT, Int.reduceEq, Int.reduceNe, Int.reduceBEq, Int.reduceBNe, Int.reduceAdd, Int.reduceSub]
    refine CO.intro (list_any σ M) ?_
    rw [hL]
    simp -implicitDefEqProofs only [go_sem, List.reduceReplicate, Nat.reduceAdd, Nat.reduceSub, Nat.reduceLT, Nat.reduceLeDiff, Nat.reduceMul, Nat.reduceEqDiff, reduceCtorEq, Int.reduceLE, Int.reduceLT, Int.reduceEq, Int.reduceNe, Int.reduceBEq, Int.reduceBNe, Int.reduceAdd, Int.reduceSub, mvs3_len, hw]
    refine CO.intro (put_ans σ M.length (by omega)) ?_
    simp -implicitDefEqProofs only [go_sem, List.reduceReplicate, Nat.reduceAdd, Nat.reduceSub, Nat.reduceLT, Nat.reduceLeDiff, Nat.reduceMul, Nat.reduceEqDiff, reduceCtorEq, Int.reduceLE, Int.reduceLT, Int.reduceEq, Int.reduceNe, Int.reduceBEq, Int.reduceBNe, Int.reduceAdd, Int.reduceSub, mvs3_len]
    refine Go.Ab.L.count M.length (fun i => mkE 37 [(3, .osl σ.length (preL M i).length), (13, .sl 3 (mvs3 M)), (14, I M.length), (15, I i)]) (fun i => σ ++ [.row 1 (byv (preL M i))]) ?_ ?_ (by rw [e00]; rfl) (by rw [e00])
    · intro i hi J hJ
      have hx := mvs3_get M i hi
      have hxm := hM M[i] (List.getElem_mem hi)
      have hp := hpl (i + 1) (by omega)
      rw [preL_succ M i hi] at hJ hp
      generalize M[i] = x at hx hxm hJ hp
      obtain ⟨k, nm, v⟩ := x
      simp only at hxm
      generalize preL M i = pre at hJ hp ⊢
      have hkb := kind_bc hxm.1
      have hin := wrap_succ (i := i) (by omega)
      have h1 := txtB_len nm (by omega)
      have h2 := txtB_len v (by omega)
      unfold putM at hJ hp
      simp only [List.length_append, List.length_cons] at hp
      have l1 : pre.length + 1 ≤ 4294967296 := by omega
      have l2 : pre.length + 1 + (txtB nm).length ≤ 4294967296 := by omega
      have l3 : pre.length + 1 + (txtB nm).length + (txtB v).length ≤ 4294967296 := by omega
      simp -implicitDefEqProofs only [mkE, List.foldl_cons, List.foldl_nil, go_sem, List.reduceReplicate, Nat.reduceAdd, Nat.reduceSub, Nat.reduceLT, Nat.reduceLeDiff, Nat.reduceMul, Nat.reduceEqDiff, reduceCtorEq, Int.reduceLE, Int.reduceLT, Int.reduceEq, Int.reduceNe, Int.reduceBEq, Int.reduceBNe, Int.reduceAdd, Int.reduceSub, mvs3_len, nat_lt hi, dec_lt hi, hx, mv3, hkb, g0, s0, byv_len, l1, List.length_singleton]
      refine CO.intro (puttext_ans _ nm (by omega)) ?_
      simp -implicitDefEqProofs only [go_sem, List.reduceReplicate, Nat.reduceAdd, Nat.reduceSub, Nat.reduceLT, Nat.reduceLeDiff, Nat.reduceMul, Nat.reduceEqDiff, reduceCtorEq, Int.reduceLE, Int.reduceLT, Int.reduceEq, Int.reduceNe, Int.reduceBEq, Int.reduceBNe, Int.reduceAdd, Int.reduceSub, g0, s0, byv_len, byv_all', bc, l1, l2, List.length_append, List.length_singleton]
      refine CO.intro (puttext_ans _ v (by omega)) ?_
      simp -implicitDefEqProofs only [go_sem, List.reduceReplicate, Nat.reduceAdd, Nat.reduceSub, Nat.reduceLT, Nat.reduceLeDiff, Nat.reduceMul, Nat.reduceEqDiff, reduceCtorEq, Int.reduceLE, Int.reduceLT, Int.reduceEq, Int.reduceNe, Int.reduceBEq, Int.reduceBNe, Int.reduceAdd, Int.reduceSub, g0, s0, byv_len, byv_all', bc, l1, l2, l3, List.length_append, List.length_singleton, hin]
      have e : pre ++ k.toNat.toUInt8 :: (txtB nm ++ txtB v) = pre ++ [k.toNat.toUInt8] ++ txtB nm ++ txtB v := by simp
      simp only at hJ
      rw [e] at hJ
      simp only [byv_append, List.length_append, List.length_singleton] at hJ
      exact hJ
    · intro J
      have d0 : decide ((M.length : Int) < M.length) = false := by simp
      simp -implicitDefEqProofs only [mkE, List.foldl_cons, List.foldl_nil, go_sem, List.reduceReplicate, Nat.reduceAdd, Nat.reduceSub, Nat.reduceLT, Nat.reduceLeDiff, Nat.reduceMul, Nat.reduceEqDiff, reduceCtorEq, Int.reduceLE, Int.reduceLT, Int.reduceEq, Int.reduceNe, Int.reduceBEq, Int.reduceBNe, Int.reduceAdd, Int.reduceSub, d0, g0, s0, byv_len]
      exact Fini.trim2 (σ' := σ) (by rw [preL_all]; rfl) rfl (Nat.le_refl _) (by first | exact bel_byv _ _ | (rw [preL_all]; exact bel_byv _ _)) hbel
theorem dbytes_ans (M : List Mtr) (hs : ∀ x ∈ M, x.2.1.size ≤ 100000) : Ans Try.prog 44 [.sl 3 (mvs3 M)] σ (.sl 1 (byv (bytesL M))) σ := by
  unfold bytesL
  cases hL : listB M with
  | false =>
    have : Ans Try.prog 44 [.sl 3 (mvs3 M)] σ .nils σ := by
      refine Ans.of_run t44 ?_
      simp -implicitDefEqProofs only [c44, r44, go_sem, List.reduceReplicate, Nat.reduceAdd, Nat.reduceSub, Nat.reduceLT, Nat.reduceLeDiff, Nat.reduceMul, Nat.reduceEqDiff, reduceCtorEq, Int.reduceLE, Int.reduceLT, Int.reduceEq, Int.reduceNe, Int.reduceBEq, Int.reduceBNe, Int.reduceAdd, Int.reduceSub]
      refine CO.intro (dlist_ans σ M hs) ?_
      rw [hL]
      simp -implicitDefEqProofs only [go_sem, List.reduceReplicate, Nat.reduceAdd, Nat.reduceSub, Nat.reduceLT, Nat.reduceLeDiff, Nat.reduceMul, Nat.reduceEqDiff, reduceCtorEq, Int.reduceLE, Int.reduceLT, Int.reduceEq, Int.reduceNe, Int.reduceBEq, Int.reduceBNe, Int.reduceAdd, Int.reduceSub]
      exact Fini.ret rfl
    exact this.subR (.nils 1)
  | true =>
    obtain ⟨h5, hM⟩ := listB_at hL
    have hpl := preL_len hL
    have hw := wrapUN (n := M.length) (by omega)
    have e00 : preL M 0 = putN M.length := by simp [preL, laidMany]
    refine Ans.of_run' t44 (fun hbel _ => ?_)
    simp -implicitDefEqProofs only [c44, r44, go_sem, List.reduceReplicate, Nat.reduceAdd, Nat.reduceSub, Nat.reduceLT, Nat.reduceLeDiff, Nat.reduceMul, Nat.reduceEqDiff, reduceCtorEq, Int.reduceLE, Int.reduceLT, Int.reduceEq, Int.reduceNe, Int.reduceBEq, Int.reduceBNe, Int.reduceAdd, Int.reduceSub]
    refine CO.intro (dlist_ans σ M hs) ?_
    rw [hL]
    simp -implicitDefEqProofs only [go_sem, List.reduceReplicate, Nat.reduceAdd, Nat.reduceSub, Nat.reduceLT, Nat.reduceLeDiff, Nat.reduceMul, Nat.reduceEqDiff, reduceCtorEq, Int.reduceLE, Int.reduceLT, Int.reduceEq, Int.reduceNe, Int.reduceBEq, Int.reduceBNe, Int.reduceAdd, Int.reduceSub, mvs3_len, hw]
    refine CO.intro (dput_ans σ M.length (by omega)) ?_
    simp -implicitDefEqProofs only [go_sem, List.reduceReplicate, Nat.reduceAdd, Nat.reduceSub, Nat.reduceLT, Nat.reduceLeDiff, Nat.reduceMul, Nat.reduceEqDiff, reduceCtorEq, Int.reduceLE, Int.reduceLT, Int.reduceEq, Int.reduceNe, Int.reduceBEq, Int.reduceBNe, Int.reduceAdd, Int.reduceSub, mvs3_len]
    refine Go.Ab.L.count M.length (fun i => mkE 43 [(0, .sl 3 (mvs3 M)), (3, .osl σ.length (preL M i).length), (4, I i)]) (fun i => σ ++ [.row 1 (byv (preL M i))]) ?_ ?_ (by rw [e00]; rfl) (by rw [e00])
    · intro i hi J hJ
      have hx := mvs3_get M i hi
      have hxm := hM M[i] (List.getElem_mem hi)
      have hp := hpl (i + 1) (by omega)
      rw [preL_succ M i hi] at hJ hp
      generalize M[i] = x at hx hxm hJ hp
      obtain ⟨k, nm, v⟩ := x
      simp only at hxm
      generalize preL M i = pre at hJ hp ⊢
      have hkb := kind_bc hxm.1
      have hin := wrap_succ (i := i) (by omega)
      have h1 := txtB_len nm (by omega)
      have h2 := txtB_len v (by omega)
      unfold putM at hJ hp
      simp only [List.length_append, List.length_cons] at hp
      have l1 : pre.length + 1 ≤ 4294967296 := by omega
      have l2 : pre.length + 1 + (txtB nm).length ≤ 4294967296 := by omega
      have l3 : pre.length + 1 + (txtB nm).length + (txtB v).length ≤ 4294967296 := by omega
      simp -implicitDefEqProofs only [mkE, List.foldl_cons, List.foldl_nil, go_sem, List.reduceReplicate, Nat.reduceAdd, Nat.reduceSub, Nat.reduceLT, Nat.reduceLeDiff, Nat.reduceMul, Nat.reduceEqDiff, reduceCtorEq, Int.reduceLE, Int.reduceLT, Int.reduceEq, Int.reduceNe, Int.reduceBEq, Int.reduceBNe, Int.reduceAdd, Int.reduceSub, mvs3_len, nat_lt hi, dec_lt hi, hx, mv3, hkb, g0, s0, byv_len, l1, List.length_singleton]
      refine CD.intro (dputtext_ans _ nm (by omega)) ?_
      simp -implicitDefEqProofs only [go_sem, List.reduceReplicate, Nat.reduceAdd, Nat.reduceSub, Nat.reduceLT, Nat.reduceLeDiff, Nat.reduceMul, Nat.reduceEqDiff, reduceCtorEq, Int.reduceLE, Int.reduceLT, Int.reduceEq, Int.reduceNe, Int.reduceBEq, Int.reduceBNe, Int.reduceAdd, Int.reduceSub, mvs3_len, nat_lt hi, hx, mv3, g0, s0, byv_len, byv_all', bc, l1, l2, List.length_append, List.length_singleton]
      refine CD.intro (dputtext_ans _ v (by omega)) ?_
      simp -implicitDefEqProofs only [go_sem, List.reduceReplicate, Nat.reduceAdd, Nat.reduceSub, Nat.reduceLT, Nat.reduceLeDiff, Nat.reduceMul, Nat.reduceEqDiff, reduceCtorEq, Int.reduceLE, Int.reduceLT, Int.reduceEq, Int.reduceNe, Int.reduceBEq, Int.reduceBNe, Int.reduceAdd, Int.reduceSub, g0, s0, byv_len, byv_all', bc, l1, l2, l3, List.length_append, List.length_singleton, hin]
      have e : pre ++ k.toNat.toUInt8 :: (txtB nm ++ txtB v) = pre ++ [k.toNat.toUInt8] ++ txtB nm ++ txtB v := by simp
      simp only at hJ
      rw [e] at hJ
      simp only [byv_append, List.length_append, List.length_singleton] at hJ
      exact hJ
    · intro J
      have d0 : decide ((M.length : Int) < M.length) = false := by simp
      simp -implicitDefEqProofs only [mkE, List.foldl_cons, List.foldl_nil, go_sem, List.reduceReplicate, Nat.reduceAdd, Nat.reduceSub, Nat.reduceLT, Nat.reduceLeDiff, Nat.reduceMul, Nat.reduceEqDiff, reduceCtorEq, Int.reduceLE, Int.reduceLT, Int.reduceEq, Int.reduceNe, Int.reduceBEq, Int.reduceBNe, Int.reduceAdd, Int.reduceSub, d0, mvs3_len, g0, s0, byv_len]
      exact Fini.trim2 (σ' := σ) (by rw [preL_all]; rfl) rfl (Nat.le_refl _) (by first | exact bel_byv _ _ | (rw [preL_all]; exact bel_byv _ _)) hbel
end
end Go.Proofs.Ytoadgajhkhejiaa
namespace Go.Proofs.Ytoadgajhkhejiaa
open Go Go.Ab Go.Cod
set_option maxRecDepth 100000
theorem mtrR_nil : mtrR [] = none := rfl
theorem mtrR_cons (c : UInt8) (u : Byt) : mtrR (c :: u) = (textR 12 u).bind fun p => (textR 40 p.2).map fun q => (mkM (c, p.1, q.1), q.2) := by
  simp only [mtrR, dressR, seqR, byteR, Option.bind_some]
  cases textR 12 u with
  | none => rfl
  | some p =>
    simp only [Option.bind_some]
    cases textR 40 p.2 with
    | none => rfl
    | some q => rfl
theorem many_succ {α : Type} (r : Rd α) (n : Nat) (b : Byt) : manyR r (n + 1) b = (r b).bind fun p => (manyR r n p.2).map fun q => (p.1 :: q.1, q.2) := rfl
theorem dread_ans0 (σ : St) (b : Byt) (hb : b.length ≤ 50000) : Ans Try.prog 42 [.sl 1 (byv b)] σ (readV (listR b) b (fun M => .sl 3 (mvs3 M)) .nils) σ := by
  refine Ans.of_run' t42 (fun hbel _ => ?_)
  simp -implicitDefEqProofs only [c42, r42, go_sem, List.reduceReplicate, Nat.reduceAdd, Nat.reduceSub, Nat.reduceLT, Nat.reduceLeDiff, Nat.reduceMul, Nat.reduceEqDiff, reduceCtorEq, Int.reduceLE, Int.reduceLT, Int.reduceEq, Int.reduceNe, Int.reduceBEq, Int.reduceBNe, Int.reduceAdd, Int.reduceSub]
  refine CO.intro (dget_ans σ b (by omega)) ?_
  cases hg : getN 0 b with
  | none =>
    have hR : listR b = none := by simp only [listR, onlyR, rowR, numR, hg, Option.bind_none]
    rw [getV_none hg, hR]
    simp -implicitDefEqProofs only [go_sem, List.reduceReplicate, Nat.reduceAdd, Nat.reduceSub, Nat.reduceLT, Nat.reduceLeDiff, Nat.reduceMul, Nat.reduceEqDiff, reduceCtorEq, Int.reduceLE, Int.reduceLT, Int.reduceEq, Int.reduceNe, Int.reduceBEq, Int.reduceBNe, Int.reduceAdd, Int.reduceSub]
    exact Fini.ret rfl
  | some p =>
    obtain ⟨n, t⟩ := p
    rw [getV_some hg]
    have e1 : decide ((5 : Int) < n) = decide (5 < n) := decNN 5 n
    by_cases h5 : 5 < n
    · have hR : listR b = none := by simp only [listR, onlyR, rowR, numR, hg, Option.bind_some, show ¬ n ≤ 5 by omega, if_false, Option.bind_none]
      rw [hR]
      simp -implicitDefEqProofs only [go_sem, List.reduceReplicate, Nat.reduceAdd, Nat.reduceSub, Nat.reduceLT, Nat.reduceLeDiff, Nat.reduceMul, Nat.reduceEqDiff, reduceCtorEq, Int.reduceLE, Int.reduceLT, Int.reduceEq, Int.reduceNe, Int.reduceBEq, Int.reduceBNe, Int.reduceAdd, Int.reduceSub, e1, decide_eq_true h5]
      exact Fini.ret rfl
    · have hN : numR 5 b = some (n, t) := by simp only [numR, hg, Option.bind_some, show n ≤ 5 by omega, if_true]
      have hR : listR b = (manyR mtrR n t).bind fun x => if listB x.1 then some x else none := by simp only [listR, onlyR, rowR, hN, Option.bind_some]
      obtain ⟨hd0, _, hl0⟩ := (ends_num 5).drop (b := b) (a := 0) (Nat.zero_le _) hN
      have hwn := wrapI (a := n) (by omega)
      simp -implicitDefEqProofs only [go_sem, List.reduceReplicate, Nat.reduceAdd, Nat.reduceSub, Nat.reduceLT, Nat.reduceLeDiff, Nat.reduceMul, Nat.reduceEqDiff, reduceCtorEq, Int.reduceLE, Int.reduceLT, Int.reduceEq, Int.reduceNe, Int.reduceBEq, Int.reduceBNe, Int.reduceAdd, Int.reduceSub, e1, decide_eq_false h5]
      refine Go.Ab.L.intro (α := { p : Nat × List Mtr × Nat // p.1 ≤ n ∧ p.2.1.length = p.1 ∧ p.2.2 ≤ b.length ∧ (∀ x ∈ p.2.1, x.2.1.size ≤ 100000) ∧ manyR mtrR n t = (manyR mtrR (n - p.1) (b.drop p.2.2)).map fun r => (p.2.1 ++ r.1, r.2) }) (fun p => n - p.1.1)
        (fun p => mkE 84 [(0, .sl 1 (byv b)), (5, UN n), (6, I p.1.2.2), (8, .osl σ.length p.1.1), (9, I p.1.1)]) (fun p => σ ++ [.row 3 (mvs3 p.1.2.1)]) ?_ ⟨(0, [], b.length - t.length), Nat.zero_le _, rfl, Nat.sub_le _ _, by simp, by rw [hd0]; cases manyR mtrR n t <;> simp⟩ rfl rfl
      rintro ⟨⟨i, l, at_⟩, hi, hll, hat, hsz, hm⟩ J hJ
      simp only at hi hll hat hsz hm hJ
      have hlm : (mvs3 l).length = i := by rw [mvs3_len, hll]
      have hbm : ∀ k, Bel k (.sl 3 (mvs3 l)) := fun k => bel_mvs3 _ _
      -- a way out: nothing was read
      by_cases hlt : i < n
      · obtain ⟨m, hmm⟩ : ∃ m, n - i = m + 1 := ⟨n - i - 1, by omega⟩
        rw [hmm, many_succ] at hm
        have d0 : decide ((i : Int) < n) = true := dec_lt hlt
        by_cases hend : at_ < b.length
        · have hx := byv_get b at_ hend
          have hdr : b.drop at_ = b[at_] :: b.drop (at_ + 1) := List.drop_eq_getElem_cons hend
          have d1 : decide ((b.length : Int) ≤ at_) = false := by simp; omega
          have w1 := wrap_succ (i := at_) (by omega)
          have hcl := (b[at_]).toNat_lt
          rw [hdr] at hm
          generalize b[at_] = c at hx hm hcl
          have wc : IntKind.i64.wrap (c.toNat : Int) = (c.toNat : Int) := wrapI (by omega)
          have hle1 : (((at_ + 1 : Nat) : Int)) ≤ (b.length : Nat) := by omega
          simp -implicitDefEqProofs only [mkE, List.foldl_cons, List.foldl_nil, go_sem, List.reduceReplicate, Nat.reduceAdd, Nat.reduceSub, Nat.reduceLT, Nat.reduceLeDiff, Nat.reduceMul, Nat.reduceEqDiff, reduceCtorEq, Int.reduceLE, Int.reduceLT, Int.reduceEq, Int.reduceNe, Int.reduceBEq, Int.reduceBNe, Int.reduceAdd, Int.reduceSub, hwn, d0, byv_len, d1, nat_lt hend, hx, bc, wc, w1, hle1, byv_take, byv_drop, List.take_length, Int.le_refl]
          refine CO.intro (dgettext_ans _ (b.drop (at_ + 1)) 12 (by rw [List.length_drop]; omega) (by decide)) ?_
          cases ht1 : textR 12 (b.drop (at_ + 1)) with
          | none =>
            rw [mtrR_cons, ht1] at hm
            simp only [Option.bind_none, Option.map_none] at hm
            rw [hm] at hR
            simp only [Option.bind_none] at hR
            rw [textV_none ht1, hR]
            simp -implicitDefEqProofs only [go_sem, List.reduceReplicate, Nat.reduceAdd, Nat.reduceSub, Nat.reduceLT, Nat.reduceLeDiff, Nat.reduceMul, Nat.reduceEqDiff, reduceCtorEq, Int.reduceLE, Int.reduceLT, Int.reduceEq, Int.reduceNe, Int.reduceBEq, Int.reduceBNe, Int.reduceAdd, Int.reduceSub]
            exact Fini.trim2 (σ' := σ) rfl rfl (Nat.le_refl _) (by unfold readV; exact bel_tup3 .nils) hbel
          | some x1 =>
            obtain ⟨nm, u2⟩ := x1
            obtain ⟨q1, q2, q3⟩ := (ends_text 12).drop (b := b) (a := at_ + 1) (by omega) ht1
            have hs1 := ((text_fits (most := 12) (by decide)).bwd _ _ _ ht1).1
            have a1 := addN (a := at_ + 1) (b := (b.drop (at_ + 1)).length - u2.length) (by rw [List.length_drop]; omega)
            have e2 : at_ + 1 + ((b.drop (at_ + 1)).length - u2.length) = b.length - u2.length := by rw [List.length_drop]; omega
            rw [e2] at a1
            have hle2 : (((b.length - u2.length : Nat) : Int)) ≤ (b.length : Nat) := by omega
            rw [textV_some ht1]
            simp -implicitDefEqProofs only [go_sem, List.reduceReplicate, Nat.reduceAdd, Nat.reduceSub, Nat.reduceLT, Nat.reduceLeDiff, Nat.reduceMul, Nat.reduceEqDiff, reduceCtorEq, Int.reduceLE, Int.reduceLT, Int.reduceEq, Int.reduceNe, Int.reduceBEq, Int.reduceBNe, Int.reduceAdd, Int.reduceSub, a1, byv_len, hle2, byv_take, byv_drop, List.take_length, Int.le_refl, q1]
            refine CO.intro (dgettext_ans _ u2 40 (by omega) (by decide)) ?_
            rw [mtrR_cons, ht1] at hm
            simp only [Option.bind_some] at hm
            cases ht2 : textR 40 u2 with
            | none =>
              rw [ht2] at hm
              simp only [Option.bind_none, Option.map_none] at hm
              rw [hm] at hR
              simp only [Option.bind_none] at hR
              rw [textV_none ht2, hR]
              simp -implicitDefEqProofs only [go_sem, List.reduceReplicate, Nat.reduceAdd, Nat.reduceSub, Nat.reduceLT, Nat.reduceLeDiff, Nat.reduceMul, Nat.reduceEqDiff, reduceCtorEq, Int.reduceLE, Int.reduceLT, Int.reduceEq, Int.reduceNe, Int.reduceBEq, Int.reduceBNe, Int.reduceAdd, Int.reduceSub]
              exact Fini.trim2 (σ' := σ) rfl rfl (Nat.le_refl _) (by unfold readV; exact bel_tup3 .nils) hbel
            | some x2 =>
              obtain ⟨v, u3⟩ := x2
              have ht2' : textR 40 (b.drop (b.length - u2.length)) = some (v, u3) := by rw [q1]; exact ht2
              obtain ⟨z1, z2, z3⟩ := (ends_text 40).drop (b := b) (a := b.length - u2.length) (by omega) ht2'
              have a2 := addN (a := b.length - u2.length) (b := u2.length - u3.length) (by omega)
              have e3 : b.length - u2.length + (u2.length - u3.length) = b.length - u3.length := by omega
              rw [e3] at a2
              rw [ht2] at hm
              simp only [Option.bind_some, Option.map_some] at hm
              have hin := wrap_succ (i := i) (by omega)
              have hle : i + 1 ≤ 4294967296 := by omega
              have hgo := hJ ⟨(i + 1, l ++ [mkM (c, nm, v)], b.length - u3.length), by simp only; omega, by simp [hll], by simp only; omega, (by
                intro y hy
                simp only [List.mem_append, List.mem_singleton] at hy
                rcases hy with hy | rfl
                · exact hsz y hy
                · simp only [mkM]; omega), (by
                simp only
                rw [hm, z1, show n - (i + 1) = m by omega]
                cases manyR mtrR m u3 <;> simp)⟩ (by simp only; omega)
              have hsn := mvs3_snoc l (mkM (c, nm, v))
              rw [textV_some ht2]
              simp -implicitDefEqProofs only [go_sem, List.reduceReplicate, Nat.reduceAdd, Nat.reduceSub, Nat.reduceLT, Nat.reduceLeDiff, Nat.reduceMul, Nat.reduceEqDiff, reduceCtorEq, Int.reduceLE, Int.reduceLT, Int.reduceEq, Int.reduceNe, Int.reduceBEq, Int.reduceBNe, Int.reduceAdd, Int.reduceSub, a2, g0, s0, hlm, List.length_singleton, hle, hin]
              simp only [← hsn] at hgo
              exact hgo
        · have hnil : b.drop at_ = [] := List.drop_eq_nil_of_le (by omega)
          have d1 : decide ((b.length : Int) ≤ at_) = true := by simp; omega
          rw [hnil, mtrR_nil] at hm
          simp only [Option.bind_none, Option.map_none] at hm
          rw [hm] at hR
          simp only [Option.bind_none] at hR
          rw [hR]
          simp -implicitDefEqProofs only [mkE, List.foldl_cons, List.foldl_nil, go_sem, List.reduceReplicate, Nat.reduceAdd, Nat.reduceSub, Nat.reduceLT, Nat.reduceLeDiff, Nat.reduceMul, Nat.reduceEqDiff, reduceCtorEq, Int.reduceLE, Int.reduceLT, Int.reduceEq, Int.reduceNe, Int.reduceBEq, Int.reduceBNe, Int.reduceAdd, Int.reduceSub, hwn, d0, byv_len, d1]
          exact Fini.trim2 (σ' := σ) rfl rfl (Nat.le_refl _) (by unfold readV; exact bel_tup3 .nils) hbel
      · have hie : i = n := by omega
        subst hie
        have d0 : decide ((i : Int) < i) = false := by simp
        rw [Nat.sub_self] at hm
        simp only [manyR, Option.map_some, List.append_nil] at hm
        rw [hm] at hR
        simp only [Option.bind_some] at hR
        simp -implicitDefEqProofs only [mkE, List.foldl_cons, List.foldl_nil, go_sem, List.reduceReplicate, Nat.reduceAdd, Nat.reduceSub, Nat.reduceLT, Nat.reduceLeDiff, Nat.reduceMul, Nat.reduceEqDiff, reduceCtorEq, Int.reduceLE, Int.reduceLT, Int.reduceEq, Int.reduceNe, Int.reduceBEq, Int.reduceBNe, Int.reduceAdd, Int.reduceSub, hwn, d0, g0, s0, hlm]
        refine CO.intro (dlist_ans _ l hsz) ?_
        cases hlb : listB l with
        | false =>
          rw [hlb] at hR
          simp only [Bool.false_eq_true, if_false] at hR
          rw [hR]
          simp -implicitDefEqProofs only [go_sem, List.reduceReplicate, Nat.reduceAdd, Nat.reduceSub, Nat.reduceLT, Nat.reduceLeDiff, Nat.reduceMul, Nat.reduceEqDiff, reduceCtorEq, Int.reduceLE, Int.reduceLT, Int.reduceEq, Int.reduceNe, Int.reduceBEq, Int.reduceBNe, Int.reduceAdd, Int.reduceSub]
          exact Fini.trim2 (σ' := σ) rfl rfl (Nat.le_refl _) (by unfold readV; exact bel_tup3 .nils) hbel
        | true =>
          rw [hlb] at hR
          simp only [if_true] at hR
          have hlen : b.length - (b.drop at_).length = at_ := by rw [List.length_drop]; omega
          rw [hR]
          unfold readV
          simp only [hlen]
          simp -implicitDefEqProofs only [go_sem, List.reduceReplicate, Nat.reduceAdd, Nat.reduceSub, Nat.reduceLT, Nat.reduceLeDiff, Nat.reduceMul, Nat.reduceEqDiff, reduceCtorEq, Int.reduceLE, Int.reduceLT, Int.reduceEq, Int.reduceNe, Int.reduceBEq, Int.reduceBNe, Int.reduceAdd, Int.reduceSub]
          exact Fini.trim2 (σ' := σ) rfl rfl (Nat.le_refl _) (bel_tup3 (hbm _)) hbel
theorem dread_ans (σ : St) (b : Byt) (hb : b.length ≤ 50000) : Ans Try.prog 42 [.sl 1 (byv b)] σ (readV (listR b) b (fun M => .sl 3 (mvs3 M)) (.sl 3 [])) σ := by
  refine (dread_ans0 σ b hb).subR ?_
  unfold readV
  cases listR b with
  | none => exact .tup (.cons (.nils 3) (.refl _))
  | some p => exact .refl _
end Go.Proofs.Ytoadgajhkhejiaa
namespace Go.Ab
open Go Go.ChangeShapes Go.WideShapes Go.RowKit
structure Kept (W W' : World) : Prop where
  size : W.heap.size ≤ W'.heap.size
  block : ∀ b, b < W.heap.size → W'.heap[b]? = W.heap[b]?
  os : W'.os = W.os
  output : W'.output = W.output
theorem Kept.frame {W W' : World} (h : Kept W W') (may : MemPlace → Prop) : W.keptBut W' may := by
  refine ⟨h.os, h.output, fun i hi => ?_⟩
  rw [h.block i hi]
  split <;> simp_all
theorem Kept.same {W W' : World} (h : Kept W W') {p : MemPlace} (hp : p.block < W.heap.size) : W.sameAt W' p := by
  cases p with
  | cell b o => exact World.cell?_of_block (w := W) (h.block b hp)
  | map b => exact h.block b hp
theorem good_nil (W : World) (ν : Nat → Value) : Good (fun _ => False) [] ν W :=
  ⟨fun l o h => by simp at h, fun b h => h.elim, fun l l' b h => by obtain ⟨o, h, _⟩ := h; simp at h⟩
abbrev noR : Ref → Value → Prop := RefOK [] fun _ => .nilFunc
theorem Ans.law {P : Program} {f : FuncId} {fn : Func} {args : List AV} {r : AV} {σ' : St} (hf : P.funcs[f]? = some fn) (hname : (fn.name == "runtime.NumGoroutine") = false) (hbody : fn.body.isNone = false)
    (h : Ans P f args [] r σ') {W : World} {vs : List Value} (hv : Reps (fun _ => False) noR W args vs) :
    Calls P f vs.toArray W fun e W' => ∃ v, e = .returned v ∧ Kept W W' ∧ ∃ M' R', Rep M' R' W' r v := by
  rcases h _ _ W vs (good_nil W _) hv with ⟨_, h⟩ | ⟨v, w', h, _⟩
  · refine h.mono fun e W' ⟨v, he, M', ν', g', l', hr⟩ => ⟨v, he, ⟨l'.size, fun b hb => l'.keep b hb ?_, l'.out.1, l'.out.2⟩, M', _, hr⟩
    rintro ⟨l, ⟨o, ho, _⟩, _⟩
    simp at ho
  · exfalso
    have h1 : fn.name ≠ "runtime.NumGoroutine" := by simpa using hname
    have h2 : fn.body ≠ none := by intro e; simp [e] at hbody
    simp [callFunc, hf, h1, h2] at h
theorem trodAll_stays {H : Type} {enc : TypeId × Value → H} {P : Program} (hl : laidOutB P = true) {W W' : World} (hk : Kept W W') {sp : Nat → Bool} :
    ∀ {ts : List TypeId} {vs : List Value} {ds : List (DataW H)} {ps : List MemPlace}, (∀ t ∈ ts, P.readableRec t = true ∧ t < P.types.size) → DataW.TrodAll enc P W 0 (fun _ => true) true ts vs ds ps →
      (∀ p ∈ ps, p.block < W.heap.size ∧ sp p.block = true) → DataW.TrodAll enc P W' 0 sp true ts vs ds ps
  | [], _, _, _, _, h, _ => by
    obtain ⟨rfl, rfl, rfl⟩ := trodAll_nil h
    rfl
  | t :: ts, vs, ds, ps, ht, h, hp => by
    obtain ⟨v, vs1, d, ds1, a, b, rfl, rfl, rfl, h1, h2⟩ := trodAll_cons h
    exact ⟨a, b, WideElems.Trod_stays hl (ht t (List.mem_cons_self)).1 (ht t (List.mem_cons_self)).2 h1 (fun x hx => hk.same (hp x (by simp [hx])).1) (fun x hx => (hp x (by simp [hx])).2),
      trodAll_stays hl hk (fun t' ht' => ht t' (List.mem_cons_of_mem _ ht')) h2 (fun x hx => hp x (by simp [hx])), rfl⟩
theorem law_post {H : Type} {enc : TypeId × Value → H} {P : Program} {fn : Func} {s : ChangeSpec} {W W' : World} {args : Array Value} {ds gs : List (DataW H)} {before : List MemPlace} {tb : TypeId}
    (hl : laidOutB P = true) (hts : ∀ t ∈ fn.params.toList, P.readableRec t = true ∧ t < P.types.size) (hvars : s.vars = []) (hres : fn.resultTypes = #[tb]) (hb : P.underlying tb = some .bool)
    (hW : DataW.Whole enc P fn.params.toList s.vars false W args.toList ds gs before) (hspec : ∀ ds : List (DataW H), ds.length = fn.params.size → (s.fn H ds).results = [.lit (.bool true)] ∧ (s.fn H ds).args = ds ∧ (s.fn H ds).vars = [])
    (hk : Kept W W') : s.post enc P fn false true false false W args (.bool true) W' := by
  have hlt := hW.lt
  obtain ⟨p, q, hA, hV, rfl, hfz, hnd⟩ := id hW
  have hV' := hV
  rw [hvars] at hV'
  obtain ⟨rfl, rfl⟩ := trodVars_none hV'
  have hlen : ds.length = fn.params.size := by
    have : ∀ {ts : List TypeId} {vs : List Value} {ds : List (DataW H)} {ps : List MemPlace}, DataW.TrodAll enc P W 0 (fun _ => true) true ts vs ds ps → ds.length = ts.length := by
      intro ts
      induction ts with
      | nil => intro vs ds ps h; obtain ⟨_, rfl, _⟩ := trodAll_nil h; rfl
      | cons t ts ih => intro vs ds ps h; obtain ⟨v, vs1, d, ds1, a, b, rfl, rfl, rfl, h1, h2⟩ := trodAll_cons h; simp [ih h2]
    simpa using this hA
  obtain ⟨e1, e2, e3⟩ := hspec ds hlen
  refine ⟨ds, [], p ++ [], [], p, [], hW, ?_, ?_, ?_, hk.frame _, fun h => by cases h⟩
  · rw [List.append_nil, e1, hres]
    exact ⟨[], [], shut_bool hb true, rfl, rfl⟩
  · rw [List.append_nil, e2]
    exact trodAll_stays hl hk hts hA fun x hx => ⟨hlt x (by simp [hx]), by simpa using hlt x (by simp [hx])⟩
  · rw [List.append_nil, e3, hvars]
    exact rfl
end Go.Ab
namespace Go.Ab
open Go Go.ChangeShapes Go.WideShapes
abbrev noM : Nat → Prop := fun _ => False
def Reads (P : Program) (t : TypeId) (f : Nat) (Q : List AV → Prop) : Prop :=
  ∀ (H : Type) (enc : TypeId × Value → H) (W : World) (cs : List Value) (x : DataW H × List MemPlace), DataW.trod enc P W 0 (fun _ => true) true f t cs = some x →
    ∃ xs, Reps noM noR W xs cs ∧ Q xs
section
variable {P : Program} {t : TypeId} {W : World}
theorem reps_nil : Reps noM noR W [] [] := ⟨rfl, fun j h => by simp at h⟩
theorem reps_one {x : AV} {v : Value} (h : Rep noM noR W x v) : Reps noM noR W [x] [v] :=
  ⟨rfl, fun j h1 h2 => by
    match j, h1, h2 with
    | 0, _, _ => exact h⟩
theorem reps_append {a b : List AV} {c d : List Value} (h : Reps noM noR W a c) (h' : Reps noM noR W b d) : Reps noM noR W (a ++ b) (c ++ d) := by
  refine ⟨by simp [h.1, h'.1], fun j h1 h2 => ?_⟩
  by_cases hj : j < a.length
  · rw [List.getElem_append_left hj, List.getElem_append_left (by have := h.1; omega)]
    exact h.2 j hj _
  · have e := h.1
    simp only [List.length_append] at h1 h2
    rw [List.getElem_append_right (by omega), List.getElem_append_right (by omega)]
    have := h'.2 (j - a.length) (by omega) (by omega)
    simpa [e] using this
theorem Reads.mono {f : Nat} {Q Q' : List AV → Prop} (h : Reads P t f Q) (hq : ∀ xs, Q xs → Q' xs) : Reads P t f Q' := by
  intro H enc W cs x hx
  obtain ⟨xs, h1, h2⟩ := h H enc W cs x hx
  exact ⟨xs, h1, hq _ h2⟩
theorem Reads.zero {Q : List AV → Prop} : Reads P t 0 Q := by
  intro H enc W cs x hx
  simp [DataW.trod] at hx
def QInt (k : IntKind) : List AV → Prop := fun xs => ∃ n, (Lit.int k n).wf = true ∧ xs = [.pl (.int k n)]
def QBool : List AV → Prop := fun xs => ∃ b, xs = [.pl (.bool b)]
def QText : List AV → Prop := fun xs => ∃ s : ByteArray, s.size ≤ maxLen ∧ xs = [.pl (.string s)]
theorem Reads.int {k : IntKind} (h : P.underlying t = some (.int k)) (f : Nat) : Reads P t f (QInt k) := by
  intro H enc W cs x hx
  obtain ⟨n, rfl, _, hw⟩ := DataW.trod_int h hx
  exact ⟨_, reps_one (.pl _), n, hw, rfl⟩
theorem Reads.bool (h : P.underlying t = some .bool) (f : Nat) : Reads P t f QBool := by
  intro H enc W cs x hx
  obtain ⟨n, rfl, _⟩ := DataW.trod_bool h hx
  exact ⟨_, reps_one (.pl _), n, rfl⟩
theorem Reads.text (h : P.underlying t = some .string) (f : Nat) : Reads P t f QText := by
  intro H enc W cs x hx
  obtain ⟨s, rfl, _, hs⟩ := DataW.trod_string h hx
  exact ⟨_, reps_one (.pl _), s, hs, rfl⟩
def QStr : List (List AV → Prop) → List AV → Prop
  | [], xs => xs = []
  | Q :: Qs, xs => ∃ a b, xs = a ++ b ∧ Q a ∧ QStr Qs b
def laidF (P : Program) : Nat → List Field → Option Nat
  | o, [] => some o
  | o, f :: fs => if f.offset = o then laidF P (o + P.cellsOf f.type) fs else none
theorem laidF_le : ∀ {l : List Field} {o E : Nat}, laidF P o l = some E → o ≤ E
  | [], o, E, h => by simp [laidF] at h; omega
  | f :: l, o, E, h => by
    simp only [laidF] at h
    split at h
    · have := laidF_le h; omega
    · simp at h
theorem drop_take_add {α : Type} (cs : List α) (o s E : Nat) (h : o + s ≤ E) : (cs.drop o).take (E - o) = (cs.drop o).take s ++ (cs.drop (o + s)).take (E - (o + s)) := by
  have : E - o = s + (E - (o + s)) := by omega
  rw [this, List.take_add, List.drop_drop]
theorem reads_fields {H : Type} {enc : TypeId × Value → H} {cs : List Value} {n : Nat} : ∀ (l : List Field) (Qs : List (List AV → Prop)) (o E : Nat), laidF P o l = some E → E ≤ cs.length → l.length = Qs.length →
    (∀ p ∈ l.zip Qs, Reads P p.1.type n p.2) → (∀ g ∈ l, ∃ y, DataW.trod enc P W 0 (fun _ => true) true n g.type ((cs.drop g.offset).take (P.cellsOf g.type)) = some y) →
    ∃ xs, Reps noM noR W xs ((cs.drop o).take (E - o)) ∧ QStr Qs xs
  | [], [], o, E, h, _, _, _, _ => by
    simp [laidF] at h
    subst h
    exact ⟨[], by simpa using reps_nil, rfl⟩
  | [], _ :: _, _, _, _, _, h, _, _ => by simp at h
  | _ :: _, [], _, _, _, _, h, _, _ => by simp at h
  | g :: l, Q :: Qs, o, E, h, hE, hl, hr, hg => by
    simp only [laidF] at h
    split at h
    · rename_i ho
      have hle := laidF_le h
      obtain ⟨y, hy⟩ := hg g List.mem_cons_self
      obtain ⟨a, ha, hQ⟩ := hr (g, Q) (by simp) H enc W _ _ hy
      obtain ⟨b, hb, hQs⟩ := reads_fields l Qs _ E h hE (by simpa using hl) (fun p hp => hr p (by simp [hp])) (fun g' hg' => hg g' (by simp [hg']))
      refine ⟨a ++ b, ?_, a, b, rfl, hQ, hQs⟩
      rw [drop_take_add cs o (P.cellsOf g.type) E hle]
      rw [ho] at ha
      exact reps_append ha hb
    · simp at h
theorem Reads.struct {fs : Array Field} {Qs : List (List AV → Prop)} {f : Nat} (h : P.underlying t = some (.struct fs)) (hl : laidF P 0 fs.toList = some (P.cellsOf t)) (hq : fs.toList.length = Qs.length)
    (hr : ∀ p ∈ fs.toList.zip Qs, Reads P p.1.type f p.2) : Reads P t (f + 1) (QStr Qs) := by
  intro H enc W cs x hx
  obtain ⟨xs, n, hn, _, hlen, hxl, hget⟩ := DataW.trod_struct h hx
  obtain rfl : f = n := by omega
  obtain ⟨ys, h1, h2⟩ := reads_fields (W := W) (enc := enc) (cs := cs) fs.toList Qs 0 (P.cellsOf t) hl (by omega) hq hr (fun g hg => by
    obtain ⟨i, hi, rfl⟩ := List.getElem_of_mem hg
    have hi' : i < fs.size := by simpa using hi
    have := hget i (fs[i]) (by simp [hi'])
    rw [List.getElem?_eq_getElem (by omega)] at this
    exact ⟨_, by simpa using this⟩)
  refine ⟨ys, ?_, h2⟩
  have : (cs.drop 0).take (P.cellsOf t - 0) = cs := by simp [← hlen]
  rwa [this] at h1
theorem Reads.array {n : Nat} {e : TypeId} {Q : List AV → Prop} {f : Nat} (h : P.underlying t = some (.array n e)) (hc : n * P.cellsOf e = P.cellsOf t) (hr : Reads P e f Q) : Reads P t (f + 1) (QStr (List.replicate n Q)) := by
  intro H enc W cs x hx
  obtain ⟨xs, m, hm, _, hlen, hxl, hget⟩ := DataW.trod_array h hx
  obtain rfl : f = m := by omega
  have key : ∀ k, k ≤ n → ∃ xs, Reps noM noR W xs ((cs.drop ((n - k) * P.cellsOf e)).take (n * P.cellsOf e - (n - k) * P.cellsOf e)) ∧ QStr (List.replicate k Q) xs := by
    intro k
    induction k with
    | zero => intro _; exact ⟨[], by simpa using reps_nil, rfl⟩
    | succ k ih =>
      intro hk
      obtain ⟨b, hb, hQb⟩ := ih (by omega)
      have h1 := hget (n - (k + 1)) (by omega)
      rw [List.getElem?_eq_getElem (by omega)] at h1
      obtain ⟨a, ha, hQa⟩ := hr H enc W _ _ h1
      refine ⟨a ++ b, ?_, a, b, rfl, hQa, hQb⟩
      have e1 : (n - (k + 1)) * P.cellsOf e + P.cellsOf e = (n - k) * P.cellsOf e := by
        have : n - k = (n - (k + 1)) + 1 := by omega
        rw [this, Nat.add_mul, Nat.one_mul]
      have e2 : (n - k) * P.cellsOf e ≤ n * P.cellsOf e := Nat.mul_le_mul_right _ (by omega)
      rw [drop_take_add cs ((n - (k + 1)) * P.cellsOf e) (P.cellsOf e) (n * P.cellsOf e) (by omega), e1]
      exact reps_append ha hb
  obtain ⟨ys, h1, h2⟩ := key n (Nat.le_refl _)
  refine ⟨ys, ?_, h2⟩
  have : (cs.drop ((n - n) * P.cellsOf e)).take (n * P.cellsOf e - (n - n) * P.cellsOf e) = cs := by simp [hc, ← hlen]
  rwa [this] at h1
def wrapC (ag : Bool) (y : List AV) : AV := if ag then .agg y else y.headD .any
def QSlice (sz : Nat) (ag : Bool) (Q : List AV → Prop) : List AV → Prop := fun xs =>
  xs = [.nils] ∨ ∃ ys : List (List AV), (∀ y ∈ ys, Q y) ∧ ys.length ≤ maxLen ∧ xs = [.sl sz (ys.map (wrapC ag))]
theorem Reads.slice {e : TypeId} {Q : List AV → Prop} {f sz : Nat} (ag : Bool) (h : P.underlying t = some (.slice e)) (hsz : P.cellsOf e = sz) (hpos : 0 < sz) (hr : Reads P e f Q)
    (hQ : ∀ y, Q y → y.length = sz → (wrapC ag y).cells = y) : Reads P t (f + 1) (QSlice sz ag Q) := by
  subst hsz
  intro H enc W cs x hx
  rcases DataW.trod_slice h hx with ⟨rfl, _⟩ | ⟨a, len, cap, elems, rest, n, hn, rfl, _, _, hlc, hcm, hel, hget, _, _⟩
  · exact ⟨[.nils], reps_one .nils, .inl rfl⟩
  · obtain rfl : f = n := by omega
    by_cases h0 : len = 0
    · subst h0
      exact ⟨[.sl _ []], reps_one (.sl0 _ _ _), .inr ⟨[], by simp, by simp, rfl⟩⟩
    have hcell : ∀ i, i < len → ∃ ci : List Value, ci.length = P.cellsOf e ∧ (∀ j, j < P.cellsOf e → W.cell? ((a.add (i * P.cellsOf e)).add j) = ci[j]?) ∧ ∃ y, Reps noM noR W y ci ∧ Q y := by
      intro i hi
      have h1 := hget i hi
      rw [List.getElem?_eq_getElem (by omega)] at h1
      obtain ⟨ci, h2, h3⟩ := Option.bind_eq_some_iff.1 h1
      obtain ⟨_, h4, h5⟩ := World.cells?_some h2
      obtain ⟨y, h6, h7⟩ := hr H enc W _ _ h3
      exact ⟨ci, h4, h5, y, h6, h7⟩
    have hspot : a.spot = none := by
      obtain ⟨ci, h4, h5, _⟩ := hcell 0 (by omega)
      have := h5 0 hpos
      rw [Nat.zero_mul] at this
      simp only [Addr.add, if_true] at this
      rw [List.getElem?_eq_getElem (by omega)] at this
      cases hs : a.spot with
      | none => rfl
      | some s =>
        exfalso
        simp only [World.cell?, hs, Option.isSome_some, if_true] at this
        split at this <;> simp at this
    obtain ⟨b, o, sp⟩ := a
    simp only at hspot
    subst hspot
    have hadd : ∀ k j, ((⟨b, o, none⟩ : Addr).add k).add j = ⟨b, o + (k + j), none⟩ := by
      intro k j
      unfold Addr.add
      split <;> split <;> simp_all <;> omega
    let g : Nat → List AV := fun i => if hi : i < len then Classical.choose (Classical.choose_spec (hcell i hi)).2.2 else []
    have hg : ∀ i (hi : i < len), Reps noM noR W (g i) (Classical.choose (hcell i hi)) ∧ Q (g i) := by
      intro i hi
      simp only [g, dif_pos hi]
      exact Classical.choose_spec (Classical.choose_spec (hcell i hi)).2.2
    have hc : ∀ i (hi : i < len), (Classical.choose (hcell i hi)).length = P.cellsOf e ∧ ∀ j, j < P.cellsOf e → W.cell? ⟨b, o + (i * P.cellsOf e + j), none⟩ = (Classical.choose (hcell i hi))[j]? := by
      intro i hi
      have := Classical.choose_spec (hcell i hi)
      exact ⟨this.1, fun j hj => by rw [← hadd]; exact this.2.1 j hj⟩
    have hw : ∀ i (hi : i < len), (wrapC ag (g i)).cells = g i := fun i hi => hQ _ (hg i hi).2 (by rw [(hg i hi).1.1, (hc i hi).1])
    refine ⟨[.sl (P.cellsOf e) (((List.range len).map g).map (wrapC ag))], reps_one ?_, .inr ⟨(List.range len).map g, ?_, by simp; omega, rfl⟩⟩
    · have hl : (((List.range len).map g).map (wrapC ag)).length = len := by simp
      have hi' : ∀ i (hi : i < (((List.range len).map g).map (wrapC ag)).length), (((List.range len).map g).map (wrapC ag))[i] = wrapC ag (g i) := by intro i hi; simp
      have := Rep.sl (M := noM) (R := noR) (w := W) (P.cellsOf e) (((List.range len).map g).map (wrapC ag)) b o cap (fun i j => (W.cell? ⟨b, o + (i * P.cellsOf e + j), none⟩).getD .nilFunc) (by rw [hl]; exact hlc)
        (fun i j hi hj => by
          have hi2 : i < len := by rw [hl] at hi; exact hi
          rw [hi', hw i hi2, (hg i hi2).1.1, (hc i hi2).1] at hj
          refine ⟨hj, id, ?_⟩
          rw [(hc i hi2).2 j hj, List.getElem?_eq_getElem (by rw [(hc i hi2).1]; exact hj)]
          rfl)
        (fun i j hi hj => by
          have hi2 : i < len := by rw [hl] at hi; exact hi
          have hj2 : j < P.cellsOf e := by rw [hi', hw i hi2, (hg i hi2).1.1, (hc i hi2).1] at hj; exact hj
          have h1 := (hg i hi2).1.2 j (by rw [(hg i hi2).1.1, (hc i hi2).1]; exact hj2) (by rw [(hc i hi2).1]; exact hj2)
          simp only [(hc i hi2).2 j hj2, List.getElem?_eq_getElem (show j < (Classical.choose (hcell i hi2)).length by rw [(hc i hi2).1]; exact hj2), Option.getD_some]
          have e1 : ((((List.range len).map g).map (wrapC ag))[i]).cells = g i := by rw [hi', hw i hi2]
          simp only [e1]
          exact h1)
      rw [hl] at this
      exact this
    · intro y hy
      simp only [List.mem_map, List.mem_range] at hy
      obtain ⟨i, hi, rfl⟩ := hy
      exact (hg i hi).2
theorem Reads.arg {Q : List AV → Prop} {H : Type} {enc : TypeId × Value → H} {v : Value} {d : DataW H} {ps : List MemPlace} (hr : ∀ f, Reads P t f Q) (hv : v.cells.toList = [v]) (h : DataW.Trod enc P W 0 (fun _ => true) true t v d ps) :
    ∃ x, Rep noM noR W x v ∧ Q [x] := by
  obtain ⟨f, hf⟩ := h
  rw [hv] at hf
  obtain ⟨xs, h1, h2⟩ := hr f H enc W _ _ hf
  match xs, h1 with
  | [x], h1 => exact ⟨x, h1.2 0 (by simp) (by simp), h2⟩
  | [], h1 => exact absurd h1.1 (by simp)
  | _ :: _ :: _, h1 => exact absurd h1.1 (by simp)
end
end Go.Ab
namespace Go.Proofs.Ytoadgajhkhejiaa
open Go Go.Ab Go.ChangeShapes Go.WideShapes Go.ChangeAt Go.RowKit
set_option maxRecDepth 100000
def QMtr : List AV → Prop := fun xs => ∃ (k : Int) (a b : ByteArray), xs = [I k, Sx a, Sx b]
theorem reads_mtr (f : Nat) : Reads Try.prog 23 f QMtr := by
  cases f with
  | zero => exact Reads.zero
  | succ f =>
    have h := Reads.struct (P := Try.prog) (t := 23) (f := f) (Qs := [QInt .i64, QText, QText]) Try.underlying23 (by kernel_rfl) rfl (by
      intro p hp
      simp only [List.zip_cons_cons, List.zip_nil_right, List.mem_cons, List.not_mem_nil, or_false] at hp
      rcases hp with rfl | rfl | rfl
      · exact Reads.int Try.underlying3 f
      · exact Reads.text Try.underlying9 f
      · exact Reads.text Try.underlying9 f)
    refine h.mono fun xs hq => ?_
    obtain ⟨_, b, rfl, ⟨k, _, rfl⟩, _, d, rfl, ⟨n, _, rfl⟩, _, _, rfl, ⟨v, _, rfl⟩, rfl⟩ := hq
    exact ⟨k, n, v, rfl⟩
theorem mtrs_of : ∀ {ys : List (List AV)}, (∀ y ∈ ys, QMtr y) → ∃ L : List Mtr, ys.map (wrapC true) = mvs3 L
  | [], _ => ⟨[], rfl⟩
  | y :: ys, h => by
    obtain ⟨k, a, b, rfl⟩ := h y List.mem_cons_self
    obtain ⟨L, hL⟩ := mtrs_of fun y hy => h y (List.mem_cons_of_mem _ hy)
    exact ⟨(k, a, b) :: L, by rw [List.map_cons, hL]; rfl⟩
theorem mtrs_arg {H : Type} {enc : TypeId × Value → H} {W : World} {base : Nat} {v : Value} {d : DataW H} {ps : List MemPlace} (hv : Value.okWide Try.prog W .any base 26 v)
    (h : DataW.Trod enc Try.prog W 0 (fun _ => true) true 26 v d ps) : ∃ L : List Mtr, Rep noM noR W (.sl 3 (mvs3 L)) v := by
  obtain ⟨sa, len, cap, rfl⟩ := okWide_slice Try.underlying26 hv
  obtain ⟨x, hx, hq⟩ := Reads.arg (P := Try.prog) (t := 26) (Q := QSlice 3 true QMtr) (fun f => by
    cases f with
    | zero => exact Reads.zero
    | succ f => exact Reads.slice true Try.underlying26 (by kernel_rfl) (by decide) (reads_mtr f) (fun y _ _ => rfl)) rfl h
  rcases hq with hq | ⟨ys, hys, _, hq⟩
  · simp only [List.cons.injEq, and_true] at hq
    subst hq
    refine ⟨[], ?_⟩
    cases hx
    exact .sl0 _ _ _
  · obtain ⟨L, hn⟩ := mtrs_of hys
    simp only [List.cons.injEq, and_true] at hq
    subst hq
    rw [hn] at hx
    exact ⟨L, hx⟩
end Go.Proofs.Ytoadgajhkhejiaa
