/- Two lists of matchers held against each other; bytes as an argument. No condition. -/
import Derived.Test.YtoadgajhkhejiaaMArg
set_option linter.unusedSimpArgs false
set_option linter.unusedVariables false
namespace Go.Proofs.Ytoadgajhkhejiaa
open Go Go.Ab Go.Cod Go.ChangeShapes Go.WideShapes Go.ChangeAt Go.RowKit
set_option maxRecDepth 100000
def eqMt (x y : Mtr) : Bool := x.1 == y.1 && (x.2.1.toList == y.2.1.toList && (x.2.2.toList == y.2.2.toList && true))
def sameM (A B : List Mtr) : Bool := decide (A.length = B.length) && (List.range A.length).all fun i => eqMt (A.getD i noM3) (B.getD i noM3)
theorem eqMt_refl (x : Mtr) : eqMt x x = true := by simp [eqMt]
theorem sameM_refl (A : List Mtr) : sameM A A = true := by simp [sameM, eqMt_refl]
theorem samem_ans (σ : St) (A B : List Mtr) (hA : A.length ≤ 1000) : Ans Try.prog 45 [.sl 3 (mvs3 A), .sl 3 (mvs3 B)] σ (Bo (sameM A B)) σ := by
  refine Ans.of_run t45 ?_
  have e0 : ((A.length : Int) != B.length) = !decide (A.length = B.length) := by
    rw [Bool.eq_iff_iff]; simp only [bne_iff_ne, Bool.not_eq_true', decide_eq_false_iff_not]; omega
  unfold sameM
  by_cases hl : A.length = B.length
  · rw [decide_eq_true hl, Bool.true_and]
    rw [decide_eq_true hl] at e0
    simp -implicitDefEqProofs only [c45, r45, go_sem, List.reduceReplicate, Nat.reduceAdd, Nat.reduceSub, Nat.reduceLT, Nat.reduceLeDiff, Nat.reduceMul, Nat.reduceEqDiff, reduceCtorEq, Int.reduceLE, Int.reduceLT, Int.reduceEq, Int.reduceNe, Int.reduceBEq, Int.reduceBNe, Int.reduceAdd, Int.reduceSub, mvs3_len, e0]
    refine Go.Ab.L.scan A.length (fun i => eqMt (A.getD i noM3) (B.getD i noM3)) (fun i => mkE 26 [(0, .sl 3 (mvs3 A)), (1, .sl 3 (mvs3 B)), (5, I i)]) (fun _ => σ) ?_ ?_ rfl rfl
    · intro i hi hp J hJ
      have hx := mget_D A i hi
      have hy := mget_D B i (by omega)
      have hlB : ((i : Int) < B.length) = True := by simp; omega
      have hF : eqMt (A.getD i noM3) (B.getD i noM3) = false → ((List.range A.length).all fun i => eqMt (A.getD i noM3) (B.getD i noM3)) = false := fun h => List.all_eq_false.2 ⟨i, List.mem_range.2 hi, by rw [h]; decide⟩
      have hin := wrap_succ (i := i) (by omega)
      generalize A.getD i noM3 = x at hx hJ hF
      generalize B.getD i noM3 = y at hy hJ hF
      simp -implicitDefEqProofs only [mkE, List.foldl_cons, List.foldl_nil, go_sem, List.reduceReplicate, Nat.reduceAdd, Nat.reduceSub, Nat.reduceLT, Nat.reduceLeDiff, Nat.reduceMul, Nat.reduceEqDiff, reduceCtorEq, Int.reduceLE, Int.reduceLT, Int.reduceEq, Int.reduceNe, Int.reduceBEq, Int.reduceBNe, Int.reduceAdd, Int.reduceSub, mvs3_len, nat_lt hi, dec_lt hi, hlB, hx, hy, mv3, Bool.true_xor]
      cases hb : eqMt x y with
      | true =>
        have hgo := hJ hb
        have hb' : (x.1 == y.1 && (x.2.1.toList == y.2.1.toList && (x.2.2.toList == y.2.2.toList && true))) = true := hb
        simp only [Bool.and_true] at hb'
        simp -implicitDefEqProofs only [go_sem, List.reduceReplicate, Nat.reduceAdd, Nat.reduceSub, Nat.reduceLT, Nat.reduceLeDiff, Nat.reduceMul, Nat.reduceEqDiff, reduceCtorEq, Int.reduceLE, Int.reduceLT, Int.reduceEq, Int.reduceNe, Int.reduceBEq, Int.reduceBNe, Int.reduceAdd, Int.reduceSub, hb', hin]
        exact hgo
      | false =>
        have hb' : (x.1 == y.1 && (x.2.1.toList == y.2.1.toList && (x.2.2.toList == y.2.2.toList && true))) = false := hb
        simp only [Bool.and_true] at hb'
        rw [hF hb]
        simp -implicitDefEqProofs only [go_sem, List.reduceReplicate, Nat.reduceAdd, Nat.reduceSub, Nat.reduceLT, Nat.reduceLeDiff, Nat.reduceMul, Nat.reduceEqDiff, reduceCtorEq, Int.reduceLE, Int.reduceLT, Int.reduceEq, Int.reduceNe, Int.reduceBEq, Int.reduceBNe, Int.reduceAdd, Int.reduceSub, hb']
        exact Fini.ret rfl
    · intro hp J
      have hd : decide ((A.length : Int) < A.length) = false := by simp
      simp -implicitDefEqProofs only [mkE, List.foldl_cons, List.foldl_nil, go_sem, List.reduceReplicate, Nat.reduceAdd, Nat.reduceSub, Nat.reduceLT, Nat.reduceLeDiff, Nat.reduceMul, Nat.reduceEqDiff, reduceCtorEq, Int.reduceLE, Int.reduceLT, Int.reduceEq, Int.reduceNe, Int.reduceBEq, Int.reduceBNe, Int.reduceAdd, Int.reduceSub, mvs3_len, hd]
      refine Fini.ret' rfl (bo_congr ?_)
      exact (List.all_eq_true.2 fun i hi => hp i (List.mem_range.1 hi)).symm
  · rw [decide_eq_false hl, Bool.false_and]
    rw [decide_eq_false hl] at e0
    simp -implicitDefEqProofs only [c45, r45, go_sem, List.reduceReplicate, Nat.reduceAdd, Nat.reduceSub, Nat.reduceLT, Nat.reduceLeDiff, Nat.reduceMul, Nat.reduceEqDiff, reduceCtorEq, Int.reduceLE, Int.reduceLT, Int.reduceEq, Int.reduceNe, Int.reduceBEq, Int.reduceBNe, Int.reduceAdd, Int.reduceSub, mvs3_len, e0]
    exact Fini.ret rfl
theorem wf8 {n : Int} (h : (Lit.int .u8 n).wf = true) : 0 ≤ n ∧ n < 256 := by
  simp [Lit.wf, IntKind.min, IntKind.max, IntKind.bits, IntKind.signed] at h
  omega
theorem byts_of : ∀ {ys : List (List AV)}, (∀ y ∈ ys, QInt .u8 y) → ∃ b : Byt, ys.map (wrapC false) = byv b
  | [], _ => ⟨[], rfl⟩
  | y :: ys, h => by
    obtain ⟨m, hm, rfl⟩ := h y List.mem_cons_self
    obtain ⟨b, hb⟩ := byts_of (ys := ys) (fun z hz => h z (List.mem_cons_of_mem _ hz))
    obtain ⟨h0, h1⟩ := wf8 hm
    obtain ⟨n, rfl⟩ := Int.eq_ofNat_of_zero_le h0
    refine ⟨n.toUInt8 :: b, ?_⟩
    rw [List.map_cons, hb, byv_cons, ← bc_of (show n < 256 by omega)]
    rfl
theorem byts_arg {H : Type} {enc : TypeId × Value → H} {W : World} {base : Nat} {v : Value} {d : DataW H} {ps : List MemPlace} (hv : Value.okWide Try.prog W .any base 69 v)
    (h : DataW.Trod enc Try.prog W 0 (fun _ => true) true 69 v d ps) : ∃ b : Byt, Rep noM noR W (.sl 1 (byv b)) v := by
  obtain ⟨sa, len, cap, rfl⟩ := okWide_slice Try.underlying69 hv
  obtain ⟨x, hx, hq⟩ := Reads.arg (P := Try.prog) (t := 69) (Q := QSlice 1 false (QInt .u8)) (fun f => by
    cases f with
    | zero => exact Reads.zero
    | succ f => exact Reads.slice false Try.underlying69 (by kernel_rfl) (by decide) (Reads.int Try.underlying5 f) (fun y hy _ => by obtain ⟨n, _, rfl⟩ := hy; rfl)) rfl h
  rcases hq with hq | ⟨ys, hys, _, hq⟩
  · simp only [List.cons.injEq, and_true] at hq
    subst hq
    refine ⟨[], ?_⟩
    have := hx.nils_inv
    rw [this]
    exact .sl0 _ _ _
  · obtain ⟨b, hn⟩ := byts_of hys
    simp only [List.cons.injEq, and_true] at hq
    subst hq
    rw [hn] at hx
    exact ⟨b, hx⟩
end Go.Proofs.Ytoadgajhkhejiaa
