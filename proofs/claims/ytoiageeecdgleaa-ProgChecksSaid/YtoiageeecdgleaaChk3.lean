/- ProgChecks answers true at every list of steps. No condition. -/
import Derived.Test.YtoiageeecdgleaaChk2
import Derived.Test.YtoiageeecdgleaaRuns
import Derived.Test.YtoiageeecdgleaaAbArg
set_option linter.unusedSimpArgs false
set_option linter.unusedVariables false
namespace Go.Proofs.Ytoiageeecdgleaa
open Go Go.Ab Go.ChangeShapes Go.WideShapes Go.ChangeAt Go.RowKit
set_option maxRecDepth 100000

theorem right_ref (n : Nat) (i : Nat) (s : Stp) : rightS s n (decide (i = n - 1 ∧ 1 ≤ n)) = refStep n i s := by
  have e : decide (i = n - 1 ∧ 1 ≤ n) = ((i : Int) == (n : Int) - 1) := by
    rw [Bool.eq_iff_iff]; simp; omega
  rw [e]
  unfold rightS refStep
  have ne1 : ∀ a : Int, (a != 0) = !(a == 0) := fun _ => rfl
  have ne2 : (s.op != 1) = !(s.op == 1) := rfl
  rw [ne1, ne1, ne2]
  generalize (s.x == 0) = bx
  generalize (s.y == 0) = by_
  generalize inR n s.x = ix
  generalize inR n s.y = iy
  generalize ((i : Int) == (n : Int) - 1) = l
  generalize s.none = z
  generalize (s.op == 1) = o1
  generalize (s.op == 2) = o2
  generalize (s.op == 3) = o3
  generalize (s.op == 4) = o4
  clear e ne1 ne2
  revert o1 o2 o3 o4 bx by_ ix iy l z
  decide

theorem refAll_iff (n : Int) : ∀ (l : List Stp) (k : Nat), refAll n k l = true ↔ ∀ i (hi : i < l.length), refStep n (k + i) l[i] = true := by
  intro l k
  refine ⟨refAll_true l k, fun h => ?_⟩
  cases hf : refAll n k l with
  | true => rfl
  | false =>
    obtain ⟨j, hj, h1, _⟩ := refAll_false l k hf
    rw [h j hj] at h1; cases h1

theorem checks_same (ys : List Stp) : pcheck ys = rcheck ys := by
  unfold pcheck rcheck
  cases h0 : decide ((ys.length : Int) < 1)
  · cases h1 : decide ((40 : Int) < ys.length)
    · have hb : 1 ≤ ys.length := by simp at h0; omega
      simp only [Bool.false_eq_true, if_false]
      rw [List.getElem?_eq_getElem (show ys.length - 1 < ys.length by omega), Bool.eq_iff_iff, refAll_iff]
      simp only [Bool.and_eq_true, Bool.not_eq_true', List.any_eq_false, Bool.not_eq_true', Bool.not_eq_false']
      constructor
      · rintro ⟨h2, h3⟩ i hi
        rw [Nat.zero_add, ← right_ref]
        by_cases hl : i = ys.length - 1
        · subst hl
          rw [decide_eq_true (by exact ⟨rfl, hb⟩)]; exact h3
        · rw [decide_eq_false (by rintro ⟨h, _⟩; exact hl h)]
          have := h2 ys[i] (List.mem_take_iff_getElem.2 ⟨i, by omega, rfl⟩)
          simpa using this
      · intro h
        refine ⟨fun s hs => ?_, ?_⟩
        · obtain ⟨i, hi, rfl⟩ := List.mem_take_iff_getElem.1 hs
          have := h i (by omega)
          rw [Nat.zero_add, ← right_ref, decide_eq_false (by rintro ⟨h, _⟩; omega)] at this
          simpa using this
        · have := h (ys.length - 1) (by omega)
          rw [Nat.zero_add, ← right_ref, decide_eq_true (by exact ⟨rfl, hb⟩)] at this
          exact this
    · simp
  · simp

theorem progChecks_ans (ys : List Stp) (x : AV) (hx : Lst ys x) : Ans Try.prog 6 [x] [] (.pl (.bool true)) [] := by
  have hrun : ∀ σ : St, σ = [] → Ans Try.prog 3 [] σ (Bo true) σ := by rintro _ rfl; exact runs_ans
  have hgo : ∀ (len : Nat), len = ys.length → aop (fun _ => x) [] (.lenv (.tmp 3)) = some (.pl (.int .i64 len), []) := by
    rintro _ rfl
    rcases hx with ⟨rfl, rfl⟩ | rfl <;> simp [aop]
  have hlen : (match x with
      | .nils => some (AV.pl (.int .i64 0), ([] : St))
      | .sl _ xs => some (.pl (.int .i64 xs.length), [])
      | .osl l n => (match ([] : St)[l]? with
        | some (.row _ xs) => if n = xs.length then some (.pl (.int .i64 n), []) else none
        | _ => none)
      | _ => none) = some (.pl (.int .i64 ys.length), []) := by
    rcases hx with ⟨rfl, rfl⟩ | rfl <;> simp
  refine Ans.of_run t6 ?_
  rcases hx with ⟨rfl, rfl⟩ | rfl
  · simp -implicitDefEqProofs only [c6, r6, R_seq, R_skip, R_ret, R_exit, R_ops, R_draw, R_block, R_after, R_ghost, R_cond, R_loop, N_seq, N_block, N_after, N_loop, N_nil, X_seq, X_after, X_loop, X_block, T_seq, T_block, T_after, T_loop, T_nil, C_true, C_false, O_nil, O_prim, O_fresh, O_guard, OG_true, OG_false, O_call, D_nil, D_eff, D_stay, D_guard, DG_true, DG_false, D_call, put_some, put_none, aop, aev, tmpA, wantA, cval, AV.okc, AV.one, AV.cells, loadA, ldc, boolA, intA, clearA, srcA, setElem, fillA, lsplice, binF, unF, isB, chunks, repeatA, eqCells, eqCell, Value.oneCell', G, gh, sealV, sealL, List.cons_append, List.nil_append, List.append_nil, List.length_cons, List.length_nil, List.reduceReplicate, Nat.reduceAdd, Nat.reduceSub, Nat.reduceLT, Nat.reduceLeDiff, Nat.reduceMul, Nat.reduceEqDiff, List.set_cons_zero, List.set_cons_succ, List.getD_cons_zero, List.getD_cons_succ, List.drop_succ_cons, List.drop_zero, List.take_succ_cons, List.take_zero, List.head?_cons, List.headD_cons, Option.map_some, Option.getD_some, Option.getD_none, Option.map_none, Option.some.injEq, if_true, if_false, Bool.false_eq_true, List.all_cons, List.all_nil, Bool.and_self, Bool.and_true, Bool.true_and, true_and, and_true, List.map_cons, List.map_nil, List.getElem?_cons_zero, List.getElem?_cons_succ, List.getElem?_nil, Nat.zero_add, Nat.add_zero, ite_true, ite_false, reduceCtorEq, Bool.not_true, Bool.not_false, Bool.not_eq_true', decide_true, decide_false, List.forall_mem_cons, List.not_mem_nil, false_imp_iff, implies_true, forall_const, List.isEmpty_cons, List.isEmpty_nil, Nat.le_refl, Int.reduceLE, Int.reduceLT, Int.toNat_natCast, Int.natCast_nonneg, beq_self_eq_true, beq_true, beq_false, Int.reduceEq, Int.reduceNe, Int.reduceBEq, Int.reduceBNe, Int.reduceAdd, Int.reduceSub, Bool.true_xor, Bool.false_xor]
    refine CO.intro (check_ans [] [] _ (.inl ⟨rfl, rfl⟩)) ?_
    simp -implicitDefEqProofs only [R_seq, R_skip, R_ret, R_exit, R_ops, R_draw, R_block, R_after, R_ghost, R_cond, R_loop, N_seq, N_block, N_after, N_loop, N_nil, X_seq, X_after, X_loop, X_block, T_seq, T_block, T_after, T_loop, T_nil, C_true, C_false, O_nil, O_prim, O_fresh, O_guard, OG_true, OG_false, O_call, D_nil, D_eff, D_stay, D_guard, DG_true, DG_false, D_call, put_some, put_none, aop, aev, tmpA, wantA, cval, AV.okc, AV.one, AV.cells, loadA, ldc, boolA, intA, clearA, srcA, setElem, fillA, lsplice, binF, unF, isB, chunks, repeatA, eqCells, eqCell, Value.oneCell', G, gh, sealV, sealL, List.cons_append, List.nil_append, List.append_nil, List.length_cons, List.length_nil, List.reduceReplicate, Nat.reduceAdd, Nat.reduceSub, Nat.reduceLT, Nat.reduceLeDiff, Nat.reduceMul, Nat.reduceEqDiff, List.set_cons_zero, List.set_cons_succ, List.getD_cons_zero, List.getD_cons_succ, List.drop_succ_cons, List.drop_zero, List.take_succ_cons, List.take_zero, List.head?_cons, List.headD_cons, Option.map_some, Option.getD_some, Option.getD_none, Option.map_none, Option.some.injEq, if_true, if_false, Bool.false_eq_true, List.all_cons, List.all_nil, Bool.and_self, Bool.and_true, Bool.true_and, true_and, and_true, List.map_cons, List.map_nil, List.getElem?_cons_zero, List.getElem?_cons_succ, List.getElem?_nil, Nat.zero_add, Nat.add_zero, ite_true, ite_false, reduceCtorEq, Bool.not_true, Bool.not_false, Bool.not_eq_true', decide_true, decide_false, List.forall_mem_cons, List.not_mem_nil, false_imp_iff, implies_true, forall_const, List.isEmpty_cons, List.isEmpty_nil, Nat.le_refl, Int.reduceLE, Int.reduceLT, Int.toNat_natCast, Int.natCast_nonneg, beq_self_eq_true, beq_true, beq_false, Int.reduceEq, Int.reduceNe, Int.reduceBEq, Int.reduceBNe, Int.reduceAdd, Int.reduceSub, Bool.true_xor, Bool.false_xor]
    refine CO.intro (rcheck_ans [] [] _ (.inl ⟨rfl, rfl⟩)) ?_
    simp -implicitDefEqProofs only [R_seq, R_skip, R_ret, R_exit, R_ops, R_draw, R_block, R_after, R_ghost, R_cond, R_loop, N_seq, N_block, N_after, N_loop, N_nil, X_seq, X_after, X_loop, X_block, T_seq, T_block, T_after, T_loop, T_nil, C_true, C_false, O_nil, O_prim, O_fresh, O_guard, OG_true, OG_false, O_call, D_nil, D_eff, D_stay, D_guard, DG_true, DG_false, D_call, put_some, put_none, aop, aev, tmpA, wantA, cval, AV.okc, AV.one, AV.cells, loadA, ldc, boolA, intA, clearA, srcA, setElem, fillA, lsplice, binF, unF, isB, chunks, repeatA, eqCells, eqCell, Value.oneCell', G, gh, sealV, sealL, List.cons_append, List.nil_append, List.append_nil, List.length_cons, List.length_nil, List.reduceReplicate, Nat.reduceAdd, Nat.reduceSub, Nat.reduceLT, Nat.reduceLeDiff, Nat.reduceMul, Nat.reduceEqDiff, List.set_cons_zero, List.set_cons_succ, List.getD_cons_zero, List.getD_cons_succ, List.drop_succ_cons, List.drop_zero, List.take_succ_cons, List.take_zero, List.head?_cons, List.headD_cons, Option.map_some, Option.getD_some, Option.getD_none, Option.map_none, Option.some.injEq, if_true, if_false, Bool.false_eq_true, List.all_cons, List.all_nil, Bool.and_self, Bool.and_true, Bool.true_and, true_and, and_true, List.map_cons, List.map_nil, List.getElem?_cons_zero, List.getElem?_cons_succ, List.getElem?_nil, Nat.zero_add, Nat.add_zero, ite_true, ite_false, reduceCtorEq, Bool.not_true, Bool.not_false, Bool.not_eq_true', decide_true, decide_false, List.forall_mem_cons, List.not_mem_nil, false_imp_iff, implies_true, forall_const, List.isEmpty_cons, List.isEmpty_nil, Nat.le_refl, Int.reduceLE, Int.reduceLT, Int.toNat_natCast, Int.natCast_nonneg, beq_self_eq_true, beq_true, beq_false, Int.reduceEq, Int.reduceNe, Int.reduceBEq, Int.reduceBNe, Int.reduceAdd, Int.reduceSub, Bool.true_xor, Bool.false_xor, checks_same]
    refine CO.intro (hrun [] rfl) ?_
    simp -implicitDefEqProofs only [R_seq, R_skip, R_ret, R_exit, R_ops, R_draw, R_block, R_after, R_ghost, R_cond, R_loop, N_seq, N_block, N_after, N_loop, N_nil, X_seq, X_after, X_loop, X_block, T_seq, T_block, T_after, T_loop, T_nil, C_true, C_false, O_nil, O_prim, O_fresh, O_guard, OG_true, OG_false, O_call, D_nil, D_eff, D_stay, D_guard, DG_true, DG_false, D_call, put_some, put_none, aop, aev, tmpA, wantA, cval, AV.okc, AV.one, AV.cells, loadA, ldc, boolA, intA, clearA, srcA, setElem, fillA, lsplice, binF, unF, isB, chunks, repeatA, eqCells, eqCell, Value.oneCell', G, gh, sealV, sealL, List.cons_append, List.nil_append, List.append_nil, List.length_cons, List.length_nil, List.reduceReplicate, Nat.reduceAdd, Nat.reduceSub, Nat.reduceLT, Nat.reduceLeDiff, Nat.reduceMul, Nat.reduceEqDiff, List.set_cons_zero, List.set_cons_succ, List.getD_cons_zero, List.getD_cons_succ, List.drop_succ_cons, List.drop_zero, List.take_succ_cons, List.take_zero, List.head?_cons, List.headD_cons, Option.map_some, Option.getD_some, Option.getD_none, Option.map_none, Option.some.injEq, if_true, if_false, Bool.false_eq_true, List.all_cons, List.all_nil, Bool.and_self, Bool.and_true, Bool.true_and, true_and, and_true, List.map_cons, List.map_nil, List.getElem?_cons_zero, List.getElem?_cons_succ, List.getElem?_nil, Nat.zero_add, Nat.add_zero, ite_true, ite_false, reduceCtorEq, Bool.not_true, Bool.not_false, Bool.not_eq_true', decide_true, decide_false, List.forall_mem_cons, List.not_mem_nil, false_imp_iff, implies_true, forall_const, List.isEmpty_cons, List.isEmpty_nil, Nat.le_refl, Int.reduceLE, Int.reduceLT, Int.toNat_natCast, Int.natCast_nonneg, beq_self_eq_true, beq_true, beq_false, Int.reduceEq, Int.reduceNe, Int.reduceBEq, Int.reduceBNe, Int.reduceAdd, Int.reduceSub, Bool.true_xor, Bool.false_xor]
    exact Fini.ret rfl
  · simp -implicitDefEqProofs only [c6, r6, R_seq, R_skip, R_ret, R_exit, R_ops, R_draw, R_block, R_after, R_ghost, R_cond, R_loop, N_seq, N_block, N_after, N_loop, N_nil, X_seq, X_after, X_loop, X_block, T_seq, T_block, T_after, T_loop, T_nil, C_true, C_false, O_nil, O_prim, O_fresh, O_guard, OG_true, OG_false, O_call, D_nil, D_eff, D_stay, D_guard, DG_true, DG_false, D_call, put_some, put_none, aop, aev, tmpA, wantA, cval, AV.okc, AV.one, AV.cells, loadA, ldc, boolA, intA, clearA, srcA, setElem, fillA, lsplice, binF, unF, isB, chunks, repeatA, eqCells, eqCell, Value.oneCell', G, gh, sealV, sealL, List.cons_append, List.nil_append, List.append_nil, List.length_cons, List.length_nil, List.reduceReplicate, Nat.reduceAdd, Nat.reduceSub, Nat.reduceLT, Nat.reduceLeDiff, Nat.reduceMul, Nat.reduceEqDiff, List.set_cons_zero, List.set_cons_succ, List.getD_cons_zero, List.getD_cons_succ, List.drop_succ_cons, List.drop_zero, List.take_succ_cons, List.take_zero, List.head?_cons, List.headD_cons, Option.map_some, Option.getD_some, Option.getD_none, Option.map_none, Option.some.injEq, if_true, if_false, Bool.false_eq_true, List.all_cons, List.all_nil, Bool.and_self, Bool.and_true, Bool.true_and, true_and, and_true, List.map_cons, List.map_nil, List.getElem?_cons_zero, List.getElem?_cons_succ, List.getElem?_nil, Nat.zero_add, Nat.add_zero, ite_true, ite_false, reduceCtorEq, Bool.not_true, Bool.not_false, Bool.not_eq_true', decide_true, decide_false, List.forall_mem_cons, List.not_mem_nil, false_imp_iff, implies_true, forall_const, List.isEmpty_cons, List.isEmpty_nil, Nat.le_refl, Int.reduceLE, Int.reduceLT, Int.toNat_natCast, Int.natCast_nonneg, beq_self_eq_true, beq_true, beq_false, Int.reduceEq, Int.reduceNe, Int.reduceBEq, Int.reduceBNe, Int.reduceAdd, Int.reduceSub, Bool.true_xor, Bool.false_xor, List.length_map]
    refine C.split (fun h => ?_) (fun h => ?_) <;> simp -implicitDefEqProofs only [h, R_seq, R_skip, R_ret, R_exit, R_ops, R_draw, R_block, R_after, R_ghost, R_cond, R_loop, N_seq, N_block, N_after, N_loop, N_nil, X_seq, X_after, X_loop, X_block, T_seq, T_block, T_after, T_loop, T_nil, C_true, C_false, O_nil, O_prim, O_fresh, O_guard, OG_true, OG_false, O_call, D_nil, D_eff, D_stay, D_guard, DG_true, DG_false, D_call, put_some, put_none, aop, aev, tmpA, wantA, cval, AV.okc, AV.one, AV.cells, loadA, ldc, boolA, intA, clearA, srcA, setElem, fillA, lsplice, binF, unF, isB, chunks, repeatA, eqCells, eqCell, Value.oneCell', G, gh, sealV, sealL, List.cons_append, List.nil_append, List.append_nil, List.length_cons, List.length_nil, List.reduceReplicate, Nat.reduceAdd, Nat.reduceSub, Nat.reduceLT, Nat.reduceLeDiff, Nat.reduceMul, Nat.reduceEqDiff, List.set_cons_zero, List.set_cons_succ, List.getD_cons_zero, List.getD_cons_succ, List.drop_succ_cons, List.drop_zero, List.take_succ_cons, List.take_zero, List.head?_cons, List.headD_cons, Option.map_some, Option.getD_some, Option.getD_none, Option.map_none, Option.some.injEq, if_true, if_false, Bool.false_eq_true, List.all_cons, List.all_nil, Bool.and_self, Bool.and_true, Bool.true_and, true_and, and_true, List.map_cons, List.map_nil, List.getElem?_cons_zero, List.getElem?_cons_succ, List.getElem?_nil, Nat.zero_add, Nat.add_zero, ite_true, ite_false, reduceCtorEq, Bool.not_true, Bool.not_false, Bool.not_eq_true', decide_true, decide_false, List.forall_mem_cons, List.not_mem_nil, false_imp_iff, implies_true, forall_const, List.isEmpty_cons, List.isEmpty_nil, Nat.le_refl, Int.reduceLE, Int.reduceLT, Int.toNat_natCast, Int.natCast_nonneg, beq_self_eq_true, beq_true, beq_false, Int.reduceEq, Int.reduceNe, Int.reduceBEq, Int.reduceBNe, Int.reduceAdd, Int.reduceSub, Bool.true_xor, Bool.false_xor]
    · refine CO.intro (hrun [] rfl) ?_
      simp -implicitDefEqProofs only [R_seq, R_skip, R_ret, R_exit, R_ops, R_draw, R_block, R_after, R_ghost, R_cond, R_loop, N_seq, N_block, N_after, N_loop, N_nil, X_seq, X_after, X_loop, X_block, T_seq, T_block, T_after, T_loop, T_nil, C_true, C_false, O_nil, O_prim, O_fresh, O_guard, OG_true, OG_false, O_call, D_nil, D_eff, D_stay, D_guard, DG_true, DG_false, D_call, put_some, put_none, aop, aev, tmpA, wantA, cval, AV.okc, AV.one, AV.cells, loadA, ldc, boolA, intA, clearA, srcA, setElem, fillA, lsplice, binF, unF, isB, chunks, repeatA, eqCells, eqCell, Value.oneCell', G, gh, sealV, sealL, List.cons_append, List.nil_append, List.append_nil, List.length_cons, List.length_nil, List.reduceReplicate, Nat.reduceAdd, Nat.reduceSub, Nat.reduceLT, Nat.reduceLeDiff, Nat.reduceMul, Nat.reduceEqDiff, List.set_cons_zero, List.set_cons_succ, List.getD_cons_zero, List.getD_cons_succ, List.drop_succ_cons, List.drop_zero, List.take_succ_cons, List.take_zero, List.head?_cons, List.headD_cons, Option.map_some, Option.getD_some, Option.getD_none, Option.map_none, Option.some.injEq, if_true, if_false, Bool.false_eq_true, List.all_cons, List.all_nil, Bool.and_self, Bool.and_true, Bool.true_and, true_and, and_true, List.map_cons, List.map_nil, List.getElem?_cons_zero, List.getElem?_cons_succ, List.getElem?_nil, Nat.zero_add, Nat.add_zero, ite_true, ite_false, reduceCtorEq, Bool.not_true, Bool.not_false, Bool.not_eq_true', decide_true, decide_false, List.forall_mem_cons, List.not_mem_nil, false_imp_iff, implies_true, forall_const, List.isEmpty_cons, List.isEmpty_nil, Nat.le_refl, Int.reduceLE, Int.reduceLT, Int.toNat_natCast, Int.natCast_nonneg, beq_self_eq_true, beq_true, beq_false, Int.reduceEq, Int.reduceNe, Int.reduceBEq, Int.reduceBNe, Int.reduceAdd, Int.reduceSub, Bool.true_xor, Bool.false_xor]
      exact Fini.ret rfl
    · refine CO.intro (check_ans [] ys _ (.inr rfl)) ?_
      simp -implicitDefEqProofs only [R_seq, R_skip, R_ret, R_exit, R_ops, R_draw, R_block, R_after, R_ghost, R_cond, R_loop, N_seq, N_block, N_after, N_loop, N_nil, X_seq, X_after, X_loop, X_block, T_seq, T_block, T_after, T_loop, T_nil, C_true, C_false, O_nil, O_prim, O_fresh, O_guard, OG_true, OG_false, O_call, D_nil, D_eff, D_stay, D_guard, DG_true, DG_false, D_call, put_some, put_none, aop, aev, tmpA, wantA, cval, AV.okc, AV.one, AV.cells, loadA, ldc, boolA, intA, clearA, srcA, setElem, fillA, lsplice, binF, unF, isB, chunks, repeatA, eqCells, eqCell, Value.oneCell', G, gh, sealV, sealL, List.cons_append, List.nil_append, List.append_nil, List.length_cons, List.length_nil, List.reduceReplicate, Nat.reduceAdd, Nat.reduceSub, Nat.reduceLT, Nat.reduceLeDiff, Nat.reduceMul, Nat.reduceEqDiff, List.set_cons_zero, List.set_cons_succ, List.getD_cons_zero, List.getD_cons_succ, List.drop_succ_cons, List.drop_zero, List.take_succ_cons, List.take_zero, List.head?_cons, List.headD_cons, Option.map_some, Option.getD_some, Option.getD_none, Option.map_none, Option.some.injEq, if_true, if_false, Bool.false_eq_true, List.all_cons, List.all_nil, Bool.and_self, Bool.and_true, Bool.true_and, true_and, and_true, List.map_cons, List.map_nil, List.getElem?_cons_zero, List.getElem?_cons_succ, List.getElem?_nil, Nat.zero_add, Nat.add_zero, ite_true, ite_false, reduceCtorEq, Bool.not_true, Bool.not_false, Bool.not_eq_true', decide_true, decide_false, List.forall_mem_cons, List.not_mem_nil, false_imp_iff, implies_true, forall_const, List.isEmpty_cons, List.isEmpty_nil, Nat.le_refl, Int.reduceLE, Int.reduceLT, Int.toNat_natCast, Int.natCast_nonneg, beq_self_eq_true, beq_true, beq_false, Int.reduceEq, Int.reduceNe, Int.reduceBEq, Int.reduceBNe, Int.reduceAdd, Int.reduceSub, Bool.true_xor, Bool.false_xor]
      refine CO.intro (rcheck_ans [] ys _ (.inr rfl)) ?_
      simp -implicitDefEqProofs only [R_seq, R_skip, R_ret, R_exit, R_ops, R_draw, R_block, R_after, R_ghost, R_cond, R_loop, N_seq, N_block, N_after, N_loop, N_nil, X_seq, X_after, X_loop, X_block, T_seq, T_block, T_after, T_loop, T_nil, C_true, C_false, O_nil, O_prim, O_fresh, O_guard, OG_true, OG_false, O_call, D_nil, D_eff, D_stay, D_guard, DG_true, DG_false, D_call, put_some, put_none, aop, aev, tmpA, wantA, cval, AV.okc, AV.one, AV.cells, loadA, ldc, boolA, intA, clearA, srcA, setElem, fillA, lsplice, binF, unF, isB, chunks, repeatA, eqCells, eqCell, Value.oneCell', G, gh, sealV, sealL, List.cons_append, List.nil_append, List.append_nil, List.length_cons, List.length_nil, List.reduceReplicate, Nat.reduceAdd, Nat.reduceSub, Nat.reduceLT, Nat.reduceLeDiff, Nat.reduceMul, Nat.reduceEqDiff, List.set_cons_zero, List.set_cons_succ, List.getD_cons_zero, List.getD_cons_succ, List.drop_succ_cons, List.drop_zero, List.take_succ_cons, List.take_zero, List.head?_cons, List.headD_cons, Option.map_some, Option.getD_some, Option.getD_none, Option.map_none, Option.some.injEq, if_true, if_false, Bool.false_eq_true, List.all_cons, List.all_nil, Bool.and_self, Bool.and_true, Bool.true_and, true_and, and_true, List.map_cons, List.map_nil, List.getElem?_cons_zero, List.getElem?_cons_succ, List.getElem?_nil, Nat.zero_add, Nat.add_zero, ite_true, ite_false, reduceCtorEq, Bool.not_true, Bool.not_false, Bool.not_eq_true', decide_true, decide_false, List.forall_mem_cons, List.not_mem_nil, false_imp_iff, implies_true, forall_const, List.isEmpty_cons, List.isEmpty_nil, Nat.le_refl, Int.reduceLE, Int.reduceLT, Int.toNat_natCast, Int.natCast_nonneg, beq_self_eq_true, beq_true, beq_false, Int.reduceEq, Int.reduceNe, Int.reduceBEq, Int.reduceBNe, Int.reduceAdd, Int.reduceSub, Bool.true_xor, Bool.false_xor, checks_same]
      refine CO.intro (hrun [] rfl) ?_
      simp -implicitDefEqProofs only [R_seq, R_skip, R_ret, R_exit, R_ops, R_draw, R_block, R_after, R_ghost, R_cond, R_loop, N_seq, N_block, N_after, N_loop, N_nil, X_seq, X_after, X_loop, X_block, T_seq, T_block, T_after, T_loop, T_nil, C_true, C_false, O_nil, O_prim, O_fresh, O_guard, OG_true, OG_false, O_call, D_nil, D_eff, D_stay, D_guard, DG_true, DG_false, D_call, put_some, put_none, aop, aev, tmpA, wantA, cval, AV.okc, AV.one, AV.cells, loadA, ldc, boolA, intA, clearA, srcA, setElem, fillA, lsplice, binF, unF, isB, chunks, repeatA, eqCells, eqCell, Value.oneCell', G, gh, sealV, sealL, List.cons_append, List.nil_append, List.append_nil, List.length_cons, List.length_nil, List.reduceReplicate, Nat.reduceAdd, Nat.reduceSub, Nat.reduceLT, Nat.reduceLeDiff, Nat.reduceMul, Nat.reduceEqDiff, List.set_cons_zero, List.set_cons_succ, List.getD_cons_zero, List.getD_cons_succ, List.drop_succ_cons, List.drop_zero, List.take_succ_cons, List.take_zero, List.head?_cons, List.headD_cons, Option.map_some, Option.getD_some, Option.getD_none, Option.map_none, Option.some.injEq, if_true, if_false, Bool.false_eq_true, List.all_cons, List.all_nil, Bool.and_self, Bool.and_true, Bool.true_and, true_and, and_true, List.map_cons, List.map_nil, List.getElem?_cons_zero, List.getElem?_cons_succ, List.getElem?_nil, Nat.zero_add, Nat.add_zero, ite_true, ite_false, reduceCtorEq, Bool.not_true, Bool.not_false, Bool.not_eq_true', decide_true, decide_false, List.forall_mem_cons, List.not_mem_nil, false_imp_iff, implies_true, forall_const, List.isEmpty_cons, List.isEmpty_nil, Nat.le_refl, Int.reduceLE, Int.reduceLT, Int.toNat_natCast, Int.natCast_nonneg, beq_self_eq_true, beq_true, beq_false, Int.reduceEq, Int.reduceNe, Int.reduceBEq, Int.reduceBNe, Int.reduceAdd, Int.reduceSub, Bool.true_xor, Bool.false_xor]
      exact Fini.ret rfl

/-! ### The argument -/
theorem reads_set (f : Nat) : Reads Try.prog 23 f (QStr (List.replicate 4 (QInt .u64))) := by
  cases f with
  | zero => exact Reads.zero
  | succ f => exact Reads.array (e := 22) (by kernel_rfl) (by kernel_rfl) (Reads.int (by kernel_rfl) f)

def QStp : List AV → Prop := QStr [QInt .i64, QStr (List.replicate 4 (QInt .u64)), QInt .i64, QInt .i64]

theorem reads_step (f : Nat) : Reads Try.prog 33 f QStp := by
  cases f with
  | zero => exact Reads.zero
  | succ f =>
    refine Reads.struct Try.underlying33 (by kernel_rfl) rfl ?_
    intro p hp
    simp only [List.zip_cons_cons, List.zip_nil_right, List.mem_cons, List.not_mem_nil, or_false] at hp
    rcases hp with rfl | rfl | rfl | rfl
    · exact Reads.int (by kernel_rfl) f
    · exact reads_set f
    · exact Reads.int (by kernel_rfl) f
    · exact Reads.int (by kernel_rfl) f

theorem reads_steps (f : Nat) : Reads Try.prog 29 f (QSlice 7 true QStp) := by
  cases f with
  | zero => exact Reads.zero
  | succ f => exact Reads.slice true Try.underlying29 (by kernel_rfl) (by decide) (reads_step f) (fun _ _ _ => rfl)

theorem stp_of {y : List AV} (h : QStp y) : ∃ s : Stp, wrapC true y = s.av := by
  obtain ⟨_, b, rfl, ⟨op, _, rfl⟩, _, d, rfl, ⟨_, _, rfl, ⟨a1, _, rfl⟩, _, _, rfl, ⟨a2, _, rfl⟩, _, _, rfl, ⟨a3, _, rfl⟩, _, _, rfl, ⟨a4, _, rfl⟩, rfl⟩, _, _, rfl, ⟨x, _, rfl⟩, _, _, rfl, ⟨y, _, rfl⟩, rfl⟩ := h
  exact ⟨⟨op, a1, a2, a3, a4, x, y⟩, rfl⟩

theorem stps_of : ∀ {ys : List (List AV)}, (∀ y ∈ ys, QStp y) → ∃ ss : List Stp, ys.map (wrapC true) = ss.map Stp.av
  | [], _ => ⟨[], rfl⟩
  | y :: ys, h => by
    obtain ⟨s, hs⟩ := stp_of (h y (by simp))
    obtain ⟨ss, hss⟩ := stps_of (ys := ys) (fun z hz => h z (by simp [hz]))
    exact ⟨s :: ss, by simp [hs, hss]⟩

theorem progChecks_lifted (os : Os) (started : os.Started) (H : Type) (enc : TypeId × Value → H) :
    ReturnsInHanded {} Try.checked os 6 .any (Rows.progChecksSpec.pre6 enc Try.prog Try.f6 Rows.progChecksRow.domain false) (Rows.progChecksSpec.post enc Try.prog Try.f6 false true false false) := by
  refine returnsInHanded_of_change (C := Try.checked) Try.own started (by kernel_rfl) Try.func6
    (ChangeSpec.witness6 (enc := enc) (C := Try.checked) false ⟨#[], #[.slice none 0 0], []⟩ 8 (by kernel_rfl) (by kernel_rfl) (by kernel_rfl) (by kernel_rfl)) ?_
  intro W base args ds gs before hval0 hW hcnd _
  have hval : ∀ (j : Nat) t v, Try.f6.params[j]? = some t → args[j]? = some v → Value.okWide Try.prog W .any base t v := hval0
  have hW' := hW
  obtain ⟨p, q, hA0, hV, rfl, hfz, hnd⟩ := hW
  have hA : DataW.TrodAll enc Try.prog W 0 (fun _ => true) true Try.f6.params.toList args.toList ds p := hA0
  rw [Try.params6] at hA hval
  obtain ⟨v, vs1, d, ds1, a, b, hargs, rfl, rfl, h1, h2⟩ := trodAll_cons hA
  obtain ⟨rfl, rfl, rfl⟩ := trodAll_nil h2
  have : args = #[v] := by cases args; simpa using hargs
  subst this
  obtain ⟨sa, len, cap, rfl⟩ := okWide_slice Try.underlying29 (hval 0 29 v rfl rfl)
  obtain ⟨x, hx, hQ⟩ := Reads.arg reads_steps rfl h1
  have hl : ∃ ss : List Stp, Lst ss x := by
    rcases hQ with hQ | ⟨ys, hys, _, hQ⟩
    · simp only [List.cons.injEq, and_true] at hQ
      exact ⟨[], .inl ⟨hQ, rfl⟩⟩
    · obtain ⟨ss, hss⟩ := stps_of hys
      simp only [List.cons.injEq, and_true] at hQ
      exact ⟨ss, .inr (by rw [hQ, hss])⟩
  obtain ⟨ss, hss⟩ := hl
  refine (Ans.law (P := Try.prog) (W := W) (vs := [_]) Try.func6 (by kernel_rfl) (by kernel_rfl) (progChecks_ans ss x hss) (reps_one hx)).mono fun e W' ⟨v, he, hk, M', R', hr⟩ => ?_
  cases hr
  exact ⟨_, he, law_post (P := Try.prog) Try.laidOut (by
      intro t ht
      rw [Try.params6] at ht
      simp only [List.mem_cons, List.not_mem_nil, or_false] at ht
      subst ht
      exact ⟨by kernel_rfl, of_decide_eq_true (by kernel_rfl)⟩) rfl rfl (tb := 4) (by kernel_rfl) hW' (fun ds h => by
    match ds, h with
    | [_], _ => exact ⟨rfl, rfl, rfl⟩) hk⟩

theorem progChecks_holds : Rows.ProgChecksSaid :=
  OpenClaim.holds_of_wide 6 Try.f6 rfl rfl rfl rfl rfl rfl rfl ⟨rfl, rfl, rfl, rfl, rfl⟩ rfl rfl rfl rfl rfl (by kernel_rfl) Try.func6 (by kernel_rfl)
    (of_decide_eq_true (by kernel_rfl)) (by unfold Func.isWrapper; first | (rw [if_pos (by decide +kernel)]; kernel_rfl) | (rw [if_neg (by decide +kernel)]; exact ⟨rfl, rfl⟩))
    (fun os started H enc _ => progChecks_lifted os started H enc)
end Go.Proofs.Ytoiageeecdgleaa
