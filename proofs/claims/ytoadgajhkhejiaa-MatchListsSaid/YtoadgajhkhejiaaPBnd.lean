/- The parser of patterns: an atom, and how often. No condition. -/
import Derived.Test.YtoadgajhkhejiaaPPar5
set_option linter.unusedSimpArgs false
set_option linter.unusedVariables false
namespace Go.Proofs.Ytoadgajhkhejiaa
open Go Go.Ab
set_option maxRecDepth 100000
open Rex
def FAns (f : FuncId) (args : List AV) (s : ByteArray) (F : PF) : Prop :=
  ∀ (σ : St) (p a : Nat) (b : Bool), p < σ.length → (b = true ∨ s.size ≤ 40) →
    Ans Try.prog f (.ptr p 0 :: args) (σ.set p (pob s a b)) (F a b).1.rv (σ.set p (pob s (F a b).2.1 (F a b).2.2))
section
variable {σ : St} {p : Nat} {s : ByteArray}
theorem FAns.ex {f : FuncId} {args : List AV} {F : PF} (h : FAns f args s F) (hp : p < σ.length) (a : Nat) (b : Bool) (hs : b = true ∨ s.size ≤ 40) (ex : St) :
    Ans Try.prog f (.ptr p 0 :: args) (σ.set p (pob s a b) ++ ex) (F a b).1.rv (σ.set p (pob s (F a b).2.1 (F a b).2.2) ++ ex) := by
  have := h (σ.set p (pob s a b) ++ ex) p a b (by simp; omega) hs
  rwa [sA hp, sA hp] at this
theorem next_ex (hp : p < σ.length) (a : Nat) (b : Bool) (c : Nat) (hs : b = true ∨ s.size ≤ 40) (ex : St) :
    Ans Try.prog 118 [.ptr p 0, B8 c] (σ.set p (pob s a b) ++ ex) (Bo (sees s a b c)) (σ.set p (pob s (nextA s a b c) b) ++ ex) := by
  have := next_ans (σ.set p (pob s a b) ++ ex) p s a b c hs (gA hp _ _)
  rwa [sA hp] at this
theorem byte_ex (hp : p < σ.length) (a : Nat) (b : Bool) (hs : b = true ∨ s.size ≤ 40) (ex : St) :
    Ans Try.prog 145 [.ptr p 0] (σ.set p (pob s a b) ++ ex) (B8 (pbyte s a b).1) (σ.set p (pob s (pbyte s a b).2.1 (pbyte s a b).2.2) ++ ex) := by
  have := byte_ans (σ.set p (pob s a b) ++ ex) p s a b hs (gA hp _ _)
  rwa [sA hp] at this
theorem sign_ex (hp : p < σ.length) (a : Nat) (b : Bool) (hs : b = true ∨ s.size ≤ 40) (ex : St) :
    Ans Try.prog 149 [.ptr p 0] (σ.set p (pob s a b) ++ ex) (B8 (psign s a b).1) (σ.set p (pob s (psign s a b).2.1 (psign s a b).2.2) ++ ex) := by
  have := sign_ans (σ.set p (pob s a b) ++ ex) p s a b hs (gA hp _ _)
  rwa [sA hp] at this
theorem over_ex (hp : p < σ.length) (a : Nat) (b : Bool) (ex : St) : Ans Try.prog 132 [.ptr p 0] (σ.set p (pob s a b) ++ ex) (Bo (over s a b)) (σ.set p (pob s a b) ++ ex) :=
  over_ans _ p s a b (gA hp _ _)
theorem sees_ex (hp : p < σ.length) (a : Nat) (b : Bool) (c : Nat) (ex : St) : Ans Try.prog 133 [.ptr p 0, B8 c] (σ.set p (pob s a b) ++ ex) (Bo (sees s a b c)) (σ.set p (pob s a b) ++ ex) :=
  sees_ans _ p s a b c (gA hp _ _)
theorem class_ex (hp : p < σ.length) (a : Nat) (b : Bool) (hs : b = true ∨ s.size ≤ 40) (ex : St) :
    Ans Try.prog 146 [.ptr p 0] (σ.set p (pob s a b) ++ ex) (.agg ((pclass s a b).1.map U)) (σ.set p (pob s (pclass s a b).2.1 (pclass s a b).2.2) ++ ex) := by
  have := class_ans (σ.set p (pob s a b) ++ ex) p s a b (by simp; omega) hs
  rwa [sA hp, sA hp] at this
end
theorem pclass_len (s : ByteArray) (a : Nat) (b : Bool) : (pclass s a b).1.length = 4 := by
  have h := classL_len s (s.size + 3) [0, 0, 0, 0] (nextA s a b 94) b true
  unfold pclass
  simp only
  split
  · simp only [turnS, List.length_map]; exact h
  · exact h
theorem pbyte_hs {s : ByteArray} {a : Nat} {b : Bool} (h : b = true ∨ s.size ≤ 40) : (pbyte s a b).2.2 = true ∨ s.size ≤ 40 := by
  rcases h with rfl | h
  · exact .inl (by rw [pbyte_bad])
  · exact .inr h
theorem add_get {c : Nat} (hc : c < 256) : ([I 1, U 0, U 0, U 0, U 0, .nils] : List AV)[1 + c / 64]? = some (U 0) := by
  have h : c / 64 < 4 := by omega
  generalize c / 64 = k at h
  match k, h with
  | 0, _ => rfl
  | 1, _ => rfl
  | 2, _ => rfl
  | 3, _ => rfl
theorem add_cells {c : Nat} (hc : c < 256) : ([I 1, U 0, U 0, U 0, U 0, .nils] : List AV).set (1 + c / 64) (U (orU 0 (bitU (c % 64)))) =
    [I 1, U ((setAdd z4 c).getD 0 0), U ((setAdd z4 c).getD 1 0), U ((setAdd z4 c).getD 2 0), U ((setAdd z4 c).getD 3 0), .nils] := by
  have h : c / 64 < 4 := by omega
  unfold setAdd
  generalize bitU (c % 64) = w
  generalize c / 64 = k at h
  match k, h with
  | 0, _ => rfl
  | 1, _ => rfl
  | 2, _ => rfl
  | 3, _ => rfl
theorem rv_cells (x : Rex) : AV.cells x.rv = [I x.op, U x.a, U x.b, U x.c, U x.d, rvK x.ks] := by rw [rv_eq]; rfl
section
variable (s : ByteArray)
theorem atom_ans (F : PF) (d : Nat) (hd : d ≤ 8) (hF : d < 8 → FAns 95 [I ((d + 1 : Nat) : Int)] s F) (hfw : Fwd F) : FAns 142 [I d] s (patom s F d) := by
  intro σ p a b hp hs
  have hlen : ∀ o, (σ.set p o).length = σ.length := fun o => by simp
  refine Ans.of_run' t142 (fun hbel _ => ?_)
  have hb2 := bel_at hbel
  simp -implicitDefEqProofs only [c142, r142, go_sem, List.reduceReplicate, Nat.reduceAdd, Nat.reduceSub, Nat.reduceLT, Nat.reduceLeDiff, Nat.reduceMul, Nat.reduceEqDiff, reduceCtorEq, Int.reduceLE, Int.reduceLT, Int.reduceEq, Int.reduceNe, Int.reduceBEq, Int.reduceBNe, Int.reduceAdd, Int.reduceSub, List.append_assoc, List.length_append, List.length_set, gA hp, sA hp, gL0, sL0, gL1, sL1]
  refine CO.intro (byte_ex hp a b hs _) ?_
  unfold patom
  have hc := pbyte_lt s a b
  have hs' := pbyte_hs (a := a) hs
  have hst := stray_idx _ hc
  generalize pbyte s a b = q at hc hs' hst ⊢
  obtain ⟨c, a', b'⟩ := q
  simp only at hc hs' hst ⊢
  have k40 : ((c : Int) == 40) = (c == 40) := beq_cast c 40
  have k8 : ((d : Int) == 8) = (d == 8) := beq_cast d 8
  have k91 : ((c : Int) == 91) = (c == 91) := beq_cast c 91
  have k46 : ((c : Int) == 46) = (c == 46) := beq_cast c 46
  have k92 : ((c : Int) == 92) = (c == 92) := beq_cast c 92
  cases h40 : c == 40 with
  | true =>
    cases b' with
    | true =>
      simp -implicitDefEqProofs only [go_sem, List.reduceReplicate, Nat.reduceAdd, Nat.reduceSub, Nat.reduceLT, Nat.reduceLeDiff, Nat.reduceMul, Nat.reduceEqDiff, reduceCtorEq, Int.reduceLE, Int.reduceLT, Int.reduceEq, Int.reduceNe, Int.reduceBEq, Int.reduceBNe, Int.reduceAdd, Int.reduceSub, k40, k91, k46, k92, h40, gA hp, sA hp, gL0, sL0, gL1, sL1, if_true, Bool.true_or, Bool.or_true]
      refine CO.intro (next_ex hp _ _ 41 (.inl rfl) _) ?_
      simp -implicitDefEqProofs only [go_sem, List.reduceReplicate, Nat.reduceAdd, Nat.reduceSub, Nat.reduceLT, Nat.reduceLeDiff, Nat.reduceMul, Nat.reduceEqDiff, reduceCtorEq, Int.reduceLE, Int.reduceLT, Int.reduceEq, Int.reduceNe, Int.reduceBEq, Int.reduceBNe, Int.reduceAdd, Int.reduceSub, gA hp, sA hp, gL0, sL0, gL1, sL1, sees_true, nextA]
      refine Fini.trim2 (ex := [_, _]) ?_ rfl ?_ (bel_rv _ _) (hb2 _ _)
      · (simp -implicitDefEqProofs only [go_sem, List.reduceReplicate, Nat.reduceAdd, Nat.reduceSub, Nat.reduceLT, Nat.reduceLeDiff, Nat.reduceMul, Nat.reduceEqDiff, reduceCtorEq, Int.reduceLE, Int.reduceLT, Int.reduceEq, Int.reduceNe, Int.reduceBEq, Int.reduceBNe, Int.reduceAdd, Int.reduceSub, resA, allSome, rvA, oneOf, gL0]; first | done | rfl | rw [rv_eq, hK] | (simp only [rv, rvK, rvL]; rw [rv_eq, hK]))
      · simp
    | false =>
      cases hd8 : d == 8 with
      | true =>
        simp -implicitDefEqProofs only [go_sem, List.reduceReplicate, Nat.reduceAdd, Nat.reduceSub, Nat.reduceLT, Nat.reduceLeDiff, Nat.reduceMul, Nat.reduceEqDiff, reduceCtorEq, Int.reduceLE, Int.reduceLT, Int.reduceEq, Int.reduceNe, Int.reduceBEq, Int.reduceBNe, Int.reduceAdd, Int.reduceSub, k40, k91, k46, k92, h40, gA hp, sA hp, gL0, sL0, gL1, sL1, if_true, k8, hd8, Bool.false_or, Bool.or_false, Bool.or_true, Bool.true_or]
        refine CO.intro (next_ex hp _ _ 41 (.inl rfl) _) ?_
        simp -implicitDefEqProofs only [go_sem, List.reduceReplicate, Nat.reduceAdd, Nat.reduceSub, Nat.reduceLT, Nat.reduceLeDiff, Nat.reduceMul, Nat.reduceEqDiff, reduceCtorEq, Int.reduceLE, Int.reduceLT, Int.reduceEq, Int.reduceNe, Int.reduceBEq, Int.reduceBNe, Int.reduceAdd, Int.reduceSub, gA hp, sA hp, gL0, sL0, gL1, sL1, sees_true, nextA]
        refine Fini.trim2 (ex := [_, _]) ?_ rfl ?_ (bel_rv _ _) (hb2 _ _)
        · (simp -implicitDefEqProofs only [go_sem, List.reduceReplicate, Nat.reduceAdd, Nat.reduceSub, Nat.reduceLT, Nat.reduceLeDiff, Nat.reduceMul, Nat.reduceEqDiff, reduceCtorEq, Int.reduceLE, Int.reduceLT, Int.reduceEq, Int.reduceNe, Int.reduceBEq, Int.reduceBNe, Int.reduceAdd, Int.reduceSub, resA, allSome, rvA, oneOf, gL0]; first | done | rfl | rw [rv_eq, hK] | (simp only [rv, rvK, rvL]; rw [rv_eq, hK]))
        · simp
      | false =>
        have hd7 : d < 8 := by
          have : d ≠ 8 := by simpa using hd8
          omega
        have e1 : IntKind.i64.wrap ((d : Int) + 1) = ((d + 1 : Nat) : Int) := by rw [wrapN (by omega) (by omega)]; rfl
        simp -implicitDefEqProofs only [go_sem, List.reduceReplicate, Nat.reduceAdd, Nat.reduceSub, Nat.reduceLT, Nat.reduceLeDiff, Nat.reduceMul, Nat.reduceEqDiff, reduceCtorEq, Int.reduceLE, Int.reduceLT, Int.reduceEq, Int.reduceNe, Int.reduceBEq, Int.reduceBNe, Int.reduceAdd, Int.reduceSub, k40, k91, k46, k92, h40, gA hp, sA hp, gL0, sL0, gL1, sL1, if_true, k8, hd8, Bool.false_or, Bool.or_false, Bool.or_true, Bool.true_or, e1]
        refine CO.intro ((hF hd7).ex hp _ _ hs' _) ?_
        have hs2 : (F a' false).2.2 = true ∨ s.size ≤ 40 := hfw.hs hs'
        generalize F a' false = w at hs2 ⊢
        obtain ⟨x, a1, b1⟩ := w
        simp only at hs2 ⊢
        have hbx : ∀ n, Bel n x.rv := fun n => bel_rv n x
        rw [rv_eq x] at hbx ⊢
        rcases rvK_cases x.ks with hK | ⟨l, hK⟩
        all_goals rw [hK] at hbx ⊢
        all_goals simp -implicitDefEqProofs only [go_sem, List.reduceReplicate, Nat.reduceAdd, Nat.reduceSub, Nat.reduceLT, Nat.reduceLeDiff, Nat.reduceMul, Nat.reduceEqDiff, reduceCtorEq, Int.reduceLE, Int.reduceLT, Int.reduceEq, Int.reduceNe, Int.reduceBEq, Int.reduceBNe, Int.reduceAdd, Int.reduceSub, gA hp, sA hp, gL0, sL0, gL1, sL1]
        all_goals refine CO.intro (next_ex hp _ _ 41 hs2 _) ?_
        all_goals cases hse : sees s a1 b1 41
        all_goals (
          first
          | (have hb1 := (sees_lt hse).2
             subst hb1)
          | skip
          simp -implicitDefEqProofs only [go_sem, List.reduceReplicate, Nat.reduceAdd, Nat.reduceSub, Nat.reduceLT, Nat.reduceLeDiff, Nat.reduceMul, Nat.reduceEqDiff, reduceCtorEq, Int.reduceLE, Int.reduceLT, Int.reduceEq, Int.reduceNe, Int.reduceBEq, Int.reduceBNe, Int.reduceAdd, Int.reduceSub, gA hp, sA hp, gL0, sL0, gL1, sL1, hse, nextA, Bool.true_or, Bool.false_or]
          refine Fini.trim2 (ex := [_, _]) ?_ rfl ?_ (hbx _) (hb2 _ _)
          · (simp -implicitDefEqProofs only [go_sem, List.reduceReplicate, Nat.reduceAdd, Nat.reduceSub, Nat.reduceLT, Nat.reduceLeDiff, Nat.reduceMul, Nat.reduceEqDiff, reduceCtorEq, Int.reduceLE, Int.reduceLT, Int.reduceEq, Int.reduceNe, Int.reduceBEq, Int.reduceBNe, Int.reduceAdd, Int.reduceSub, resA, allSome, rvA, oneOf, gL0]; first | done | rfl | rw [rv_eq, hK] | (simp only [rv, rvK, rvL]; rw [rv_eq, hK]))
          · simp)
  | false =>
    cases h91 : c == 91 with
    | true =>
      simp -implicitDefEqProofs only [go_sem, List.reduceReplicate, Nat.reduceAdd, Nat.reduceSub, Nat.reduceLT, Nat.reduceLeDiff, Nat.reduceMul, Nat.reduceEqDiff, reduceCtorEq, Int.reduceLE, Int.reduceLT, Int.reduceEq, Int.reduceNe, Int.reduceBEq, Int.reduceBNe, Int.reduceAdd, Int.reduceSub, k40, k91, k46, k92, h40, h91, gA hp, sA hp, if_true, Bool.false_eq_true, if_false]
      refine CO.intro (class_ex hp a' b' hs' _) ?_
      have h4 := pclass_len s a' b'
      generalize pclass s a' b' = k at h4 ⊢
      obtain ⟨S, a1, b1⟩ := k
      simp only at h4 ⊢
      obtain ⟨x0, x1, x2, x3, rfl⟩ := four h4
      simp -implicitDefEqProofs only [go_sem, List.reduceReplicate, Nat.reduceAdd, Nat.reduceSub, Nat.reduceLT, Nat.reduceLeDiff, Nat.reduceMul, Nat.reduceEqDiff, reduceCtorEq, Int.reduceLE, Int.reduceLT, Int.reduceEq, Int.reduceNe, Int.reduceBEq, Int.reduceBNe, Int.reduceAdd, Int.reduceSub, gA hp, sA hp, gL0, sL0, gL1, sL1, List.map_cons, List.map_nil]
      refine Fini.trim2 (ex := [_, _]) ?_ rfl ?_ (bel_rv _ _) (hb2 _ _)
      · (simp -implicitDefEqProofs only [go_sem, List.reduceReplicate, Nat.reduceAdd, Nat.reduceSub, Nat.reduceLT, Nat.reduceLeDiff, Nat.reduceMul, Nat.reduceEqDiff, reduceCtorEq, Int.reduceLE, Int.reduceLT, Int.reduceEq, Int.reduceNe, Int.reduceBEq, Int.reduceBNe, Int.reduceAdd, Int.reduceSub, resA, allSome, rvA, oneOf, gL0]; first | done | rfl | rw [rv_eq, hK] | (simp only [rv, rvK, rvL]; rw [rv_eq, hK]))
      · simp
    | false =>
      cases h46 : c == 46 with
      | true =>
        simp -implicitDefEqProofs only [go_sem, List.reduceReplicate, Nat.reduceAdd, Nat.reduceSub, Nat.reduceLT, Nat.reduceLeDiff, Nat.reduceMul, Nat.reduceEqDiff, reduceCtorEq, Int.reduceLE, Int.reduceLT, Int.reduceEq, Int.reduceNe, Int.reduceBEq, Int.reduceBNe, Int.reduceAdd, Int.reduceSub, k40, k91, k46, k92, h40, h91, h46, gA hp, sA hp, gL0, sL0, gL1, sL1, if_true, Bool.false_eq_true, if_false]
        refine CO.intro (turned_ans _ 0 0 0 0) ?_
        simp -implicitDefEqProofs only [go_sem, List.reduceReplicate, Nat.reduceAdd, Nat.reduceSub, Nat.reduceLT, Nat.reduceLeDiff, Nat.reduceMul, Nat.reduceEqDiff, reduceCtorEq, Int.reduceLE, Int.reduceLT, Int.reduceEq, Int.reduceNe, Int.reduceBEq, Int.reduceBNe, Int.reduceAdd, Int.reduceSub, gA hp, sA hp, gL0, sL0, gL1, sL1, List.map_cons, List.map_nil]
        refine Fini.trim2 (ex := [_, _]) ?_ rfl ?_ (bel_rv _ _) (hb2 _ _)
        · (simp -implicitDefEqProofs only [go_sem, List.reduceReplicate, Nat.reduceAdd, Nat.reduceSub, Nat.reduceLT, Nat.reduceLeDiff, Nat.reduceMul, Nat.reduceEqDiff, reduceCtorEq, Int.reduceLE, Int.reduceLT, Int.reduceEq, Int.reduceNe, Int.reduceBEq, Int.reduceBNe, Int.reduceAdd, Int.reduceSub, resA, allSome, rvA, oneOf, gL0]; first | done | rfl | rw [rv_eq, hK] | (simp only [rv, rvK, rvL]; rw [rv_eq, hK]))
        · simp
      | false =>
        cases h92 : c == 92 with
        | true =>
          simp -implicitDefEqProofs only [go_sem, List.reduceReplicate, Nat.reduceAdd, Nat.reduceSub, Nat.reduceLT, Nat.reduceLeDiff, Nat.reduceMul, Nat.reduceEqDiff, reduceCtorEq, Int.reduceLE, Int.reduceLT, Int.reduceEq, Int.reduceNe, Int.reduceBEq, Int.reduceBNe, Int.reduceAdd, Int.reduceSub, k40, k91, k46, k92, h40, h91, h46, h92, gA hp, sA hp, gL0, sL0, gL1, sL1, if_true, Bool.false_eq_true, if_false]
          refine CO.intro (sign_ex hp a' b' hs' _) ?_
          have hk : (psign s a' b').1 < 256 := pbyte_lt s a' b'
          generalize psign s a' b' = k at hk ⊢
          obtain ⟨x, a1, b1⟩ := k
          simp only at hk ⊢
          simp -implicitDefEqProofs only [go_sem, List.reduceReplicate, Nat.reduceAdd, Nat.reduceSub, Nat.reduceLT, Nat.reduceLeDiff, Nat.reduceMul, Nat.reduceEqDiff, reduceCtorEq, Int.reduceLE, Int.reduceLT, Int.reduceEq, Int.reduceNe, Int.reduceBEq, Int.reduceBNe, Int.reduceAdd, Int.reduceSub]
          refine CO.intro (add_ans _ (σ.length + 1) 1 _ x 0 (gL1 _ _ _ _ _ _) (add_get hk) hk) ?_
          rw [sL1, add_cells hk]
          simp -implicitDefEqProofs only [go_sem, List.reduceReplicate, Nat.reduceAdd, Nat.reduceSub, Nat.reduceLT, Nat.reduceLeDiff, Nat.reduceMul, Nat.reduceEqDiff, reduceCtorEq, Int.reduceLE, Int.reduceLT, Int.reduceEq, Int.reduceNe, Int.reduceBEq, Int.reduceBNe, Int.reduceAdd, Int.reduceSub, gA hp, sA hp, gL0, sL0, gL1, sL1, List.map_cons, List.map_nil]
          refine Fini.trim2 (ex := [_, _]) ?_ rfl ?_ (bel_rv _ _) (hb2 _ _)
          · (simp -implicitDefEqProofs only [go_sem, List.reduceReplicate, Nat.reduceAdd, Nat.reduceSub, Nat.reduceLT, Nat.reduceLeDiff, Nat.reduceMul, Nat.reduceEqDiff, reduceCtorEq, Int.reduceLE, Int.reduceLT, Int.reduceEq, Int.reduceNe, Int.reduceBEq, Int.reduceBNe, Int.reduceAdd, Int.reduceSub, resA, allSome, rvA, oneOf, gL0]; first | done | rfl | rw [rv_eq, hK] | (simp only [rv, rvK, rvL]; rw [rv_eq, hK]))
          · simp
        | false =>
          simp -implicitDefEqProofs only [go_sem, List.reduceReplicate, Nat.reduceAdd, Nat.reduceSub, Nat.reduceLT, Nat.reduceLeDiff, Nat.reduceMul, Nat.reduceEqDiff, reduceCtorEq, Int.reduceLE, Int.reduceLT, Int.reduceEq, Int.reduceNe, Int.reduceBEq, Int.reduceBNe, Int.reduceAdd, Int.reduceSub, k40, k91, k46, k92, h40, h91, h46, h92, gA hp, sA hp, gL0, sL0, gL1, sL1, if_true, Bool.false_eq_true, if_false]
          cases b' with
          | true =>
            simp -implicitDefEqProofs only [go_sem, List.reduceReplicate, Nat.reduceAdd, Nat.reduceSub, Nat.reduceLT, Nat.reduceLeDiff, Nat.reduceMul, Nat.reduceEqDiff, reduceCtorEq, Int.reduceLE, Int.reduceLT, Int.reduceEq, Int.reduceNe, Int.reduceBEq, Int.reduceBNe, Int.reduceAdd, Int.reduceSub, gA hp, sA hp, gL0, sL0, gL1, sL1]
            refine CO.intro (add_ans _ (σ.length + 1) 1 _ c 0 (gL1 _ _ _ _ _ _) (add_get hc) hc) ?_
            rw [sL1, add_cells hc]
            simp -implicitDefEqProofs only [go_sem, List.reduceReplicate, Nat.reduceAdd, Nat.reduceSub, Nat.reduceLT, Nat.reduceLeDiff, Nat.reduceMul, Nat.reduceEqDiff, reduceCtorEq, Int.reduceLE, Int.reduceLT, Int.reduceEq, Int.reduceNe, Int.reduceBEq, Int.reduceBNe, Int.reduceAdd, Int.reduceSub, gA hp, sA hp, gL0, sL0, gL1, sL1]
            refine Fini.trim2 (ex := [_, _]) ?_ rfl ?_ (bel_rv _ _) (hb2 _ _)
            · (simp -implicitDefEqProofs only [go_sem, List.reduceReplicate, Nat.reduceAdd, Nat.reduceSub, Nat.reduceLT, Nat.reduceLeDiff, Nat.reduceMul, Nat.reduceEqDiff, reduceCtorEq, Int.reduceLE, Int.reduceLT, Int.reduceEq, Int.reduceNe, Int.reduceBEq, Int.reduceBNe, Int.reduceAdd, Int.reduceSub, resA, allSome, rvA, oneOf, gL0]; first | done | rfl | rw [rv_eq, hK] | (simp only [rv, rvK, rvL]; rw [rv_eq, hK]))
            · simp
          | false =>
            simp -implicitDefEqProofs only [go_sem, List.reduceReplicate, Nat.reduceAdd, Nat.reduceSub, Nat.reduceLT, Nat.reduceLeDiff, Nat.reduceMul, Nat.reduceEqDiff, reduceCtorEq, Int.reduceLE, Int.reduceLT, Int.reduceEq, Int.reduceNe, Int.reduceBEq, Int.reduceBNe, Int.reduceAdd, Int.reduceSub, gA hp, sA hp, gL0, sL0, gL1, sL1]
            refine CO.intro (byteidx_ans _ _ c) ?_
            simp -implicitDefEqProofs only [go_sem, List.reduceReplicate, Nat.reduceAdd, Nat.reduceSub, Nat.reduceLT, Nat.reduceLeDiff, Nat.reduceMul, Nat.reduceEqDiff, reduceCtorEq, Int.reduceLE, Int.reduceLT, Int.reduceEq, Int.reduceNe, Int.reduceBEq, Int.reduceBNe, Int.reduceAdd, Int.reduceSub, gA hp, sA hp, gL0, sL0, gL1, sL1]
            refine CO.intro (add_ans _ (σ.length + 1) 1 _ c 0 (gL1 _ _ _ _ _ _) (add_get hc) hc) ?_
            rw [sL1, add_cells hc]
            simp -implicitDefEqProofs only [go_sem, List.reduceReplicate, Nat.reduceAdd, Nat.reduceSub, Nat.reduceLT, Nat.reduceLeDiff, Nat.reduceMul, Nat.reduceEqDiff, reduceCtorEq, Int.reduceLE, Int.reduceLT, Int.reduceEq, Int.reduceNe, Int.reduceBEq, Int.reduceBNe, Int.reduceAdd, Int.reduceSub, gA hp, sA hp, gL0, sL0, gL1, sL1]
            rw [hst]
            refine Fini.trim2 (ex := [_, _]) ?_ rfl ?_ (bel_rv _ _) (hb2 _ _)
            · (simp -implicitDefEqProofs only [go_sem, List.reduceReplicate, Nat.reduceAdd, Nat.reduceSub, Nat.reduceLT, Nat.reduceLeDiff, Nat.reduceMul, Nat.reduceEqDiff, reduceCtorEq, Int.reduceLE, Int.reduceLT, Int.reduceEq, Int.reduceNe, Int.reduceBEq, Int.reduceBNe, Int.reduceAdd, Int.reduceSub, resA, allSome, rvA, oneOf, gL0]; first | done | rfl | rw [rv_eq, hK] | (simp only [rv, rvK, rvL]; rw [rv_eq, hK]))
            · simp
end
section
variable (s : ByteArray)
theorem factor_ans (F : PF) (d : Nat) (hF : FAns 142 [I d] s F) (hfw : Fwd F) : FAns 134 [I d] s (pfactor s F) := by
  intro σ p a b hp hs
  refine Ans.of_run' t134 (fun hbel _ => ?_)
  have hb2 := bel_at hbel
  simp -implicitDefEqProofs only [c134, r134, go_sem, List.reduceReplicate, Nat.reduceAdd, Nat.reduceSub, Nat.reduceLT, Nat.reduceLeDiff, Nat.reduceMul, Nat.reduceEqDiff, reduceCtorEq, Int.reduceLE, Int.reduceLT, Int.reduceEq, Int.reduceNe, Int.reduceBEq, Int.reduceBNe, Int.reduceAdd, Int.reduceSub, List.append_assoc, List.length_append, List.length_set, gA hp, sA hp, gL0, sL0, gL1, sL1]
  refine CO.intro (hF.ex hp _ _ hs _) ?_
  have hs2 : (F a b).2.2 = true ∨ s.size ≤ 40 := hfw.hs hs
  unfold pfactor
  generalize F a b = w at hs2 ⊢
  obtain ⟨x, a1, b1⟩ := w
  simp only at hs2 ⊢
  have hn : ∀ (ex : St) (c : Nat), sees s a1 b1 c = false → Ans Try.prog 118 [.ptr p 0, B8 c] (σ.set p (pob s a1 b1) ++ ex) (Bo false) (σ.set p (pob s a1 b1) ++ ex) := fun ex c h => by
    have := next_ex hp a1 b1 c hs2 ex
    rwa [nextA, h] at this
  have hy : ∀ (ex : St) (c : Nat), sees s a1 b1 c = true → Ans Try.prog 118 [.ptr p 0, B8 c] (σ.set p (pob s a1 b1) ++ ex) (Bo true) (σ.set p (pob s (a1 + 1) b1) ++ ex) := fun ex c h => by
    have := next_ex hp a1 b1 c hs2 ex
    rwa [nextA, h] at this
  have hbx : ∀ n, Bel n x.rv := fun n => bel_rv n x
  rw [rv_eq x] at hbx ⊢
  rcases rvK_cases x.ks with hK | ⟨l, hK⟩
  all_goals (
    rw [hK] at hbx ⊢
    simp -implicitDefEqProofs only [go_sem, List.reduceReplicate, Nat.reduceAdd, Nat.reduceSub, Nat.reduceLT, Nat.reduceLeDiff, Nat.reduceMul, Nat.reduceEqDiff, reduceCtorEq, Int.reduceLE, Int.reduceLT, Int.reduceEq, Int.reduceNe, Int.reduceBEq, Int.reduceBNe, Int.reduceAdd, Int.reduceSub, gA hp, sA hp, gL0, sL0, gL1, sL1]
    cases h42 : sees s a1 b1 42
    · refine CO.intro (hn _ 42 h42) ?_
      simp -implicitDefEqProofs only [go_sem, List.reduceReplicate, Nat.reduceAdd, Nat.reduceSub, Nat.reduceLT, Nat.reduceLeDiff, Nat.reduceMul, Nat.reduceEqDiff, reduceCtorEq, Int.reduceLE, Int.reduceLT, Int.reduceEq, Int.reduceNe, Int.reduceBEq, Int.reduceBNe, Int.reduceAdd, Int.reduceSub, gA hp, sA hp, gL0, sL0, gL1, sL1]
      cases h43 : sees s a1 b1 43
      · refine CO.intro (hn _ 43 h43) ?_
        simp -implicitDefEqProofs only [go_sem, List.reduceReplicate, Nat.reduceAdd, Nat.reduceSub, Nat.reduceLT, Nat.reduceLeDiff, Nat.reduceMul, Nat.reduceEqDiff, reduceCtorEq, Int.reduceLE, Int.reduceLT, Int.reduceEq, Int.reduceNe, Int.reduceBEq, Int.reduceBNe, Int.reduceAdd, Int.reduceSub, gA hp, sA hp, gL0, sL0, gL1, sL1]
        cases h63 : sees s a1 b1 63
        · refine CO.intro (hn _ 63 h63) ?_
          simp -implicitDefEqProofs only [go_sem, List.reduceReplicate, Nat.reduceAdd, Nat.reduceSub, Nat.reduceLT, Nat.reduceLeDiff, Nat.reduceMul, Nat.reduceEqDiff, reduceCtorEq, Int.reduceLE, Int.reduceLT, Int.reduceEq, Int.reduceNe, Int.reduceBEq, Int.reduceBNe, Int.reduceAdd, Int.reduceSub, gA hp, sA hp, gL0, sL0, gL1, sL1]
          refine Fini.trim2 (ex := [_]) ?_ rfl ?_ (bel_rv _ _) (hb2 _ _)
          · (simp -implicitDefEqProofs only [go_sem, List.reduceReplicate, Nat.reduceAdd, Nat.reduceSub, Nat.reduceLT, Nat.reduceLeDiff, Nat.reduceMul, Nat.reduceEqDiff, reduceCtorEq, Int.reduceLE, Int.reduceLT, Int.reduceEq, Int.reduceNe, Int.reduceBEq, Int.reduceBNe, Int.reduceAdd, Int.reduceSub, resA, allSome, rvA, oneOf, gL0]; first | done | rfl | rw [rv_eq, hK] | (simp only [rv, rvK, rvL]; rw [rv_eq, hK]))
          · simp
        · refine CO.intro (hy _ 63 h63) ?_
          simp -implicitDefEqProofs only [go_sem, List.reduceReplicate, Nat.reduceAdd, Nat.reduceSub, Nat.reduceLT, Nat.reduceLeDiff, Nat.reduceMul, Nat.reduceEqDiff, reduceCtorEq, Int.reduceLE, Int.reduceLT, Int.reduceEq, Int.reduceNe, Int.reduceBEq, Int.reduceBNe, Int.reduceAdd, Int.reduceSub, gA hp, sA hp, gL0, sL0, gL1, sL1]
          refine Fini.trim2 (ex := [_]) ?_ rfl ?_ (bel_rv _ _) (hb2 _ _)
          · (simp -implicitDefEqProofs only [go_sem, List.reduceReplicate, Nat.reduceAdd, Nat.reduceSub, Nat.reduceLT, Nat.reduceLeDiff, Nat.reduceMul, Nat.reduceEqDiff, reduceCtorEq, Int.reduceLE, Int.reduceLT, Int.reduceEq, Int.reduceNe, Int.reduceBEq, Int.reduceBNe, Int.reduceAdd, Int.reduceSub, resA, allSome, rvA, oneOf, gL0]; first | done | rfl | rw [rv_eq, hK] | (simp only [rv, rvK, rvL]; rw [rv_eq, hK]))
          · simp
      · refine CO.intro (hy _ 43 h43) ?_
        simp -implicitDefEqProofs only [go_sem, List.reduceReplicate, Nat.reduceAdd, Nat.reduceSub, Nat.reduceLT, Nat.reduceLeDiff, Nat.reduceMul, Nat.reduceEqDiff, reduceCtorEq, Int.reduceLE, Int.reduceLT, Int.reduceEq, Int.reduceNe, Int.reduceBEq, Int.reduceBNe, Int.reduceAdd, Int.reduceSub, gA hp, sA hp, gL0, sL0, gL1, sL1]
        refine Fini.trim2 (ex := [_]) ?_ rfl ?_ (bel_rv _ _) (hb2 _ _)
        · (simp -implicitDefEqProofs only [go_sem, List.reduceReplicate, Nat.reduceAdd, Nat.reduceSub, Nat.reduceLT, Nat.reduceLeDiff, Nat.reduceMul, Nat.reduceEqDiff, reduceCtorEq, Int.reduceLE, Int.reduceLT, Int.reduceEq, Int.reduceNe, Int.reduceBEq, Int.reduceBNe, Int.reduceAdd, Int.reduceSub, resA, allSome, rvA, oneOf, gL0]; first | done | rfl | rw [rv_eq, hK] | (simp only [rv, rvK, rvL]; rw [rv_eq, hK]))
        · simp
    · refine CO.intro (hy _ 42 h42) ?_
      simp -implicitDefEqProofs only [go_sem, List.reduceReplicate, Nat.reduceAdd, Nat.reduceSub, Nat.reduceLT, Nat.reduceLeDiff, Nat.reduceMul, Nat.reduceEqDiff, reduceCtorEq, Int.reduceLE, Int.reduceLT, Int.reduceEq, Int.reduceNe, Int.reduceBEq, Int.reduceBNe, Int.reduceAdd, Int.reduceSub, gA hp, sA hp, gL0, sL0, gL1, sL1]
      refine Fini.trim2 (ex := [_]) ?_ rfl ?_ (bel_rv _ _) (hb2 _ _)
      · (simp -implicitDefEqProofs only [go_sem, List.reduceReplicate, Nat.reduceAdd, Nat.reduceSub, Nat.reduceLT, Nat.reduceLeDiff, Nat.reduceMul, Nat.reduceEqDiff, reduceCtorEq, Int.reduceLE, Int.reduceLT, Int.reduceEq, Int.reduceNe, Int.reduceBEq, Int.reduceBNe, Int.reduceAdd, Int.reduceSub, resA, allSome, rvA, oneOf, gL0]; first | done | rfl | rw [rv_eq, hK] | (simp only [rv, rvK, rvL]; rw [rv_eq, hK]))
      · simp)
end
end Go.Proofs.Ytoadgajhkhejiaa
namespace Go.Proofs.Ytoadgajhkhejiaa
open Go Go.Ab
set_option maxRecDepth 100000
open Rex
abbrev box0 : Ob := .box [I 0, U 0, U 0, U 0, U 0, .nils]
def exK (K : List Rex) : St := box0 :: (if K.isEmpty then [] else [.row 6 (K.map rv)])
def vK (l : Nat) (K : List Rex) : AV := if K.isEmpty then .nils else .osl (l + 1) K.length
theorem exK_cons (x : Rex) (K : List Rex) : exK (x :: K) = [box0, .row 6 ((x :: K).map rv)] := rfl
theorem vK_cons (l : Nat) (x : Rex) (K : List Rex) : vK l (x :: K) = .osl (l + 1) (K.length + 1) := rfl
theorem exK_nil : exK [] = [box0] := rfl
theorem vK_nil (l : Nat) : vK l [] = .nils := rfl
theorem exK_snoc (K : List Rex) (x : Rex) : exK (K ++ [x]) = [box0, .row 6 (K.map rv ++ [x.rv])] := by
  cases K with
  | nil => rfl
  | cons y K => simp [exK]
theorem vK_snoc (l : Nat) (K : List Rex) (x : Rex) : vK l (K ++ [x]) = .osl (l + 1) (K.length + 1) := by
  cases K with
  | nil => rfl
  | cons y K => simp [vK]
theorem rv_one (op : Int) (y z : Rex) (K : List Rex) : (one op (y :: z :: K)).rv = .agg [I op, U 0, U 0, U 0, U 0, .sl 6 ((y :: z :: K).map rv)] := by
  show Rex.rv (.mk op 0 0 0 0 (y :: z :: K)) = _
  rw [rv, rvK_cons]
theorem bel_tup2 {n : Nat} {x : AV} (h : Bel n x) (b : Bool) : Bel n (.tup [x, Bo b]) := by
  refine .tup _ fun i hi => ?_
  have : ∀ y ∈ [x, Bo b], Bel n y := by
    intro y hy
    simp only [List.mem_cons, List.not_mem_nil, or_false] at hy
    rcases hy with rfl | rfl
    · exact h
    · exact .pl _
  exact this _ (List.getElem_mem hi)
section
variable (s : ByteArray)
theorem way_ans (F : PF) (d : Nat) (hF : FAns 134 [I d] s F) (hfw : Fwd F) (he : Eats s F) : FAns 117 [I d] s (pway s F) := by
  intro σ p a b hp hs
  refine Ans.of_run' t117 (fun hbel _ => ?_)
  have hb2 := bel_at hbel
  simp -implicitDefEqProofs only [c117, r117, go_sem, List.reduceReplicate, Nat.reduceAdd, Nat.reduceSub, Nat.reduceLT, Nat.reduceLeDiff, Nat.reduceMul, Nat.reduceEqDiff, reduceCtorEq, Int.reduceLE, Int.reduceLT, Int.reduceEq, Int.reduceNe, Int.reduceBEq, Int.reduceBNe, Int.reduceAdd, Int.reduceSub, List.append_assoc, List.length_append, List.length_set]
  unfold pway
  simp only
  have hm : s.size - a < s.size + 1 := by omega
  generalize hres : pwayL s F (s.size + 1) [] a b = res
  refine L.intro (α := { x : Nat × List Rex × Nat × Bool // pwayL s F x.1 x.2.1 x.2.2.1 x.2.2.2 = res ∧ s.size - x.2.2.1 < x.1 ∧ (x.2.2.2 = true ∨ s.size ≤ 40) ∧ x.2.1.length ≤ x.2.2.1 })
    (fun x => x.1.1)
    (fun x => mkE 33 [(0, .ptr p 0), (1, I d), (4, .ptr σ.length 0), (5, vK σ.length x.1.2.1)])
    (fun x => σ.set p (pob s x.1.2.2.1 x.1.2.2.2) ++ exK x.1.2.1)
    (fun x J hJ => ?_) ⟨(s.size + 1, [], a, b), hres, hm, hs, Nat.zero_le _⟩ ?_ ?_
  · obtain ⟨⟨n, K, a1, b1⟩, h1, h2, h3, h4⟩ := x
    simp only at h1 h2 h3 h4 hJ ⊢
    cases n with
    | zero => omega
    | succ n =>
    rw [pwayL] at h1
    cases hgo : wGo s a1 b1 with
    | true =>
      rw [hgo, if_pos rfl] at h1
      obtain ⟨ha, hb⟩ := wGo_lt hgo
      subst hb
      have hov : over s a1 false = false := by simp [wGo] at hgo; exact hgo.1
      have hs1 : sees s a1 false 124 = false := by simp [wGo] at hgo; exact hgo.2.1
      have hs2 : sees s a1 false 41 = false := by simp [wGo] at hgo; exact hgo.2.2
      have hsz : s.size ≤ 40 := by
        rcases h3 with h | h
        · exact absurd h Bool.false_ne_true
        · exact h
      have hea := he a1 false hov
      have hJ' := hJ ⟨(n, K ++ [(F a1 false).1], (F a1 false).2.1, (F a1 false).2.2), h1, by simp only; omega, .inr hsz, by simp; omega⟩ (Nat.lt_succ_self n)
      simp only [exK_snoc, vK_snoc] at hJ'
      clear hJ h1 hgo
      simp -implicitDefEqProofs only [mkE, List.foldl_cons, List.foldl_nil, go_sem, List.reduceReplicate, Nat.reduceAdd, Nat.reduceSub, Nat.reduceLT, Nat.reduceLeDiff, Nat.reduceMul, Nat.reduceEqDiff, reduceCtorEq, Int.reduceLE, Int.reduceLT, Int.reduceEq, Int.reduceNe, Int.reduceBEq, Int.reduceBNe, Int.reduceAdd, Int.reduceSub]
      refine CO.intro (over_ex hp a1 false _) ?_
      simp -implicitDefEqProofs only [go_sem, List.reduceReplicate, Nat.reduceAdd, Nat.reduceSub, Nat.reduceLT, Nat.reduceLeDiff, Nat.reduceMul, Nat.reduceEqDiff, reduceCtorEq, Int.reduceLE, Int.reduceLT, Int.reduceEq, Int.reduceNe, Int.reduceBEq, Int.reduceBNe, Int.reduceAdd, Int.reduceSub, hov]
      refine CO.intro (sees_ex hp a1 false 124 _) ?_
      simp -implicitDefEqProofs only [go_sem, List.reduceReplicate, Nat.reduceAdd, Nat.reduceSub, Nat.reduceLT, Nat.reduceLeDiff, Nat.reduceMul, Nat.reduceEqDiff, reduceCtorEq, Int.reduceLE, Int.reduceLT, Int.reduceEq, Int.reduceNe, Int.reduceBEq, Int.reduceBNe, Int.reduceAdd, Int.reduceSub, hs1]
      refine CO.intro (sees_ex hp a1 false 41 _) ?_
      simp -implicitDefEqProofs only [go_sem, List.reduceReplicate, Nat.reduceAdd, Nat.reduceSub, Nat.reduceLT, Nat.reduceLeDiff, Nat.reduceMul, Nat.reduceEqDiff, reduceCtorEq, Int.reduceLE, Int.reduceLT, Int.reduceEq, Int.reduceNe, Int.reduceBEq, Int.reduceBNe, Int.reduceAdd, Int.reduceSub, hs2]
      refine CO.intro (hF.ex hp a1 false (.inr hsz) _) ?_
      generalize F a1 false = w at hJ' hea ⊢
      obtain ⟨x, a2, b2⟩ := w
      simp only at hJ' hea ⊢
      rw [rv_eq x] at hJ' ⊢
      rcases K with _ | ⟨y, K⟩
      all_goals rcases rvK_cases x.ks with hK | ⟨l, hK⟩
      all_goals rw [hK] at hJ' ⊢
      all_goals first
      | (simp -implicitDefEqProofs only [go_sem, List.reduceReplicate, Nat.reduceAdd, Nat.reduceSub, Nat.reduceLT, Nat.reduceLeDiff, Nat.reduceMul, Nat.reduceEqDiff, reduceCtorEq, Int.reduceLE, Int.reduceLT, Int.reduceEq, Int.reduceNe, Int.reduceBEq, Int.reduceBNe, Int.reduceAdd, Int.reduceSub, exK_nil, vK_nil, gA hp, sA hp, gL0, sL0, gL1, sL1] at hJ' ⊢
         simpa [mkE] using hJ')
      | (have g1 : (K.length + 1 + 1 ≤ 2 ^ 32) = True := by simp at h4; simp; omega
         simp -implicitDefEqProofs only [go_sem, List.reduceReplicate, Nat.reduceAdd, Nat.reduceSub, Nat.reduceLT, Nat.reduceLeDiff, Nat.reduceMul, Nat.reduceEqDiff, reduceCtorEq, Int.reduceLE, Int.reduceLT, Int.reduceEq, Int.reduceNe, Int.reduceBEq, Int.reduceBNe, Int.reduceAdd, Int.reduceSub, exK_cons, vK_cons, gA hp, sA hp, gL0, sL0, gL1, sL1, List.length_map, g1] at hJ' ⊢
         simpa [mkE] using hJ')
    | false =>
      rw [hgo, if_neg Bool.false_ne_true] at h1
      subst h1
      clear hJ h2
      have hex : over s a1 b1 = true ∨ (over s a1 b1 = false ∧ sees s a1 b1 124 = true) ∨ (over s a1 b1 = false ∧ sees s a1 b1 124 = false ∧ sees s a1 b1 41 = true) := by
        unfold wGo at hgo
        cases h1 : over s a1 b1 <;> cases h2 : sees s a1 b1 124 <;> cases h3 : sees s a1 b1 41 <;> simp [h1, h2, h3] at hgo ⊢
      rcases hex with ho | ⟨ho, h5⟩ | ⟨ho, h5, h6⟩
      · simp -implicitDefEqProofs only [mkE, List.foldl_cons, List.foldl_nil, go_sem, List.reduceReplicate, Nat.reduceAdd, Nat.reduceSub, Nat.reduceLT, Nat.reduceLeDiff, Nat.reduceMul, Nat.reduceEqDiff, reduceCtorEq, Int.reduceLE, Int.reduceLT, Int.reduceEq, Int.reduceNe, Int.reduceBEq, Int.reduceBNe, Int.reduceAdd, Int.reduceSub]
        refine CO.intro (over_ex hp a1 b1 _) ?_
        simp -implicitDefEqProofs only [go_sem, List.reduceReplicate, Nat.reduceAdd, Nat.reduceSub, Nat.reduceLT, Nat.reduceLeDiff, Nat.reduceMul, Nat.reduceEqDiff, reduceCtorEq, Int.reduceLE, Int.reduceLT, Int.reduceEq, Int.reduceNe, Int.reduceBEq, Int.reduceBNe, Int.reduceAdd, Int.reduceSub, ho]
        rcases K with _ | ⟨y, _ | ⟨z, K⟩⟩
        · simp -implicitDefEqProofs only [go_sem, List.reduceReplicate, Nat.reduceAdd, Nat.reduceSub, Nat.reduceLT, Nat.reduceLeDiff, Nat.reduceMul, Nat.reduceEqDiff, reduceCtorEq, Int.reduceLE, Int.reduceLT, Int.reduceEq, Int.reduceNe, Int.reduceBEq, Int.reduceBNe, Int.reduceAdd, Int.reduceSub, exK_nil, vK_nil, gA hp, sA hp, gL0, sL0, gL1, sL1]
          refine Fini.trim2 (ex := [_]) ?_ rfl ?_ (bel_rv _ _) (hb2 _ _)
          · ((try simp -implicitDefEqProofs only [go_sem, List.reduceReplicate, Nat.reduceAdd, Nat.reduceSub, Nat.reduceLT, Nat.reduceLeDiff, Nat.reduceMul, Nat.reduceEqDiff, reduceCtorEq, Int.reduceLE, Int.reduceLT, Int.reduceEq, Int.reduceNe, Int.reduceBEq, Int.reduceBNe, Int.reduceAdd, Int.reduceSub, resA, allSome, rvA, oneOf, gL0]); first | done | rfl | (rw [rv_one]; rfl) | rw [rv_eq, hK] | (simp only [rv, rvK, rvL]; rw [rv_eq, hK]))
          · simp
        · have g3 : (((1 : Nat) : Int) == 1) = true := rfl
          have g4 : ((0 : Int) < ((1 : Nat) : Int)) = True := by simp
          have hbx : ∀ n, Bel n y.rv := fun n => bel_rv n y
          rw [exK_cons, vK_cons, List.map_cons, List.map_nil, show (one 2 [y]) = y from rfl]
          rw [rv_eq y] at hbx ⊢
          rcases rvK_cases y.ks with hK | ⟨l, hK⟩
          all_goals rw [hK] at hbx ⊢
          all_goals simp -implicitDefEqProofs only [go_sem, List.reduceReplicate, Nat.reduceAdd, Nat.reduceSub, Nat.reduceLT, Nat.reduceLeDiff, Nat.reduceMul, Nat.reduceEqDiff, reduceCtorEq, Int.reduceLE, Int.reduceLT, Int.reduceEq, Int.reduceNe, Int.reduceBEq, Int.reduceBNe, Int.reduceAdd, Int.reduceSub, gA hp, sA hp, gL0, sL0, gL1, sL1, List.length_map, g3, g4, Int.toNat_zero]
          all_goals (
            refine Fini.trim2 (ex := [_, _]) ?_ rfl ?_ (hbx _) (hb2 _ _)
            · ((try simp -implicitDefEqProofs only [go_sem, List.reduceReplicate, Nat.reduceAdd, Nat.reduceSub, Nat.reduceLT, Nat.reduceLeDiff, Nat.reduceMul, Nat.reduceEqDiff, reduceCtorEq, Int.reduceLE, Int.reduceLT, Int.reduceEq, Int.reduceNe, Int.reduceBEq, Int.reduceBNe, Int.reduceAdd, Int.reduceSub, resA, allSome, rvA, oneOf, gL0]); first | done | rfl | (rw [rv_one]; rfl) | rw [rv_eq, hK] | (simp only [rv, rvK, rvL]; rw [rv_eq, hK]))
            · simp)
        · rw [exK_cons, vK_cons]
          have g2 : (((K.length + 1 + 1 : Nat) : Int) == 1) = false := by simp; omega
          simp -implicitDefEqProofs only [go_sem, List.reduceReplicate, Nat.reduceAdd, Nat.reduceSub, Nat.reduceLT, Nat.reduceLeDiff, Nat.reduceMul, Nat.reduceEqDiff, reduceCtorEq, Int.reduceLE, Int.reduceLT, Int.reduceEq, Int.reduceNe, Int.reduceBEq, Int.reduceBNe, Int.reduceAdd, Int.reduceSub, gA hp, sA hp, gL0, sL0, gL1, sL1, List.length_map, g2]
          refine Fini.trim2 (ex := [_, _]) ?_ rfl ?_ (bel_rv _ _) (hb2 _ _)
          · ((try simp -implicitDefEqProofs only [go_sem, List.reduceReplicate, Nat.reduceAdd, Nat.reduceSub, Nat.reduceLT, Nat.reduceLeDiff, Nat.reduceMul, Nat.reduceEqDiff, reduceCtorEq, Int.reduceLE, Int.reduceLT, Int.reduceEq, Int.reduceNe, Int.reduceBEq, Int.reduceBNe, Int.reduceAdd, Int.reduceSub, resA, allSome, rvA, oneOf, gL0]); first | done | rfl | (rw [rv_one]; rfl) | rw [rv_eq, hK] | (simp only [rv, rvK, rvL]; rw [rv_eq, hK]))
          · simp
      · simp -implicitDefEqProofs only [mkE, List.foldl_cons, List.foldl_nil, go_sem, List.reduceReplicate, Nat.reduceAdd, Nat.reduceSub, Nat.reduceLT, Nat.reduceLeDiff, Nat.reduceMul, Nat.reduceEqDiff, reduceCtorEq, Int.reduceLE, Int.reduceLT, Int.reduceEq, Int.reduceNe, Int.reduceBEq, Int.reduceBNe, Int.reduceAdd, Int.reduceSub]
        refine CO.intro (over_ex hp a1 b1 _) ?_
        simp -implicitDefEqProofs only [go_sem, List.reduceReplicate, Nat.reduceAdd, Nat.reduceSub, Nat.reduceLT, Nat.reduceLeDiff, Nat.reduceMul, Nat.reduceEqDiff, reduceCtorEq, Int.reduceLE, Int.reduceLT, Int.reduceEq, Int.reduceNe, Int.reduceBEq, Int.reduceBNe, Int.reduceAdd, Int.reduceSub, ho]
        refine CO.intro (sees_ex hp a1 b1 124 _) ?_
        simp -implicitDefEqProofs only [go_sem, List.reduceReplicate, Nat.reduceAdd, Nat.reduceSub, Nat.reduceLT, Nat.reduceLeDiff, Nat.reduceMul, Nat.reduceEqDiff, reduceCtorEq, Int.reduceLE, Int.reduceLT, Int.reduceEq, Int.reduceNe, Int.reduceBEq, Int.reduceBNe, Int.reduceAdd, Int.reduceSub, h5]
        rcases K with _ | ⟨y, _ | ⟨z, K⟩⟩
        · simp -implicitDefEqProofs only [go_sem, List.reduceReplicate, Nat.reduceAdd, Nat.reduceSub, Nat.reduceLT, Nat.reduceLeDiff, Nat.reduceMul, Nat.reduceEqDiff, reduceCtorEq, Int.reduceLE, Int.reduceLT, Int.reduceEq, Int.reduceNe, Int.reduceBEq, Int.reduceBNe, Int.reduceAdd, Int.reduceSub, exK_nil, vK_nil, gA hp, sA hp, gL0, sL0, gL1, sL1]
          refine Fini.trim2 (ex := [_]) ?_ rfl ?_ (bel_rv _ _) (hb2 _ _)
          · ((try simp -implicitDefEqProofs only [go_sem, List.reduceReplicate, Nat.reduceAdd, Nat.reduceSub, Nat.reduceLT, Nat.reduceLeDiff, Nat.reduceMul, Nat.reduceEqDiff, reduceCtorEq, Int.reduceLE, Int.reduceLT, Int.reduceEq, Int.reduceNe, Int.reduceBEq, Int.reduceBNe, Int.reduceAdd, Int.reduceSub, resA, allSome, rvA, oneOf, gL0]); first | done | rfl | (rw [rv_one]; rfl) | rw [rv_eq, hK] | (simp only [rv, rvK, rvL]; rw [rv_eq, hK]))
          · simp
        · have g3 : (((1 : Nat) : Int) == 1) = true := rfl
          have g4 : ((0 : Int) < ((1 : Nat) : Int)) = True := by simp
          have hbx : ∀ n, Bel n y.rv := fun n => bel_rv n y
          rw [exK_cons, vK_cons, List.map_cons, List.map_nil, show (one 2 [y]) = y from rfl]
          rw [rv_eq y] at hbx ⊢
          rcases rvK_cases y.ks with hK | ⟨l, hK⟩
          all_goals rw [hK] at hbx ⊢
          all_goals simp -implicitDefEqProofs only [go_sem, List.reduceReplicate, Nat.reduceAdd, Nat.reduceSub, Nat.reduceLT, Nat.reduceLeDiff, Nat.reduceMul, Nat.reduceEqDiff, reduceCtorEq, Int.reduceLE, Int.reduceLT, Int.reduceEq, Int.reduceNe, Int.reduceBEq, Int.reduceBNe, Int.reduceAdd, Int.reduceSub, gA hp, sA hp, gL0, sL0, gL1, sL1, List.length_map, g3, g4, Int.toNat_zero]
          all_goals (
            refine Fini.trim2 (ex := [_, _]) ?_ rfl ?_ (hbx _) (hb2 _ _)
            · ((try simp -implicitDefEqProofs only [go_sem, List.reduceReplicate, Nat.reduceAdd, Nat.reduceSub, Nat.reduceLT, Nat.reduceLeDiff, Nat.reduceMul, Nat.reduceEqDiff, reduceCtorEq, Int.reduceLE, Int.reduceLT, Int.reduceEq, Int.reduceNe, Int.reduceBEq, Int.reduceBNe, Int.reduceAdd, Int.reduceSub, resA, allSome, rvA, oneOf, gL0]); first | done | rfl | (rw [rv_one]; rfl) | rw [rv_eq, hK] | (simp only [rv, rvK, rvL]; rw [rv_eq, hK]))
            · simp)
        · rw [exK_cons, vK_cons]
          have g2 : (((K.length + 1 + 1 : Nat) : Int) == 1) = false := by simp; omega
          simp -implicitDefEqProofs only [go_sem, List.reduceReplicate, Nat.reduceAdd, Nat.reduceSub, Nat.reduceLT, Nat.reduceLeDiff, Nat.reduceMul, Nat.reduceEqDiff, reduceCtorEq, Int.reduceLE, Int.reduceLT, Int.reduceEq, Int.reduceNe, Int.reduceBEq, Int.reduceBNe, Int.reduceAdd, Int.reduceSub, gA hp, sA hp, gL0, sL0, gL1, sL1, List.length_map, g2]
          refine Fini.trim2 (ex := [_, _]) ?_ rfl ?_ (bel_rv _ _) (hb2 _ _)
          · ((try simp -implicitDefEqProofs only [go_sem, List.reduceReplicate, Nat.reduceAdd, Nat.reduceSub, Nat.reduceLT, Nat.reduceLeDiff, Nat.reduceMul, Nat.reduceEqDiff, reduceCtorEq, Int.reduceLE, Int.reduceLT, Int.reduceEq, Int.reduceNe, Int.reduceBEq, Int.reduceBNe, Int.reduceAdd, Int.reduceSub, resA, allSome, rvA, oneOf, gL0]); first | done | rfl | (rw [rv_one]; rfl) | rw [rv_eq, hK] | (simp only [rv, rvK, rvL]; rw [rv_eq, hK]))
          · simp
      · simp -implicitDefEqProofs only [mkE, List.foldl_cons, List.foldl_nil, go_sem, List.reduceReplicate, Nat.reduceAdd, Nat.reduceSub, Nat.reduceLT, Nat.reduceLeDiff, Nat.reduceMul, Nat.reduceEqDiff, reduceCtorEq, Int.reduceLE, Int.reduceLT, Int.reduceEq, Int.reduceNe, Int.reduceBEq, Int.reduceBNe, Int.reduceAdd, Int.reduceSub]
        refine CO.intro (over_ex hp a1 b1 _) ?_
        simp -implicitDefEqProofs only [go_sem, List.reduceReplicate, Nat.reduceAdd, Nat.reduceSub, Nat.reduceLT, Nat.reduceLeDiff, Nat.reduceMul, Nat.reduceEqDiff, reduceCtorEq, Int.reduceLE, Int.reduceLT, Int.reduceEq, Int.reduceNe, Int.reduceBEq, Int.reduceBNe, Int.reduceAdd, Int.reduceSub, ho]
        refine CO.intro (sees_ex hp a1 b1 124 _) ?_
        simp -implicitDefEqProofs only [go_sem, List.reduceReplicate, Nat.reduceAdd, Nat.reduceSub, Nat.reduceLT, Nat.reduceLeDiff, Nat.reduceMul, Nat.reduceEqDiff, reduceCtorEq, Int.reduceLE, Int.reduceLT, Int.reduceEq, Int.reduceNe, Int.reduceBEq, Int.reduceBNe, Int.reduceAdd, Int.reduceSub, h5]
        refine CO.intro (sees_ex hp a1 b1 41 _) ?_
        simp -implicitDefEqProofs only [go_sem, List.reduceReplicate, Nat.reduceAdd, Nat.reduceSub, Nat.reduceLT, Nat.reduceLeDiff, Nat.reduceMul, Nat.reduceEqDiff, reduceCtorEq, Int.reduceLE, Int.reduceLT, Int.reduceEq, Int.reduceNe, Int.reduceBEq, Int.reduceBNe, Int.reduceAdd, Int.reduceSub, h6]
        rcases K with _ | ⟨y, _ | ⟨z, K⟩⟩
        · simp -implicitDefEqProofs only [go_sem, List.reduceReplicate, Nat.reduceAdd, Nat.reduceSub, Nat.reduceLT, Nat.reduceLeDiff, Nat.reduceMul, Nat.reduceEqDiff, reduceCtorEq, Int.reduceLE, Int.reduceLT, Int.reduceEq, Int.reduceNe, Int.reduceBEq, Int.reduceBNe, Int.reduceAdd, Int.reduceSub, exK_nil, vK_nil, gA hp, sA hp, gL0, sL0, gL1, sL1]
          refine Fini.trim2 (ex := [_]) ?_ rfl ?_ (bel_rv _ _) (hb2 _ _)
          · ((try simp -implicitDefEqProofs only [go_sem, List.reduceReplicate, Nat.reduceAdd, Nat.reduceSub, Nat.reduceLT, Nat.reduceLeDiff, Nat.reduceMul, Nat.reduceEqDiff, reduceCtorEq, Int.reduceLE, Int.reduceLT, Int.reduceEq, Int.reduceNe, Int.reduceBEq, Int.reduceBNe, Int.reduceAdd, Int.reduceSub, resA, allSome, rvA, oneOf, gL0]); first | done | rfl | (rw [rv_one]; rfl) | rw [rv_eq, hK] | (simp only [rv, rvK, rvL]; rw [rv_eq, hK]))
          · simp
        · have g3 : (((1 : Nat) : Int) == 1) = true := rfl
          have g4 : ((0 : Int) < ((1 : Nat) : Int)) = True := by simp
          have hbx : ∀ n, Bel n y.rv := fun n => bel_rv n y
          rw [exK_cons, vK_cons, List.map_cons, List.map_nil, show (one 2 [y]) = y from rfl]
          rw [rv_eq y] at hbx ⊢
          rcases rvK_cases y.ks with hK | ⟨l, hK⟩
          all_goals rw [hK] at hbx ⊢
          all_goals simp -implicitDefEqProofs only [go_sem, List.reduceReplicate, Nat.reduceAdd, Nat.reduceSub, Nat.reduceLT, Nat.reduceLeDiff, Nat.reduceMul, Nat.reduceEqDiff, reduceCtorEq, Int.reduceLE, Int.reduceLT, Int.reduceEq, Int.reduceNe, Int.reduceBEq, Int.reduceBNe, Int.reduceAdd, Int.reduceSub, gA hp, sA hp, gL0, sL0, gL1, sL1, List.length_map, g3, g4, Int.toNat_zero]
          all_goals (
            refine Fini.trim2 (ex := [_, _]) ?_ rfl ?_ (hbx _) (hb2 _ _)
            · ((try simp -implicitDefEqProofs only [go_sem, List.reduceReplicate, Nat.reduceAdd, Nat.reduceSub, Nat.reduceLT, Nat.reduceLeDiff, Nat.reduceMul, Nat.reduceEqDiff, reduceCtorEq, Int.reduceLE, Int.reduceLT, Int.reduceEq, Int.reduceNe, Int.reduceBEq, Int.reduceBNe, Int.reduceAdd, Int.reduceSub, resA, allSome, rvA, oneOf, gL0]); first | done | rfl | (rw [rv_one]; rfl) | rw [rv_eq, hK] | (simp only [rv, rvK, rvL]; rw [rv_eq, hK]))
            · simp)
        · rw [exK_cons, vK_cons]
          have g2 : (((K.length + 1 + 1 : Nat) : Int) == 1) = false := by simp; omega
          simp -implicitDefEqProofs only [go_sem, List.reduceReplicate, Nat.reduceAdd, Nat.reduceSub, Nat.reduceLT, Nat.reduceLeDiff, Nat.reduceMul, Nat.reduceEqDiff, reduceCtorEq, Int.reduceLE, Int.reduceLT, Int.reduceEq, Int.reduceNe, Int.reduceBEq, Int.reduceBNe, Int.reduceAdd, Int.reduceSub, gA hp, sA hp, gL0, sL0, gL1, sL1, List.length_map, g2]
          refine Fini.trim2 (ex := [_, _]) ?_ rfl ?_ (bel_rv _ _) (hb2 _ _)
          · ((try simp -implicitDefEqProofs only [go_sem, List.reduceReplicate, Nat.reduceAdd, Nat.reduceSub, Nat.reduceLT, Nat.reduceLeDiff, Nat.reduceMul, Nat.reduceEqDiff, reduceCtorEq, Int.reduceLE, Int.reduceLT, Int.reduceEq, Int.reduceNe, Int.reduceBEq, Int.reduceBNe, Int.reduceAdd, Int.reduceSub, resA, allSome, rvA, oneOf, gL0]); first | done | rfl | (rw [rv_one]; rfl) | rw [rv_eq, hK] | (simp only [rv, rvK, rvL]; rw [rv_eq, hK]))
          · simp
  · simp [mkE, vK]
  · rfl
theorem ways_ans' (F : PF) (d : Nat) (hF : FAns 117 [I d] s F) (hfw : Fwd F) : FAns 95 [I d] s (pways s F) := by
  intro σ p a b hp hs
  refine Ans.of_run' t95 (fun hbel _ => ?_)
  have hb2 := bel_at hbel
  simp -implicitDefEqProofs only [c95, r95, go_sem, List.reduceReplicate, Nat.reduceAdd, Nat.reduceSub, Nat.reduceLT, Nat.reduceLeDiff, Nat.reduceMul, Nat.reduceEqDiff, reduceCtorEq, Int.reduceLE, Int.reduceLT, Int.reduceEq, Int.reduceNe, Int.reduceBEq, Int.reduceBNe, Int.reduceAdd, Int.reduceSub, List.append_assoc, List.length_append, List.length_set]
  unfold pways
  simp only
  refine CO.intro (hF.ex hp a b hs _) ?_
  have hs0 : (F a b).2.2 = true ∨ s.size ≤ 40 := hfw.hs hs
  generalize F a b = w0 at hs0 ⊢
  obtain ⟨x0, a0, b0⟩ := w0
  simp only at hs0 ⊢
  have hm : s.size - a0 < s.size + 1 := by omega
  generalize hres : pwaysL s F (s.size + 1) [x0] a0 b0 = res
  rw [rv_eq x0]
  rcases rvK_cases x0.ks with hK0 | ⟨l0, hK0⟩
  all_goals rw [hK0]
  all_goals simp -implicitDefEqProofs only [go_sem, List.reduceReplicate, Nat.reduceAdd, Nat.reduceSub, Nat.reduceLT, Nat.reduceLeDiff, Nat.reduceMul, Nat.reduceEqDiff, reduceCtorEq, Int.reduceLE, Int.reduceLT, Int.reduceEq, Int.reduceNe, Int.reduceBEq, Int.reduceBNe, Int.reduceAdd, Int.reduceSub, gA hp, sA hp, gL0, sL0, gL1, sL1, List.append_assoc, List.length_append, List.length_set]
  all_goals (
    refine L.intro (α := { x : Nat × List Rex × Nat × Bool // pwaysL s F x.1 x.2.1 x.2.2.1 x.2.2.2 = res ∧ s.size - x.2.2.1 < x.1 ∧ (x.2.2.2 = true ∨ s.size ≤ 40) ∧ x.2.1.length ≤ x.2.2.1 + 1 ∧ x.2.1 ≠ [] })
      (fun x => x.1.1)
      (fun x => mkE 26 [(0, .ptr p 0), (1, I d), (4, .ptr σ.length 0), (5, vK σ.length x.1.2.1)])
      (fun x => σ.set p (pob s x.1.2.2.1 x.1.2.2.2) ++ exK x.1.2.1)
      (fun x J hJ => ?_) ⟨(s.size + 1, [x0], a0, b0), hres, hm, hs0, by simp, by simp⟩ ?_ ?_)
  all_goals try (simp [mkE, vK]; done)
  all_goals try (simp only [exK_cons, List.map_cons, List.map_nil, rv_eq x0, hK0]; done)
  all_goals (
    obtain ⟨⟨n, K, a1, b1⟩, h1, h2, h3, h4, h5⟩ := x
    simp only at h1 h2 h3 h4 h5 hJ ⊢
    rcases n with _ | n
    · omega
    rw [pwaysL] at h1
    cases hgo : sees s a1 b1 124
    · rw [hgo, if_neg Bool.false_ne_true] at h1
      subst h1
      clear hJ h2
      have hn := next_ex (s := s) hp a1 b1 124 h3
      simp only [nextA, hgo, Bool.false_eq_true, if_false] at hn
      simp -implicitDefEqProofs only [mkE, List.foldl_cons, List.foldl_nil, go_sem, List.reduceReplicate, Nat.reduceAdd, Nat.reduceSub, Nat.reduceLT, Nat.reduceLeDiff, Nat.reduceMul, Nat.reduceEqDiff, reduceCtorEq, Int.reduceLE, Int.reduceLT, Int.reduceEq, Int.reduceNe, Int.reduceBEq, Int.reduceBNe, Int.reduceAdd, Int.reduceSub]
      refine CO.intro (hn _) ?_
      simp -implicitDefEqProofs only [go_sem, List.reduceReplicate, Nat.reduceAdd, Nat.reduceSub, Nat.reduceLT, Nat.reduceLeDiff, Nat.reduceMul, Nat.reduceEqDiff, reduceCtorEq, Int.reduceLE, Int.reduceLT, Int.reduceEq, Int.reduceNe, Int.reduceBEq, Int.reduceBNe, Int.reduceAdd, Int.reduceSub]
      rcases K with _ | ⟨y, _ | ⟨z, K⟩⟩
      · exact absurd rfl h5
      · have g3 : (((1 : Nat) : Int) == 1) = true := rfl
        have g4 : ((0 : Int) < ((1 : Nat) : Int)) = True := by simp
        have hbx : ∀ n, Bel n y.rv := fun n => bel_rv n y
        rw [exK_cons, vK_cons, List.map_cons, List.map_nil, show (one 3 [y]) = y from rfl]
        rw [rv_eq y] at hbx ⊢
        rcases rvK_cases y.ks with hK | ⟨l, hK⟩
        all_goals rw [hK] at hbx ⊢
        all_goals simp -implicitDefEqProofs only [go_sem, List.reduceReplicate, Nat.reduceAdd, Nat.reduceSub, Nat.reduceLT, Nat.reduceLeDiff, Nat.reduceMul, Nat.reduceEqDiff, reduceCtorEq, Int.reduceLE, Int.reduceLT, Int.reduceEq, Int.reduceNe, Int.reduceBEq, Int.reduceBNe, Int.reduceAdd, Int.reduceSub, gA hp, sA hp, gL0, sL0, gL1, sL1, List.length_map, g3, g4, Int.toNat_zero]
        all_goals (
          refine Fini.trim2 (ex := [_, _]) ?_ rfl ?_ (hbx _) (hb2 _ _)
          · ((try simp -implicitDefEqProofs only [go_sem, List.reduceReplicate, Nat.reduceAdd, Nat.reduceSub, Nat.reduceLT, Nat.reduceLeDiff, Nat.reduceMul, Nat.reduceEqDiff, reduceCtorEq, Int.reduceLE, Int.reduceLT, Int.reduceEq, Int.reduceNe, Int.reduceBEq, Int.reduceBNe, Int.reduceAdd, Int.reduceSub, resA, allSome, rvA, oneOf, gL0]); first | done | rfl | (rw [rv_one]; rfl) | rw [rv_eq, hK] | (simp only [rv, rvK, rvL]; rw [rv_eq, hK]))
          · simp)
      · rw [exK_cons, vK_cons]
        have g2 : (((K.length + 1 + 1 : Nat) : Int) == 1) = false := by simp; omega
        simp -implicitDefEqProofs only [go_sem, List.reduceReplicate, Nat.reduceAdd, Nat.reduceSub, Nat.reduceLT, Nat.reduceLeDiff, Nat.reduceMul, Nat.reduceEqDiff, reduceCtorEq, Int.reduceLE, Int.reduceLT, Int.reduceEq, Int.reduceNe, Int.reduceBEq, Int.reduceBNe, Int.reduceAdd, Int.reduceSub, gA hp, sA hp, gL0, sL0, gL1, sL1, List.length_map, g2]
        refine Fini.trim2 (ex := [_, _]) ?_ rfl ?_ (bel_rv _ _) (hb2 _ _)
        · ((try simp -implicitDefEqProofs only [go_sem, List.reduceReplicate, Nat.reduceAdd, Nat.reduceSub, Nat.reduceLT, Nat.reduceLeDiff, Nat.reduceMul, Nat.reduceEqDiff, reduceCtorEq, Int.reduceLE, Int.reduceLT, Int.reduceEq, Int.reduceNe, Int.reduceBEq, Int.reduceBNe, Int.reduceAdd, Int.reduceSub, resA, allSome, rvA, oneOf, gL0]); first | done | rfl | (rw [rv_one]; rfl) | rw [rv_eq, hK] | (simp only [rv, rvK, rvL]; rw [rv_eq, hK]))
        · simp
    · rw [hgo, if_pos rfl] at h1
      obtain ⟨ha, hb⟩ := sees_lt hgo
      subst hb
      have hsz : s.size ≤ 40 := by
        rcases h3 with h | h
        · exact absurd h Bool.false_ne_true
        · exact h
      have hea := (hfw (a1 + 1) false).1
      have hJ' := hJ ⟨(n, K ++ [(F (a1 + 1) false).1], (F (a1 + 1) false).2.1, (F (a1 + 1) false).2.2), h1, by simp only; omega, .inr hsz, by simp; omega, by simp⟩ (Nat.lt_succ_self n)
      simp only [exK_snoc, vK_snoc] at hJ'
      clear hJ h1
      have hn := next_ex (s := s) hp a1 false 124 h3
      simp only [nextA, hgo, if_true] at hn
      simp -implicitDefEqProofs only [mkE, List.foldl_cons, List.foldl_nil, go_sem, List.reduceReplicate, Nat.reduceAdd, Nat.reduceSub, Nat.reduceLT, Nat.reduceLeDiff, Nat.reduceMul, Nat.reduceEqDiff, reduceCtorEq, Int.reduceLE, Int.reduceLT, Int.reduceEq, Int.reduceNe, Int.reduceBEq, Int.reduceBNe, Int.reduceAdd, Int.reduceSub]
      refine CO.intro (hn _) ?_
      simp -implicitDefEqProofs only [go_sem, List.reduceReplicate, Nat.reduceAdd, Nat.reduceSub, Nat.reduceLT, Nat.reduceLeDiff, Nat.reduceMul, Nat.reduceEqDiff, reduceCtorEq, Int.reduceLE, Int.reduceLT, Int.reduceEq, Int.reduceNe, Int.reduceBEq, Int.reduceBNe, Int.reduceAdd, Int.reduceSub]
      refine CO.intro (hF.ex hp (a1 + 1) false (.inr hsz) _) ?_
      generalize F (a1 + 1) false = w at hJ' hea ⊢
      obtain ⟨x, a2, b2⟩ := w
      simp only at hJ' hea ⊢
      rw [rv_eq x] at hJ' ⊢
      rcases K with _ | ⟨y, K⟩
      · exact absurd rfl h5
      have g1 : (K.length + 1 + 1 ≤ 2 ^ 32) = True := by simp at h4; simp; omega
      rcases rvK_cases x.ks with hK | ⟨l, hK⟩
      all_goals rw [hK] at hJ' ⊢
      all_goals (
        simp -implicitDefEqProofs only [go_sem, List.reduceReplicate, Nat.reduceAdd, Nat.reduceSub, Nat.reduceLT, Nat.reduceLeDiff, Nat.reduceMul, Nat.reduceEqDiff, reduceCtorEq, Int.reduceLE, Int.reduceLT, Int.reduceEq, Int.reduceNe, Int.reduceBEq, Int.reduceBNe, Int.reduceAdd, Int.reduceSub, exK_cons, vK_cons, gA hp, sA hp, gL0, sL0, gL1, sL1, List.length_map, g1] at hJ' ⊢
        simpa [mkE] using hJ'))
theorem PW_ans : ∀ k, k ≤ 8 → FAns 95 [I ((8 - k : Nat) : Int)] s (PW s k)
  | 0, _ => ways_ans' s _ 8 (way_ans s _ 8 (factor_ans s _ 8 (atom_ans s _ 8 (Nat.le_refl _) (fun h => absurd h (Nat.lt_irrefl _)) (fun a b => ⟨Nat.le_refl _, id⟩)) (fwd_atom s (fun a b => ⟨Nat.le_refl _, id⟩) 8))
      (fwd_factor s (fwd_atom s (fun a b => ⟨Nat.le_refl _, id⟩) 8)) (eats_factor s (eats_atom s (fun a b => ⟨Nat.le_refl _, id⟩) 8)))
      (fwd_way s (fwd_factor s (fwd_atom s (fun a b => ⟨Nat.le_refl _, id⟩) 8)))
  | k + 1, h => by
    have ih := PW_ans k (by omega)
    have hf := fwd_PW s k
    have e : 8 - (k + 1) = 7 - k := by omega
    have e2 : 8 - k = 7 - k + 1 := by omega
    rw [e2] at ih
    rw [e]
    exact ways_ans' s _ (7 - k) (way_ans s _ (7 - k) (factor_ans s _ (7 - k) (atom_ans s _ (7 - k) (by omega) (fun _ => ih) hf) (fwd_atom s hf _))
      (fwd_factor s (fwd_atom s hf _)) (eats_factor s (eats_atom s hf _)))
      (fwd_way s (fwd_factor s (fwd_atom s hf _)))
def pparse : Rex × Bool :=
  let w := PW s 8 0 (decide (40 < s.size))
  if w.2.2 || decide (w.2.1 < s.size) then (.mk 0 0 0 0 0 [], false) else (w.1, true)
theorem parse_ans (σ : St) : Ans Try.prog 53 [Sx s] σ (.tup [(pparse s).1.rv, Bo (pparse s).2]) σ := by
  have hw : ∀ b : Bool, (b = true ∨ s.size ≤ 40) → Ans Try.prog 95 [.ptr (σ.length + 1) 0, I 0] (σ ++ [box0, pob s 0 b]) (PW s 8 0 b).1.rv (σ ++ [box0, pob s (PW s 8 0 b).2.1 (PW s 8 0 b).2.2]) := by
    intro b hs
    have := PW_ans s 8 (Nat.le_refl _) (σ ++ [box0, pob s 0 b]) (σ.length + 1) 0 b (by simp) hs
    have e : ∀ o, (σ ++ [box0, pob s 0 b]).set (σ.length + 1) o = σ ++ [box0, o] := fun o => by rw [List.set_append_right _ _ (by omega)]; simp
    rwa [e, e] at this
  have hs : (decide (40 < s.size)) = true ∨ s.size ≤ 40 := by
    rcases Nat.lt_or_ge 40 s.size with h | h
    · exact .inl (by simpa using h)
    · exact .inr h
  have e40 : decide ((40 : Int) < (s.size : Int)) = decide (40 < s.size) := by rw [Bool.eq_iff_iff]; simp; omega
  have k0 : ∀ (x y : Ob) (ex : St), (σ ++ x :: y :: ex)[σ.length]? = some x := fun x y ex => by rw [List.getElem?_append_right (by simp)]; simp
  have k1 : ∀ (x y : Ob) (ex : St), (σ ++ x :: y :: ex)[σ.length + 1]? = some y := fun x y ex => by rw [List.getElem?_append_right (by simp)]; simp
  have k2 : ∀ (x y z : Ob), (σ ++ [x, y, z])[σ.length + 2]? = some z := fun x y z => by rw [List.getElem?_append_right (by simp)]; simp
  have s0 : ∀ (x z : Ob) (ex : St), (σ ++ x :: ex).set σ.length z = σ ++ z :: ex := fun x z ex => by rw [List.set_append_right _ _ (by simp)]; simp
  refine Ans.of_run' t53 (fun hbel _ => ?_)
  simp -implicitDefEqProofs only [c53, r53, go_sem, List.reduceReplicate, Nat.reduceAdd, Nat.reduceSub, Nat.reduceLT, Nat.reduceLeDiff, Nat.reduceMul, Nat.reduceEqDiff, reduceCtorEq, Int.reduceLE, Int.reduceLT, Int.reduceEq, Int.reduceNe, Int.reduceBEq, Int.reduceBNe, Int.reduceAdd, Int.reduceSub, List.append_assoc, List.length_append, e40]
  refine CO.intro (hw _ hs) ?_
  unfold pparse
  generalize PW s 8 0 (decide (40 < s.size)) = w
  obtain ⟨x, a, b⟩ := w
  simp only
  have eL : decide ((a : Int) < (s.size : Int)) = decide (a < s.size) := by rw [Bool.eq_iff_iff]; simp
  have hbx : ∀ n, Bel n x.rv := fun n => bel_rv n x
  rw [rv_eq x]
  have hrx := rv_eq x
  rcases rvK_cases x.ks with hK | ⟨l, hK⟩
  all_goals (
    rw [hK] at hrx ⊢
    cases b
    · cases hlt : decide (a < s.size)
      · simp -implicitDefEqProofs only [go_sem, List.reduceReplicate, Nat.reduceAdd, Nat.reduceSub, Nat.reduceLT, Nat.reduceLeDiff, Nat.reduceMul, Nat.reduceEqDiff, reduceCtorEq, Int.reduceLE, Int.reduceLT, Int.reduceEq, Int.reduceNe, Int.reduceBEq, Int.reduceBNe, Int.reduceAdd, Int.reduceSub, k0, k1, k2, s0, List.append_assoc, List.length_append, eL, hlt, Bool.or_self, hrx]
        rw [hrx] at hbx
        refine Fini.trim2 (σ' := σ) (ex := [_, _]) ?_ rfl (Nat.le_refl _) ?_ hbel
        · simp -implicitDefEqProofs only [go_sem, List.reduceReplicate, Nat.reduceAdd, Nat.reduceSub, Nat.reduceLT, Nat.reduceLeDiff, Nat.reduceMul, Nat.reduceEqDiff, reduceCtorEq, Int.reduceLE, Int.reduceLT, Int.reduceEq, Int.reduceNe, Int.reduceBEq, Int.reduceBNe, Int.reduceAdd, Int.reduceSub, resA, allSome, rvA, oneOf, k0]
        · exact bel_tup2 (hbx _) _
      · simp -implicitDefEqProofs only [go_sem, List.reduceReplicate, Nat.reduceAdd, Nat.reduceSub, Nat.reduceLT, Nat.reduceLeDiff, Nat.reduceMul, Nat.reduceEqDiff, reduceCtorEq, Int.reduceLE, Int.reduceLT, Int.reduceEq, Int.reduceNe, Int.reduceBEq, Int.reduceBNe, Int.reduceAdd, Int.reduceSub, k0, k1, k2, s0, List.append_assoc, List.length_append, eL, hlt, Bool.or_true]
        refine Fini.trim2 (σ' := σ) (ex := [_, _]) ?_ rfl (Nat.le_refl _) ?_ hbel
        · simp -implicitDefEqProofs only [go_sem, List.reduceReplicate, Nat.reduceAdd, Nat.reduceSub, Nat.reduceLT, Nat.reduceLeDiff, Nat.reduceMul, Nat.reduceEqDiff, reduceCtorEq, Int.reduceLE, Int.reduceLT, Int.reduceEq, Int.reduceNe, Int.reduceBEq, Int.reduceBNe, Int.reduceAdd, Int.reduceSub, resA, allSome, rvA, oneOf, k0]; rfl
        · exact bel_tup2 (bel_rv _ (.mk 0 0 0 0 0 [])) _
    · simp -implicitDefEqProofs only [go_sem, List.reduceReplicate, Nat.reduceAdd, Nat.reduceSub, Nat.reduceLT, Nat.reduceLeDiff, Nat.reduceMul, Nat.reduceEqDiff, reduceCtorEq, Int.reduceLE, Int.reduceLT, Int.reduceEq, Int.reduceNe, Int.reduceBEq, Int.reduceBNe, Int.reduceAdd, Int.reduceSub, k0, k1, k2, s0, List.append_assoc, List.length_append, Bool.true_or]
      refine Fini.trim2 (σ' := σ) (ex := [_, _]) ?_ rfl (Nat.le_refl _) ?_ hbel
      · simp -implicitDefEqProofs only [go_sem, List.reduceReplicate, Nat.reduceAdd, Nat.reduceSub, Nat.reduceLT, Nat.reduceLeDiff, Nat.reduceMul, Nat.reduceEqDiff, reduceCtorEq, Int.reduceLE, Int.reduceLT, Int.reduceEq, Int.reduceNe, Int.reduceBEq, Int.reduceBNe, Int.reduceAdd, Int.reduceSub, resA, allSome, rvA, oneOf, k0]; rfl
      · exact bel_tup2 (bel_rv _ (.mk 0 0 0 0 0 [])) _)
end
end Go.Proofs.Ytoadgajhkhejiaa
namespace Go.Proofs.Ytoadgajhkhejiaa
open Go Go.Ab
set_option maxRecDepth 100000
open Rex
theorem sub_ks {M : Nat → Prop} {R : Ref → Value → Prop} {w : World} : ∀ (n : Nat) (x : Rex), SizeOf.sizeOf x ≤ n → ∀ v, Rep M R w (rvK x.ks) v → Rep M R w (.sl 6 (x.ks.map av)) v := by
  intro n
  induction n with
  | zero => intro x h; cases x; simp at h
  | succ n ih =>
    intro x hx v h
    have hlt : ∀ y ∈ x.ks, SizeOf.sizeOf y < SizeOf.sizeOf x := fun y hy => lt_of_mem hy
    generalize x.ks = L at h hlt
    rcases L with _ | ⟨y, L⟩
    · cases h; exact .sl0 6 _ _
    · rw [rvK_cons] at h
      generalize hM : y :: L = M' at h hlt
      have hget : ∀ i (hi : i < (M'.map rv).length), (M'.map rv)[i].cells = [I (M'[i]'(by simpa using hi)).op, U (M'[i]'(by simpa using hi)).a, U (M'[i]'(by simpa using hi)).b, U (M'[i]'(by simpa using hi)).c, U (M'[i]'(by simpa using hi)).d, rvK (M'[i]'(by simpa using hi)).ks] := fun i hi => by
        rw [List.getElem_map, rv_cells]
      have hget2 : ∀ i (hi : i < (M'.map av).length), (M'.map av)[i].cells = [I (M'[i]'(by simpa using hi)).op, U (M'[i]'(by simpa using hi)).a, U (M'[i]'(by simpa using hi)).b, U (M'[i]'(by simpa using hi)).c, U (M'[i]'(by simpa using hi)).d, .sl 6 ((M'[i]'(by simpa using hi)).ks.map av)] := fun i hi => by
        rw [List.getElem_map, av_eq]; rfl
      generalize hN : M'.map rv = N at h
      cases h with
      | sl0 => 
        have : M' = [] := by simpa using hN
        rw [this] at hM; cases hM
      | sl _ _ b o cap f hcap hc hr =>
        subst hN
        have e : (M'.map rv).length = (M'.map av).length := by simp
        rw [e]
        refine Rep.sl 6 (M'.map av) b o cap f (by rw [← e]; exact hcap) ?_ ?_
        · intro i j hi hj
          have hi' : i < (M'.map rv).length := by rw [e]; exact hi
          refine hc i j hi' ?_
          rw [hget2 i hi] at hj
          rw [hget i hi']
          exact hj
        · intro i j hi hj
          have hi' : i < (M'.map rv).length := by rw [e]; exact hi
          have hj6 : j < 6 := by rw [hget2 i hi] at hj; exact hj
          have hj' : j < ((M'.map rv)[i].cells).length := by rw [hget i hi']; exact hj6
          have h2 := hr i j hi' hj'
          simp only [hget i hi'] at h2
          simp only [hget2 i hi]
          have hmem : M'[i]'(by simpa using hi) ∈ M' := List.getElem_mem _
          have ih2 := ih (M'[i]'(by simpa using hi)) (by have := hlt _ hmem; omega)
          have h6 : j = 0 ∨ j = 1 ∨ j = 2 ∨ j = 3 ∨ j = 4 ∨ j = 5 := by omega
          rcases h6 with rfl | rfl | rfl | rfl | rfl | rfl
          · exact h2
          · exact h2
          · exact h2
          · exact h2
          · exact h2
          · exact ih2 _ h2
theorem sub_rv {M : Nat → Prop} {R : Ref → Value → Prop} {w : World} (x : Rex) (v : Value) (h : Rep M R w x.rv v) : Rep M R w x.av v := by
  have hk := sub_ks (M := M) (R := R) (w := w) (SizeOf.sizeOf x) x (Nat.le_refl _)
  rw [rv_eq] at h
  rw [av_eq]
  cases h with
  | agg _ vs hl hr =>
    refine .agg _ vs hl fun j hj hj' => ?_
    have h2 := hr j hj hj'
    have hj6 : j < 6 := hj
    have h6 : j = 0 ∨ j = 1 ∨ j = 2 ∨ j = 3 ∨ j = 4 ∨ j = 5 := by omega
    rcases h6 with rfl | rfl | rfl | rfl | rfl | rfl
    · exact h2
    · exact h2
    · exact h2
    · exact h2
    · exact h2
    · exact hk _ h2
theorem Ans.sub {P : Program} {f : FuncId} {x : Rex} {σ σ' : St} {r : AV} (h : Ans P f [x.av] σ r σ') : Ans P f [x.rv] σ r σ' := by
  intro M ν w vs hg hr
  refine h M ν w vs hg ⟨hr.1, fun j hj hj' => ?_⟩
  have h2 := hr.2 j hj hj'
  have : j = 0 := by simp at hj; exact hj
  subst this
  exact sub_rv x _ h2
theorem nodesL_snoc (K : List Rex) (x : Rex) : nodesL (K ++ [x]) = nodesL K + x.nodes := by
  induction K with
  | nil => simp [nodesL]
  | cons y K ih => simp only [List.cons_append, nodesL, ih]; omega
theorem nodes_one (op : Int) (K : List Rex) : (one op K).nodes ≤ 1 + nodesL K := by
  rcases K with _ | ⟨y, _ | ⟨z, K⟩⟩
  · simp [one, nodes_eq, Rex.ks, nodesL]
  · simp [one, nodesL]
  · rw [one, nodes_eq]; exact Nat.le_refl _
    intro x h; cases h
theorem nodes_ofSet (S : List Int) : (ofSet S).nodes = 1 := rfl
section
variable (s : ByteArray)
theorem nextA_le {a : Nat} (b : Bool) (c : Nat) (h : a ≤ s.size) : nextA s a b c ≤ s.size := by
  unfold nextA; split
  · rename_i hs; have := (sees_lt hs).1; omega
  · exact h
theorem pbyte_le {a : Nat} (b : Bool) (h : a ≤ s.size) : (pbyte s a b).2.1 ≤ s.size := by
  unfold pbyte; split
  · exact h
  · rename_i ho; have := over_lt (by simpa using ho : over s a b = false); show a + 1 ≤ s.size; omega
theorem psign_le {a : Nat} (b : Bool) (h : a ≤ s.size) : (psign s a b).2.1 ≤ s.size := pbyte_le s b h
theorem pmember_le {a : Nat} (b : Bool) (h : a ≤ s.size) : (pmember s a b).2.1 ≤ s.size := by
  unfold pmember; split
  · exact psign_le s _ (pbyte_le s b h)
  · exact pbyte_le s b h
theorem cTo_le {a : Nat} (b : Bool) (h : a ≤ s.size) : (cTo s a b).2.1 ≤ s.size := by
  unfold cTo; split
  · rename_i hs
    have := (sees_lt hs).1
    exact pmember_le s _ (by omega)
  · exact pmember_le s b h
theorem classL_le : ∀ (n : Nat) (S : List Int) (a : Nat) (b first : Bool), a ≤ s.size → (classL s n S a b first).2.1 ≤ s.size
  | 0, S, a, b, first, h => h
  | n + 1, S, a, b, first, h => by
    rw [classL]; split
    · exact classL_le n _ _ _ _ (cTo_le s b h)
    · exact h
theorem pclass_le {a : Nat} (b : Bool) (h : a ≤ s.size) : (pclass s a b).2.1 ≤ s.size :=
  nextA_le s _ 93 (classL_le s _ _ _ _ _ (nextA_le s b 94 h))
def Bd (c : Nat) (g : Bool) (P : PF) : Prop := ∀ a b, a ≤ s.size → (g = true → over s a b = false) →
  a ≤ (P a b).2.1 ∧ (P a b).2.1 ≤ s.size ∧ (P a b).1.nodes + 3 * a ≤ c + 3 * (P a b).2.1
theorem bd_atom {P : PF} {d : Nat} (h : Bd s 2 false P) : Bd s 0 true (patom s P d) := by
  intro a b ha hg
  have ho := hg rfl
  have hlt := over_lt ho
  have h1 : pbyte s a b = (byteAt s a, a + 1, b) := by simp [pbyte, ho]
  have h2 := h (a + 1) b (by omega) (fun e => absurd e Bool.false_ne_true)
  unfold patom
  rw [h1]
  simp only
  split
  · split
    · have n1 := nextA_le s (a := a + 1) (b || d == 8) 41 (by omega)
      have n2 := nextA_ge s (a + 1) (b || d == 8) 41
      refine ⟨by simp only; omega, n1, ?_⟩
      simp only [nodes_ofSet]; omega
    · have n1 := nextA_le s (P (a + 1) b).2.2 41 h2.2.1
      have n2 := nextA_ge s (P (a + 1) b).2.1 (P (a + 1) b).2.2 41
      refine ⟨by simp only; omega, n1, ?_⟩
      simp only; omega
  · split
    · have n1 := pclass_le s (a := a + 1) b (by omega)
      have n2 := (pclass_ge s (a + 1) b).1
      refine ⟨by simp only; omega, n1, ?_⟩
      simp only [nodes_ofSet]; omega
    · split
      · exact ⟨Nat.le_succ _, by simp only; omega, by simp only [nodes_ofSet]; omega⟩
      · split
        · have n1 := psign_le s (a := a + 1) b (by omega)
          have n2 := psign_ge s (a + 1) b
          refine ⟨by simp only; omega, n1, ?_⟩
          simp only [nodes_ofSet]; omega
        · exact ⟨Nat.le_succ _, by simp only; omega, by simp only [nodes_ofSet]; omega⟩
theorem nodes_kid (op : Int) (x : Rex) : (Rex.mk op 0 0 0 0 [x]).nodes = 1 + x.nodes := by
  rw [nodes_eq]; simp [Rex.ks, nodesL]
theorem bd_factor {P : PF} (h : Bd s 0 true P) : Bd s 0 true (pfactor s P) := by
  intro a b ha hg
  obtain ⟨h1, h2, h3⟩ := h a b ha hg
  unfold pfactor
  simp only
  split
  · rename_i hs; have := (sees_lt hs).1
    refine ⟨by simp only; omega, by simp only; omega, ?_⟩
    simp only [nodes_kid]; omega
  · split
    · rename_i hs; have := (sees_lt hs).1
      refine ⟨by simp only; omega, by simp only; omega, ?_⟩
      simp only [nodes_kid]; omega
    · split
      · rename_i hs; have := (sees_lt hs).1
        refine ⟨by simp only; omega, by simp only; omega, ?_⟩
        simp only [nodes_kid]; omega
      · exact ⟨h1, h2, h3⟩
theorem bd_wayL {P : PF} (h : Bd s 0 true P) : ∀ (n : Nat) (K : List Rex) (a : Nat) (b : Bool), a ≤ s.size →
    a ≤ (pwayL s P n K a b).2.1 ∧ (pwayL s P n K a b).2.1 ≤ s.size ∧ nodesL (pwayL s P n K a b).1 + 3 * a ≤ nodesL K + 3 * (pwayL s P n K a b).2.1
  | 0, K, a, b, ha => ⟨Nat.le_refl _, ha, Nat.le_refl _⟩
  | n + 1, K, a, b, ha => by
    rw [pwayL]; split
    · rename_i hg
      have ho : over s a b = false := by
        cases h : over s a b
        · rfl
        · simp [wGo, h] at hg
      obtain ⟨h1, h2, h3⟩ := h a b ha (fun _ => ho)
      obtain ⟨i1, i2, i3⟩ := bd_wayL h n (K ++ [(P a b).1]) (P a b).2.1 (P a b).2.2 h2
      rw [nodesL_snoc] at i3
      exact ⟨by omega, i2, by omega⟩
    · exact ⟨Nat.le_refl _, ha, Nat.le_refl _⟩
theorem bd_way {P : PF} (h : Bd s 0 true P) : Bd s 1 false (pway s P) := by
  intro a b ha _
  obtain ⟨i1, i2, i3⟩ := bd_wayL s h (s.size + 1) [] a b ha
  have i4 := nodes_one 2 (pwayL s P (s.size + 1) [] a b).1
  simp only [nodesL] at i3
  unfold pway
  exact ⟨i1, i2, by simp only; omega⟩
theorem bd_waysL {P : PF} (h : Bd s 1 false P) : ∀ (n : Nat) (K : List Rex) (a : Nat) (b : Bool), a ≤ s.size →
    a ≤ (pwaysL s P n K a b).2.1 ∧ (pwaysL s P n K a b).2.1 ≤ s.size ∧ nodesL (pwaysL s P n K a b).1 + 3 * a ≤ nodesL K + 3 * (pwaysL s P n K a b).2.1
  | 0, K, a, b, ha => ⟨Nat.le_refl _, ha, Nat.le_refl _⟩
  | n + 1, K, a, b, ha => by
    rw [pwaysL]; split
    · rename_i hs; have := (sees_lt hs).1
      obtain ⟨h1, h2, h3⟩ := h (a + 1) b (by omega) (fun e => absurd e Bool.false_ne_true)
      obtain ⟨i1, i2, i3⟩ := bd_waysL h n (K ++ [(P (a + 1) b).1]) (P (a + 1) b).2.1 (P (a + 1) b).2.2 h2
      rw [nodesL_snoc] at i3
      exact ⟨by omega, i2, by omega⟩
    · exact ⟨Nat.le_refl _, ha, Nat.le_refl _⟩
theorem bd_ways {P : PF} (h : Bd s 1 false P) : Bd s 2 false (pways s P) := by
  intro a b ha _
  obtain ⟨h1, h2, h3⟩ := h a b ha (fun e => absurd e Bool.false_ne_true)
  obtain ⟨i1, i2, i3⟩ := bd_waysL s h (s.size + 1) [(P a b).1] (P a b).2.1 (P a b).2.2 h2
  have i4 := nodes_one 3 (pwaysL s P (s.size + 1) [(P a b).1] (P a b).2.1 (P a b).2.2).1
  simp only [nodesL] at i3
  unfold pways
  exact ⟨by simp only; omega, i2, by simp only; omega⟩
theorem bd_lvl {P : PF} (h : Bd s 2 false P) (d : Nat) : Bd s 2 false (lvl s P d) := bd_ways s (bd_way s (bd_factor s (bd_atom s h)))
theorem bd_PW : ∀ k, Bd s 2 false (PW s k)
  | 0 => bd_lvl s (fun a b ha _ => ⟨Nat.le_refl _, ha, by simp only [nodes_ofSet]; omega⟩) 8
  | k + 1 => bd_lvl s (bd_PW k) _
theorem pparse_nodes : (pparse s).1.nodes ≤ 122 := by
  unfold pparse
  simp only
  split
  · show (1 : Nat) ≤ 122; decide
  · rename_i hb
    have h := bd_PW s 8 0 (decide (40 < s.size)) (Nat.zero_le _) (fun e => absurd e Bool.false_ne_true)
    have hs : s.size ≤ 40 := by
      rcases Nat.lt_or_ge 40 s.size with h40 | h40
      · have := (fwd_PW s 8 0 true).2 rfl
        simp [h40, this] at hb
      · exact h40
    simp only
    omega
end
end Go.Proofs.Ytoadgajhkhejiaa
