/- The parser of patterns: an atom, and how often. No condition. -/
import Derived.Test.YtoadgajhkhejiaaPPar5
import Derived.Test.YtoadgajhkhejiaaPTree2
import GoSem.Extern.BytealgCompare
set_option linter.unusedSimpArgs false
set_option linter.unusedVariables false
namespace Go.Proofs.Ytoadgajhkhejiaa
open Go Go.Ab
set_option maxRecDepth 100000
open Rex
def FAns (f : FuncId) (args : List AV) (s : ByteArray) (F : PF) : Prop :=
  ∀ (σ : St) (p a : Nat) (b : Bool), p < σ.length → (b = true ∨ s.size ≤ 40) →
    Ans Try.prog f (.ptr p 0 :: args) (σ.set p (pob s a b)) (F a b).1.rv (σ.set p (pob s (F a b).2.1 (F a b).2.2))
section
variable {σ : St} {p : Nat} {s : ByteArray}
theorem FAns.ex {f : FuncId} {args : List AV} {F : PF} (h : FAns f args s F) (hp : p < σ.length) (a : Nat) (b : Bool) (hs : b = true ∨ s.size ≤ 40) (ex : St) :
    Ans Try.prog f (.ptr p 0 :: args) (σ.set p (pob s a b) ++ ex) (F a b).1.rv (σ.set p (pob s (F a b).2.1 (F a b).2.2) ++ ex) := by
  have := h (σ.set p (pob s a b) ++ ex) p a b (by simp; omega) hs
  rwa [sA hp, sA hp] at this
theorem next_ex (hp : p < σ.length) (a : Nat) (b : Bool) (c : Nat) (hs : b = true ∨ s.size ≤ 40) (ex : St) :
    Ans Try.prog 118 [.ptr p 0, B8 c] (σ.set p (pob s a b) ++ ex) (Bo (sees s a b c)) (σ.set p (pob s (nextA s a b c) b) ++ ex) := by
  have := next_ans (σ.set p (pob s a b) ++ ex) p s a b c hs (gA hp _ _)
  rwa [sA hp] at this
theorem byte_ex (hp : p < σ.length) (a : Nat) (b : Bool) (hs : b = true ∨ s.size ≤ 40) (ex : St) :
    Ans Try.prog 145 [.ptr p 0] (σ.set p (pob s a b) ++ ex) (B8 (pbyte s a b).1) (σ.set p (pob s (pbyte s a b).2.1 (pbyte s a b).2.2) ++ ex) := by
  have := byte_ans (σ.set p (pob s a b) ++ ex) p s a b hs (gA hp _ _)
  rwa [sA hp] at this
theorem sign_ex (hp : p < σ.length) (a : Nat) (b : Bool) (hs : b = true ∨ s.size ≤ 40) (ex : St) :
    Ans Try.prog 149 [.ptr p 0] (σ.set p (pob s a b) ++ ex) (B8 (psign s a b).1) (σ.set p (pob s (psign s a b).2.1 (psign s a b).2.2) ++ ex) := by
  have := sign_ans (σ.set p (pob s a b) ++ ex) p s a b hs (gA hp _ _)
  rwa [sA hp] at this
theorem over_ex (hp : p < σ.length) (a : Nat) (b : Bool) (ex : St) : Ans Try.prog 132 [.ptr p 0] (σ.set p (pob s a b) ++ ex) (Bo (over s a b)) (σ.set p (pob s a b) ++ ex) :=
  over_ans _ p s a b (gA hp _ _)
theorem sees_ex (hp : p < σ.length) (a : Nat) (b : Bool) (c : Nat) (ex : St) : Ans Try.prog 133 [.ptr p 0, B8 c] (σ.set p (pob s a b) ++ ex) (Bo (sees s a b c)) (σ.set p (pob s a b) ++ ex) :=
  sees_ans _ p s a b c (gA hp _ _)
theorem class_ex (hp : p < σ.length) (a : Nat) (b : Bool) (hs : b = true ∨ s.size ≤ 40) (ex : St) :
    Ans Try.prog 146 [.ptr p 0] (σ.set p (pob s a b) ++ ex) (.agg ((pclass s a b).1.map U)) (σ.set p (pob s (pclass s a b).2.1 (pclass s a b).2.2) ++ ex) := by
  have := class_ans (σ.set p (pob s a b) ++ ex) p s a b (by simp; omega) hs
  rwa [sA hp, sA hp] at this
end
theorem pclass_len (s : ByteArray) (a : Nat) (b : Bool) : (pclass s a b).1.length = 4 := by
  have h := classL_len s (s.size + 3) [0, 0, 0, 0] (nextA s a b 94) b true
  unfold pclass
  simp only
  split
  · simp only [turnS, List.length_map]; exact h
  · exact h
theorem pbyte_hs {s : ByteArray} {a : Nat} {b : Bool} (h : b = true ∨ s.size ≤ 40) : (pbyte s a b).2.2 = true ∨ s.size ≤ 40 := by
  rcases h with rfl | h
  · exact .inl (by rw [pbyte_bad])
  · exact .inr h
theorem add_get {c : Nat} (hc : c < 256) : ([I 1, U 0, U 0, U 0, U 0, .nils] : List AV)[1 + c / 64]? = some (U 0) := by
  have h : c / 64 < 4 := by omega
  generalize c / 64 = k at h
  match k, h with
  | 0, _ => rfl
  | 1, _ => rfl
  | 2, _ => rfl
  | 3, _ => rfl
theorem add_cells {c : Nat} (hc : c < 256) : ([I 1, U 0, U 0, U 0, U 0, .nils] : List AV).set (1 + c / 64) (U (orU 0 (bitU (c % 64)))) =
    [I 1, U ((setAdd z4 c).getD 0 0), U ((setAdd z4 c).getD 1 0), U ((setAdd z4 c).getD 2 0), U ((setAdd z4 c).getD 3 0), .nils] := by
  have h : c / 64 < 4 := by omega
  unfold setAdd
  generalize bitU (c % 64) = w
  generalize c / 64 = k at h
  match k, h with
  | 0, _ => rfl
  | 1, _ => rfl
  | 2, _ => rfl
  | 3, _ => rfl
theorem rv_cells (x : Rex) : AV.cells x.rv = [I x.op, U x.a, U x.b, U x.c, U x.d, rvK x.ks] := by rw [rv_eq]; rfl
section
variable (s : ByteArray)
theorem atom_ans (F : PF) (d : Nat) (hd : d ≤ 8) (hF : d < 8 → FAns 95 [I ((d + 1 : Nat) : Int)] s F) (hfw : Fwd F) : FAns 142 [I d] s (patom s F d) := by
  intro σ p a b hp hs
  have hlen : ∀ o, (σ.set p o).length = σ.length := fun o => by simp
  refine Ans.of_run' t142 (fun hbel _ => ?_)
  have hb2 := bel_at hbel
  simp -implicitDefEqProofs only [c142, r142, go_sem, List.reduceReplicate, Nat.reduceAdd, Nat.reduceSub, Nat.reduceLT, Nat.reduceLeDiff, Nat.reduceMul, Nat.reduceEqDiff, reduceCtorEq, Int.reduceLE, Int.reduceLT, Int.reduceEq, Int.reduceNe, Int.reduceBEq, Int.reduceBNe, Int.reduceAdd, Int.reduceSub, List.append_assoc, List.length_append, List.length_set, gA hp, sA hp, gL0, sL0, gL1, sL1]
  refine CO.intro (byte_ex hp a b hs _) ?_
  unfold patom
  have hc := pbyte_lt s a b
  have hs' := pbyte_hs (a := a) hs
  have hst := stray_idx _ hc
  generalize pbyte s a b = q at hc hs' hst ⊢
  obtain ⟨c, a', b'⟩ := q
  simp only at hc hs' hst ⊢
  have k40 : ((c : Int) == 40) = (c == 40) := beq_cast c 40
  have k8 : ((d : Int) == 8) = (d == 8) := beq_cast d 8
  have k91 : ((c : Int) == 91) = (c == 91) := beq_cast c 91
  have k46 : ((c : Int) == 46) = (c == 46) := beq_cast c 46
  have k92 : ((c : Int) == 92) = (c == 92) := beq_cast c 92
  cases h40 : c == 40 with
  | true =>
    cases b' with
    | true =>
      simp -implicitDefEqProofs only [go_sem, List.reduceReplicate, Nat.reduceAdd, Nat.reduceSub, Nat.reduceLT, Nat.reduceLeDiff, Nat.reduceMul, Nat.reduceEqDiff, reduceCtorEq, Int.reduceLE, Int.reduceLT, Int.reduceEq, Int.reduceNe, Int.reduceBEq, Int.reduceBNe, Int.reduceAdd, Int.reduceSub, k40, k91, k46, k92, h40, gA hp, sA hp, gL0, sL0, gL1, sL1, if_true, Bool.true_or, Bool.or_true]
      refine CO.intro (next_ex hp _ _ 41 (.inl rfl) _) ?_
      simp -implicitDefEqProofs only [go_sem, List.reduceReplicate, Nat.reduceAdd, Nat.reduceSub, Nat.reduceLT, Nat.reduceLeDiff, Nat.reduceMul, Nat.reduceEqDiff, reduceCtorEq, Int.reduceLE, Int.reduceLT, Int.reduceEq, Int.reduceNe, Int.reduceBEq, Int.reduceBNe, Int.reduceAdd, Int.reduceSub, gA hp, sA hp, gL0, sL0, gL1, sL1, sees_true, nextA]
      refine Fini.trim2 (ex := [_, _]) ?_ rfl ?_ (bel_rv _ _) (hb2 _ _)
      · (simp -implicitDefEqProofs only [go_sem, List.reduceReplicate, Nat.reduceAdd, Nat.reduceSub, Nat.reduceLT, Nat.reduceLeDiff, Nat.reduceMul, Nat.reduceEqDiff, reduceCtorEq, Int.reduceLE, Int.reduceLT, Int.reduceEq, Int.reduceNe, Int.reduceBEq, Int.reduceBNe, Int.reduceAdd, Int.reduceSub, resA, allSome, rvA, oneOf, gL0]; first | done | rfl | rw [rv_eq, hK] | (simp only [rv, rvK, rvL]; rw [rv_eq, hK]))
      · simp
    | false =>
      cases hd8 : d == 8 with
      | true =>
        simp -implicitDefEqProofs only [go_sem, List.reduceReplicate, Nat.reduceAdd, Nat.reduceSub, Nat.reduceLT, Nat.reduceLeDiff, Nat.reduceMul, Nat.reduceEqDiff, reduceCtorEq, Int.reduceLE, Int.reduceLT, Int.reduceEq, Int.reduceNe, Int.reduceBEq, Int.reduceBNe, Int.reduceAdd, Int.reduceSub, k40, k91, k46, k92, h40, gA hp, sA hp, gL0, sL0, gL1, sL1, if_true, k8, hd8, Bool.false_or, Bool.or_false, Bool.or_true, Bool.true_or]
        refine CO.intro (next_ex hp _ _ 41 (.inl rfl) _) ?_
        simp -implicitDefEqProofs only [go_sem, List.reduceReplicate, Nat.reduceAdd, Nat.reduceSub, Nat.reduceLT, Nat.reduceLeDiff, Nat.reduceMul, Nat.reduceEqDiff, reduceCtorEq, Int.reduceLE, Int.reduceLT, Int.reduceEq, Int.reduceNe, Int.reduceBEq, Int.reduceBNe, Int.reduceAdd, Int.reduceSub, gA hp, sA hp, gL0, sL0, gL1, sL1, sees_true, nextA]
        refine Fini.trim2 (ex := [_, _]) ?_ rfl ?_ (bel_rv _ _) (hb2 _ _)
        · (simp -implicitDefEqProofs only [go_sem, List.reduceReplicate, Nat.reduceAdd, Nat.reduceSub, Nat.reduceLT, Nat.reduceLeDiff, Nat.reduceMul, Nat.reduceEqDiff, reduceCtorEq, Int.reduceLE, Int.reduceLT, Int.reduceEq, Int.reduceNe, Int.reduceBEq, Int.reduceBNe, Int.reduceAdd, Int.reduceSub, resA, allSome, rvA, oneOf, gL0]; first | done | rfl | rw [rv_eq, hK] | (simp only [rv, rvK, rvL]; rw [rv_eq, hK]))
        · simp
      | false =>
        have hd7 : d < 8 := by
          have : d ≠ 8 := by simpa using hd8
          omega
        have e1 : IntKind.i64.wrap ((d : Int) + 1) = ((d + 1 : Nat) : Int) := by rw [wrapN (by omega) (by omega)]; rfl
        simp -implicitDefEqProofs only [go_sem, List.reduceReplicate, Nat.reduceAdd, Nat.reduceSub, Nat.reduceLT, Nat.reduceLeDiff, Nat.reduceMul, Nat.reduceEqDiff, reduceCtorEq, Int.reduceLE, Int.reduceLT, Int.reduceEq, Int.reduceNe, Int.reduceBEq, Int.reduceBNe, Int.reduceAdd, Int.reduceSub, k40, k91, k46, k92, h40, gA hp, sA hp, gL0, sL0, gL1, sL1, if_true, k8, hd8, Bool.false_or, Bool.or_false, Bool.or_true, Bool.true_or, e1]
        refine CO.intro ((hF hd7).ex hp _ _ hs' _) ?_
        have hs2 : (F a' false).2.2 = true ∨ s.size ≤ 40 := hfw.hs hs'
        generalize F a' false = w at hs2 ⊢
        obtain ⟨x, a1, b1⟩ := w
        simp only at hs2 ⊢
        have hbx : ∀ n, Bel n x.rv := fun n => bel_rv n x
        rw [rv_eq x] at hbx ⊢
        rcases rvK_cases x.ks with hK | ⟨l, hK⟩
        all_goals rw [hK] at hbx ⊢
        all_goals simp -implicitDefEqProofs only [go_sem, List.reduceReplicate, Nat.reduceAdd, Nat.reduceSub, Nat.reduceLT, Nat.reduceLeDiff, Nat.reduceMul, Nat.reduceEqDiff, reduceCtorEq, Int.reduceLE, Int.reduceLT, Int.reduceEq, Int.reduceNe, Int.reduceBEq, Int.reduceBNe, Int.reduceAdd, Int.reduceSub, gA hp, sA hp, gL0, sL0, gL1, sL1]
        all_goals refine CO.intro (next_ex hp _ _ 41 hs2 _) ?_
        all_goals cases hse : sees s a1 b1 41
        all_goals (
          first
          | (have hb1 := (sees_lt hse).2
             subst hb1)
          | skip
          simp -implicitDefEqProofs only [go_sem, List.reduceReplicate, Nat.reduceAdd, Nat.reduceSub, Nat.reduceLT, Nat.reduceLeDiff, Nat.reduceMul, Nat.reduceEqDiff, reduceCtorEq, Int.reduceLE, Int.reduceLT, Int.reduceEq, Int.reduceNe, Int.reduceBEq, Int.reduceBNe, Int.reduceAdd, Int.reduceSub, gA hp, sA hp, gL0, sL0, gL1, sL1, hse, nextA, Bool.true_or, Bool.false_or]
          refine Fini.trim2 (ex := [_, _]) ?_ rfl ?_ (hbx _) (hb2 _ _)
          · (simp -implicitDefEqProofs only [go_sem, List.reduceReplicate, Nat.reduceAdd, Nat.reduceSub, Nat.reduceLT, Nat.reduceLeDiff, Nat.reduceMul, Nat.reduceEqDiff, reduceCtorEq, Int.reduceLE, Int.reduceLT, Int.reduceEq, Int.reduceNe, Int.reduceBEq, Int.reduceBNe, Int.reduceAdd, Int.reduceSub, resA, allSome, rvA, oneOf, gL0]; first | done | rfl | rw [rv_eq, hK] | (simp only [rv, rvK, rvL]; rw [rv_eq, hK]))
          · simp)
  | false =>
    cases h91 : c == 91 with
    | true =>
      simp -implicitDefEqProofs only [go_sem, List.reduceReplicate, Nat.reduceAdd, Nat.reduceSub, Nat.reduceLT, Nat.reduceLeDiff, Nat.reduceMul, Nat.reduceEqDiff, reduceCtorEq, Int.reduceLE, Int.reduceLT, Int.reduceEq, Int.reduceNe, Int.reduceBEq, Int.reduceBNe, Int.reduceAdd, Int.reduceSub, k40, k91, k46, k92, h40, h91, gA hp, sA hp, if_true, Bool.false_eq_true, if_false]
      refine CO.intro (class_ex hp a' b' hs' _) ?_
      have h4 := pclass_len s a' b'
      generalize pclass s a' b' = k at h4 ⊢
      obtain ⟨S, a1, b1⟩ := k
      simp only at h4 ⊢
      obtain ⟨x0, x1, x2, x3, rfl⟩ := four h4
      simp -implicitDefEqProofs only [go_sem, List.reduceReplicate, Nat.reduceAdd, Nat.reduceSub, Nat.reduceLT, Nat.reduceLeDiff, Nat.reduceMul, Nat.reduceEqDiff, reduceCtorEq, Int.reduceLE, Int.reduceLT, Int.reduceEq, Int.reduceNe, Int.reduceBEq, Int.reduceBNe, Int.reduceAdd, Int.reduceSub, gA hp, sA hp, gL0, sL0, gL1, sL1, List.map_cons, List.map_nil]
      refine Fini.trim2 (ex := [_, _]) ?_ rfl ?_ (bel_rv _ _) (hb2 _ _)
      · (simp -implicitDefEqProofs only [go_sem, List.reduceReplicate, Nat.reduceAdd, Nat.reduceSub, Nat.reduceLT, Nat.reduceLeDiff, Nat.reduceMul, Nat.reduceEqDiff, reduceCtorEq, Int.reduceLE, Int.reduceLT, Int.reduceEq, Int.reduceNe, Int.reduceBEq, Int.reduceBNe, Int.reduceAdd, Int.reduceSub, resA, allSome, rvA, oneOf, gL0]; first | done | rfl | rw [rv_eq, hK] | (simp only [rv, rvK, rvL]; rw [rv_eq, hK]))
      · simp
    | false =>
      cases h46 : c == 46 with
      | true =>
        simp -implicitDefEqProofs only [go_sem, List.reduceReplicate, Nat.reduceAdd, Nat.reduceSub, Nat.reduceLT, Nat.reduceLeDiff, Nat.reduceMul, Nat.reduceEqDiff, reduceCtorEq, Int.reduceLE, Int.reduceLT, Int.reduceEq, Int.reduceNe, Int.reduceBEq, Int.reduceBNe, Int.reduceAdd, Int.reduceSub, k40, k91, k46, k92, h40, h91, h46, gA hp, sA hp, gL0, sL0, gL1, sL1, if_true, Bool.false_eq_true, if_false]
        refine CO.intro (turned_ans _ 0 0 0 0) ?_
        simp -implicitDefEqProofs only [go_sem, List.reduceReplicate, Nat.reduceAdd, Nat.reduceSub, Nat.reduceLT, Nat.reduceLeDiff, Nat.reduceMul, Nat.reduceEqDiff, reduceCtorEq, Int.reduceLE, Int.reduceLT, Int.reduceEq, Int.reduceNe, Int.reduceBEq, Int.reduceBNe, Int.reduceAdd, Int.reduceSub, gA hp, sA hp, gL0, sL0, gL1, sL1, List.map_cons, List.map_nil]
        refine Fini.trim2 (ex := [_, _]) ?_ rfl ?_ (bel_rv _ _) (hb2 _ _)
        · (simp -implicitDefEqProofs only [go_sem, List.reduceReplicate, Nat.reduceAdd, Nat.reduceSub, Nat.reduceLT, Nat.reduceLeDiff, Nat.reduceMul, Nat.reduceEqDiff, reduceCtorEq, Int.reduceLE, Int.reduceLT, Int.reduceEq, Int.reduceNe, Int.reduceBEq, Int.reduceBNe, Int.reduceAdd, Int.reduceSub, resA, allSome, rvA, oneOf, gL0]; first | done | rfl | rw [rv_eq, hK] | (simp only [rv, rvK, rvL]; rw [rv_eq, hK]))
        · simp
      | false =>
        cases h92 : c == 92 with
        | true =>
          simp -implicitDefEqProofs only [go_sem, List.reduceReplicate, Nat.reduceAdd, Nat.reduceSub, Nat.reduceLT, Nat.reduceLeDiff, Nat.reduceMul, Nat.reduceEqDiff, reduceCtorEq, Int.reduceLE, Int.reduceLT, Int.reduceEq, Int.reduceNe, Int.reduceBEq, Int.reduceBNe, Int.reduceAdd, Int.reduceSub, k40, k91, k46, k92, h40, h91, h46, h92, gA hp, sA hp, gL0, sL0, gL1, sL1, if_true, Bool.false_eq_true, if_false]
          refine CO.intro (sign_ex hp a' b' hs' _) ?_
          have hk : (psign s a' b').1 < 256 := pbyte_lt s a' b'
          generalize psign s a' b' = k at hk ⊢
          obtain ⟨x, a1, b1⟩ := k
          simp only at hk ⊢
          simp -implicitDefEqProofs only [go_sem, List.reduceReplicate, Nat.reduceAdd, Nat.reduceSub, Nat.reduceLT, Nat.reduceLeDiff, Nat.reduceMul, Nat.reduceEqDiff, reduceCtorEq, Int.reduceLE, Int.reduceLT, Int.reduceEq, Int.reduceNe, Int.reduceBEq, Int.reduceBNe, Int.reduceAdd, Int.reduceSub]
          refine CO.intro (add_ans _ (σ.length + 1) 1 _ x 0 (gL1 _ _ _ _ _ _) (add_get hk) hk) ?_
          rw [sL1, add_cells hk]
          simp -implicitDefEqProofs only [go_sem, List.reduceReplicate, Nat.reduceAdd, Nat.reduceSub, Nat.reduceLT, Nat.reduceLeDiff, Nat.reduceMul, Nat.reduceEqDiff, reduceCtorEq, Int.reduceLE, Int.reduceLT, Int.reduceEq, Int.reduceNe, Int.reduceBEq, Int.reduceBNe, Int.reduceAdd, Int.reduceSub, gA hp, sA hp, gL0, sL0, gL1, sL1, List.map_cons, List.map_nil]
          refine Fini.trim2 (ex := [_, _]) ?_ rfl ?_ (bel_rv _ _) (hb2 _ _)
          · (simp -implicitDefEqProofs only [go_sem, List.reduceReplicate, Nat.reduceAdd, Nat.reduceSub, Nat.reduceLT, Nat.reduceLeDiff, Nat.reduceMul, Nat.reduceEqDiff, reduceCtorEq, Int.reduceLE, Int.reduceLT, Int.reduceEq, Int.reduceNe, Int.reduceBEq, Int.reduceBNe, Int.reduceAdd, Int.reduceSub, resA, allSome, rvA, oneOf, gL0]; first | done | rfl | rw [rv_eq, hK] | (simp only [rv, rvK, rvL]; rw [rv_eq, hK]))
          · simp
        | false =>
          simp -implicitDefEqProofs only [go_sem, List.reduceReplicate, Nat.reduceAdd, Nat.reduceSub, Nat.reduceLT, Nat.reduceLeDiff, Nat.reduceMul, Nat.reduceEqDiff, reduceCtorEq, Int.reduceLE, Int.reduceLT, Int.reduceEq, Int.reduceNe, Int.reduceBEq, Int.reduceBNe, Int.reduceAdd, Int.reduceSub, k40, k91, k46, k92, h40, h91, h46, h92, gA hp, sA hp, gL0, sL0, gL1, sL1, if_true, Bool.false_eq_true, if_false]
          cases b' with
          | true =>
            simp -implicitDefEqProofs only [go_sem, List.reduceReplicate, Nat.reduceAdd, Nat.reduceSub, Nat.reduceLT, Nat.reduceLeDiff, Nat.reduceMul, Nat.reduceEqDiff, reduceCtorEq, Int.reduceLE, Int.reduceLT, Int.reduceEq, Int.reduceNe, Int.reduceBEq, Int.reduceBNe, Int.reduceAdd, Int.reduceSub, gA hp, sA hp, gL0, sL0, gL1, sL1]
            refine CO.intro (add_ans _ (σ.length + 1) 1 _ c 0 (gL1 _ _ _ _ _ _) (add_get hc) hc) ?_
            rw [sL1, add_cells hc]
            simp -implicitDefEqProofs only [go_sem, List.reduceReplicate, Nat.reduceAdd, Nat.reduceSub, Nat.reduceLT, Nat.reduceLeDiff, Nat.reduceMul, Nat.reduceEqDiff, reduceCtorEq, Int.reduceLE, Int.reduceLT, Int.reduceEq, Int.reduceNe, Int.reduceBEq, Int.reduceBNe, Int.reduceAdd, Int.reduceSub, gA hp, sA hp, gL0, sL0, gL1, sL1]
            refine Fini.trim2 (ex := [_, _]) ?_ rfl ?_ (bel_rv _ _) (hb2 _ _)
            · (simp -implicitDefEqProofs only [go_sem, List.reduceReplicate, Nat.reduceAdd, Nat.reduceSub, Nat.reduceLT, Nat.reduceLeDiff, Nat.reduceMul, Nat.reduceEqDiff, reduceCtorEq, Int.reduceLE, Int.reduceLT, Int.reduceEq, Int.reduceNe, Int.reduceBEq, Int.reduceBNe, Int.reduceAdd, Int.reduceSub, resA, allSome, rvA, oneOf, gL0]; first | done | rfl | rw [rv_eq, hK] | (simp only [rv, rvK, rvL]; rw [rv_eq, hK]))
            · simp
          | false =>
            simp -implicitDefEqProofs only [go_sem, List.reduceReplicate, Nat.reduceAdd, Nat.reduceSub, Nat.reduceLT, Nat.reduceLeDiff, Nat.reduceMul, Nat.reduceEqDiff, reduceCtorEq, Int.reduceLE, Int.reduceLT, Int.reduceEq, Int.reduceNe, Int.reduceBEq, Int.reduceBNe, Int.reduceAdd, Int.reduceSub, gA hp, sA hp, gL0, sL0, gL1, sL1]
            refine CO.intro (byteidx_ans _ _ c) ?_
            simp -implicitDefEqProofs only [go_sem, List.reduceReplicate, Nat.reduceAdd, Nat.reduceSub, Nat.reduceLT, Nat.reduceLeDiff, Nat.reduceMul, Nat.reduceEqDiff, reduceCtorEq, Int.reduceLE, Int.reduceLT, Int.reduceEq, Int.reduceNe, Int.reduceBEq, Int.reduceBNe, Int.reduceAdd, Int.reduceSub, gA hp, sA hp, gL0, sL0, gL1, sL1]
            refine CO.intro (add_ans _ (σ.length + 1) 1 _ c 0 (gL1 _ _ _ _ _ _) (add_get hc) hc) ?_
            rw [sL1, add_cells hc]
            simp -implicitDefEqProofs only [go_sem, List.reduceReplicate, Nat.reduceAdd, Nat.reduceSub, Nat.reduceLT, Nat.reduceLeDiff, Nat.reduceMul, Nat.reduceEqDiff, reduceCtorEq, Int.reduceLE, Int.reduceLT, Int.reduceEq, Int.reduceNe, Int.reduceBEq, Int.reduceBNe, Int.reduceAdd, Int.reduceSub, gA hp, sA hp, gL0, sL0, gL1, sL1]
            rw [hst]
            refine Fini.trim2 (ex := [_, _]) ?_ rfl ?_ (bel_rv _ _) (hb2 _ _)
            · (simp -implicitDefEqProofs only [go_sem, List.reduceReplicate, Nat.reduceAdd, Nat.reduceSub, Nat.reduceLT, Nat.reduceLeDiff, Nat.reduceMul, Nat.reduceEqDiff, reduceCtorEq, Int.reduceLE, Int.reduceLT, Int.reduceEq, Int.reduceNe, Int.reduceBEq, Int.reduceBNe, Int.reduceAdd, Int.reduceSub, resA, allSome, rvA, oneOf, gL0]; first | done | rfl | rw [rv_eq, hK] | (simp only [rv, rvK, rvL]; rw [rv_eq, hK]))
            · simp
end
section
variable (s : ByteArray)
theorem factor_ans (F : PF) (d : Nat) (hF : FAns 142 [I d] s F) (hfw : Fwd F) : FAns 134 [I d] s (pfactor s F) := by
  intro σ p a b hp hs
  refine Ans.of_run' t134 (fun hbel _ => ?_)
  have hb2 := bel_at hbel
  simp -implicitDefEqProofs only [c134, r134, go_sem, List.reduceReplicate, Nat.reduceAdd, Nat.reduceSub, Nat.reduceLT, Nat.reduceLeDiff, Nat.reduceMul, Nat.reduceEqDiff, reduceCtorEq, Int.reduceLE, Int.reduceLT, Int.reduceEq, Int.reduceNe, Int.reduceBEq, Int.reduceBNe, Int.reduceAdd, Int.reduceSub, List.append_assoc, List.length_append, List.length_set, gA hp, sA hp, gL0, sL0, gL1, sL1]
  refine CO.intro (hF.ex hp _ _ hs _) ?_
  have hs2 : (F a b).2.2 = true ∨ s.size ≤ 40 := hfw.hs hs
  unfold pfactor
  generalize F a b = w at hs2 ⊢
  obtain ⟨x, a1, b1⟩ := w
  simp only at hs2 ⊢
  have hn : ∀ (ex : St) (c : Nat), sees s a1 b1 c = false → Ans Try.prog 118 [.ptr p 0, B8 c] (σ.set p (pob s a1 b1) ++ ex) (Bo false) (σ.set p (pob s a1 b1) ++ ex) := fun ex c h => by
    have := next_ex hp a1 b1 c hs2 ex
    rwa [nextA, h] at this
  have hy : ∀ (ex : St) (c : Nat), sees s a1 b1 c = true → Ans Try.prog 118 [.ptr p 0, B8 c] (σ.set p (pob s a1 b1) ++ ex) (Bo true) (σ.set p (pob s (a1 + 1) b1) ++ ex) := fun ex c h => by
    have := next_ex hp a1 b1 c hs2 ex
    rwa [nextA, h] at this
  have hbx : ∀ n, Bel n x.rv := fun n => bel_rv n x
  rw [rv_eq x] at hbx ⊢
  rcases rvK_cases x.ks with hK | ⟨l, hK⟩
  all_goals (
    rw [hK] at hbx ⊢
    simp -implicitDefEqProofs only [go_sem, List.reduceReplicate, Nat.reduceAdd, Nat.reduceSub, Nat.reduceLT, Nat.reduceLeDiff, Nat.reduceMul, Nat.reduceEqDiff, reduceCtorEq, Int.reduceLE, Int.reduceLT, Int.reduceEq, Int.reduceNe, Int.reduceBEq, Int.reduceBNe, Int.reduceAdd, Int.reduceSub, gA hp, sA hp, gL0, sL0, gL1, sL1]
    cases h42 : sees s a1 b1 42
    · refine CO.intro (hn _ 42 h42) ?_
      simp -implicitDefEqProofs only [go_sem, List.reduceReplicate, Nat.reduceAdd, Nat.reduceSub, Nat.reduceLT, Nat.reduceLeDiff, Nat.reduceMul, Nat.reduceEqDiff, reduceCtorEq, Int.reduceLE, Int.reduceLT, Int.reduceEq, Int.reduceNe, Int.reduceBEq, Int.reduceBNe, Int.reduceAdd, Int.reduceSub, gA hp, sA hp, gL0, sL0, gL1, sL1]
      cases h43 : sees s a1 b1 43
      · refine CO.intro (hn _ 43 h43) ?_
        simp -implicitDefEqProofs only [go_sem, List.reduceReplicate, Nat.reduceAdd, Nat.reduceSub, Nat.reduceLT, Nat.reduceLeDiff, Nat.reduceMul, Nat.reduceEqDiff, reduceCtorEq, Int.reduceLE, Int.reduceLT, Int.reduceEq, Int.reduceNe, Int.reduceBEq, Int.reduceBNe, Int.reduceAdd, Int.reduceSub, gA hp, sA hp, gL0, sL0, gL1, sL1]
        cases h63 : sees s a1 b1 63
        · refine CO.intro (hn _ 63 h63) ?_
          simp -implicitDefEqProofs only [go_sem, List.reduceReplicate, Nat.reduceAdd, Nat.reduceSub, Nat.reduceLT, Nat.reduceLeDiff, Nat.reduceMul, Nat.reduceEqDiff, reduceCtorEq, Int.reduceLE, Int.reduceLT, Int.reduceEq, Int.reduceNe, Int.reduceBEq, Int.reduceBNe, Int.reduceAdd, Int.reduceSub, gA hp, sA hp, gL0, sL0, gL1, sL1]
          refine Fini.trim2 (ex := [_]) ?_ rfl ?_ (bel_rv _ _) (hb2 _ _)
          · (simp -implicitDefEqProofs only [go_sem, List.reduceReplicate, Nat.reduceAdd, Nat.reduceSub, Nat.reduceLT, Nat.reduceLeDiff, Nat.reduceMul, Nat.reduceEqDiff, reduceCtorEq, Int.reduceLE, Int.reduceLT, Int.reduceEq, Int.reduceNe, Int.reduceBEq, Int.reduceBNe, Int.reduceAdd, Int.reduceSub, resA, allSome, rvA, oneOf, gL0]; first | done | rfl | rw [rv_eq, hK] | (simp only [rv, rvK, rvL]; rw [rv_eq, hK]))
          · simp
        · refine CO.intro (hy _ 63 h63) ?_
          simp -implicitDefEqProofs only [go_sem, List.reduceReplicate, Nat.reduceAdd, Nat.reduceSub, Nat.reduceLT, Nat.reduceLeDiff, Nat.reduceMul, Nat.reduceEqDiff, reduceCtorEq, Int.reduceLE, Int.reduceLT, Int.reduceEq, Int.reduceNe, Int.reduceBEq, Int.reduceBNe, Int.reduceAdd, Int.reduceSub, gA hp, sA hp, gL0, sL0, gL1, sL1]
          refine Fini.trim2 (ex := [_]) ?_ rfl ?_ (bel_rv _ _) (hb2 _ _)
          · (simp -implicitDefEqProofs only [go_sem, List.reduceReplicate, Nat.reduceAdd, Nat.reduceSub, Nat.reduceLT, Nat.reduceLeDiff, Nat.reduceMul, Nat.reduceEqDiff, reduceCtorEq, Int.reduceLE, Int.reduceLT, Int.reduceEq, Int.reduceNe, Int.reduceBEq, Int.reduceBNe, Int.reduceAdd, Int.reduceSub, resA, allSome, rvA, oneOf, gL0]; first | done | rfl | rw [rv_eq, hK] | (simp only [rv, rvK, rvL]; rw [rv_eq, hK]))
          · simp
      · refine CO.intro (hy _ 43 h43) ?_
        simp -implicitDefEqProofs only [go_sem, List.reduceReplicate, Nat.reduceAdd, Nat.reduceSub, Nat.reduceLT, Nat.reduceLeDiff, Nat.reduceMul, Nat.reduceEqDiff, reduceCtorEq, Int.reduceLE, Int.reduceLT, Int.reduceEq, Int.reduceNe, Int.reduceBEq, Int.reduceBNe, Int.reduceAdd, Int.reduceSub, gA hp, sA hp, gL0, sL0, gL1, sL1]
        refine Fini.trim2 (ex := [_]) ?_ rfl ?_ (bel_rv _ _) (hb2 _ _)
        · (simp -implicitDefEqProofs only [go_sem, List.reduceReplicate, Nat.reduceAdd, Nat.reduceSub, Nat.reduceLT, Nat.reduceLeDiff, Nat.reduceMul, Nat.reduceEqDiff, reduceCtorEq, Int.reduceLE, Int.reduceLT, Int.reduceEq, Int.reduceNe, Int.reduceBEq, Int.reduceBNe, Int.reduceAdd, Int.reduceSub, resA, allSome, rvA, oneOf, gL0]; first | done | rfl | rw [rv_eq, hK] | (simp only [rv, rvK, rvL]; rw [rv_eq, hK]))
        · simp
    · refine CO.intro (hy _ 42 h42) ?_
      simp -implicitDefEqProofs only [go_sem, List.reduceReplicate, Nat.reduceAdd, Nat.reduceSub, Nat.reduceLT, Nat.reduceLeDiff, Nat.reduceMul, Nat.reduceEqDiff, reduceCtorEq, Int.reduceLE, Int.reduceLT, Int.reduceEq, Int.reduceNe, Int.reduceBEq, Int.reduceBNe, Int.reduceAdd, Int.reduceSub, gA hp, sA hp, gL0, sL0, gL1, sL1]
      refine Fini.trim2 (ex := [_]) ?_ rfl ?_ (bel_rv _ _) (hb2 _ _)
      · (simp -implicitDefEqProofs only [go_sem, List.reduceReplicate, Nat.reduceAdd, Nat.reduceSub, Nat.reduceLT, Nat.reduceLeDiff, Nat.reduceMul, Nat.reduceEqDiff, reduceCtorEq, Int.reduceLE, Int.reduceLT, Int.reduceEq, Int.reduceNe, Int.reduceBEq, Int.reduceBNe, Int.reduceAdd, Int.reduceSub, resA, allSome, rvA, oneOf, gL0]; first | done | rfl | rw [rv_eq, hK] | (simp only [rv, rvK, rvL]; rw [rv_eq, hK]))
      · simp)
end
end Go.Proofs.Ytoadgajhkhejiaa
namespace Go.Proofs.Ytoadgajhkhejiaa
open Go Go.Ab
set_option maxRecDepth 100000
open Rex
abbrev box0 : Ob := .box [I 0, U 0, U 0, U 0, U 0, .nils]
def exK (K : List Rex) : St := box0 :: (if K.isEmpty then [] else [.row 6 (K.map rv)])
def vK (l : Nat) (K : List Rex) : AV := if K.isEmpty then .nils else .osl (l + 1) K.length
theorem exK_cons (x : Rex) (K : List Rex) : exK (x :: K) = [box0, .row 6 ((x :: K).map rv)] := rfl
theorem vK_cons (l : Nat) (x : Rex) (K : List Rex) : vK l (x :: K) = .osl (l + 1) (K.length + 1) := rfl
theorem exK_nil : exK [] = [box0] := rfl
theorem vK_nil (l : Nat) : vK l [] = .nils := rfl
theorem exK_snoc (K : List Rex) (x : Rex) : exK (K ++ [x]) = [box0, .row 6 (K.map rv ++ [x.rv])] := by
  cases K with
  | nil => rfl
  | cons y K => simp [exK]
theorem vK_snoc (l : Nat) (K : List Rex) (x : Rex) : vK l (K ++ [x]) = .osl (l + 1) (K.length + 1) := by
  cases K with
  | nil => rfl
  | cons y K => simp [vK]
theorem rv_one (op : Int) (y z : Rex) (K : List Rex) : (one op (y :: z :: K)).rv = .agg [I op, U 0, U 0, U 0, U 0, .sl 6 ((y :: z :: K).map rv)] := by
  show Rex.rv (.mk op 0 0 0 0 (y :: z :: K)) = _
  rw [rv, rvK_cons]
theorem bel_tup2 {n : Nat} {x : AV} (h : Bel n x) (b : Bool) : Bel n (.tup [x, Bo b]) := by
  refine .tup _ fun i hi => ?_
  have : ∀ y ∈ [x, Bo b], Bel n y := by
    intro y hy
    simp only [List.mem_cons, List.not_mem_nil, or_false] at hy
    rcases hy with rfl | rfl
    · exact h
    · exact .pl _
  exact this _ (List.getElem_mem hi)
section
variable (s : ByteArray)
theorem way_ans (F : PF) (d : Nat) (hF : FAns 134 [I d] s F) (hfw : Fwd F) (he : Eats s F) : FAns 117 [I d] s (pway s F) := by
  intro σ p a b hp hs
  refine Ans.of_run' t117 (fun hbel _ => ?_)
  have hb2 := bel_at hbel
  simp -implicitDefEqProofs only [c117, r117, go_sem, List.reduceReplicate, Nat.reduceAdd, Nat.reduceSub, Nat.reduceLT, Nat.reduceLeDiff, Nat.reduceMul, Nat.reduceEqDiff, reduceCtorEq, Int.reduceLE, Int.reduceLT, Int.reduceEq, Int.reduceNe, Int.reduceBEq, Int.reduceBNe, Int.reduceAdd, Int.reduceSub, List.append_assoc, List.length_append, List.length_set]
  unfold pway
  simp only
  have hm : s.size - a < s.size + 1 := by omega
  generalize hres : pwayL s F (s.size + 1) [] a b = res
  refine L.intro (α := { x : Nat × List Rex × Nat × Bool // pwayL s F x.1 x.2.1 x.2.2.1 x.2.2.2 = res ∧ s.size - x.2.2.1 < x.1 ∧ (x.2.2.2 = true ∨ s.size ≤ 40) ∧ x.2.1.length ≤ x.2.2.1 })
    (fun x => x.1.1)
    (fun x => mkE 33 [(0, .ptr p 0), (1, I d), (4, .ptr σ.length 0), (5, vK σ.length x.1.2.1)])
    (fun x => σ.set p (pob s x.1.2.2.1 x.1.2.2.2) ++ exK x.1.2.1)
    (fun x J hJ => ?_) ⟨(s.size + 1, [], a, b), hres, hm, hs, Nat.zero_le _⟩ ?_ ?_
  · obtain ⟨⟨n, K, a1, b1⟩, h1, h2, h3, h4⟩ := x
    simp only at h1 h2 h3 h4 hJ ⊢
    cases n with
    | zero => omega
    | succ n =>
    rw [pwayL] at h1
    cases hgo : wGo s a1 b1 with
    | true =>
      rw [hgo, if_pos rfl] at h1
      obtain ⟨ha, hb⟩ := wGo_lt hgo
      subst hb
      have hov : over s a1 false = false := by simp [wGo] at hgo; exact hgo.1
      have hs1 : sees s a1 false 124 = false := by simp [wGo] at hgo; exact hgo.2.1
      have hs2 : sees s a1 false 41 = false := by simp [wGo] at hgo; exact hgo.2.2
      have hsz : s.size ≤ 40 := by
        rcases h3 with h | h
        · exact absurd h Bool.false_ne_true
        · exact h
      have hea := he a1 false hov
      have hJ' := hJ ⟨(n, K ++ [(F a1 false).1], (F a1 false).2.1, (F a1 false).2.2), h1, by simp only; omega, .inr hsz, by simp; omega⟩ (Nat.lt_succ_self n)
      simp only [exK_snoc, vK_snoc] at hJ'
      clear hJ h1 hgo
      simp -implicitDefEqProofs only [mkE, List.foldl_cons, List.foldl_nil, go_sem, List.reduceReplicate, Nat.reduceAdd, Nat.reduceSub, Nat.reduceLT, Nat.reduceLeDiff, Nat.reduceMul, Nat.reduceEqDiff, reduceCtorEq, Int.reduceLE, Int.reduceLT, Int.reduceEq, Int.reduceNe, Int.reduceBEq, Int.reduceBNe, Int.reduceAdd, Int.reduceSub]
      refine CO.intro (over_ex hp a1 false _) ?_
      simp -implicitDefEqProofs only [go_sem, List.reduceReplicate, Nat.reduceAdd, Nat.reduceSub, Nat.reduceLT, Nat.reduceLeDiff, Nat.reduceMul, Nat.reduceEqDiff, reduceCtorEq, Int.reduceLE, Int.reduceLT, Int.reduceEq, Int.reduceNe, Int.reduceBEq, Int.reduceBNe, Int.reduceAdd, Int.reduceSub, hov]
      refine CO.intro (sees_ex hp a1 false 124 _) ?_
      simp -implicitDefEqProofs only [go_sem, List.reduceReplicate, Nat.reduceAdd, Nat.reduceSub, Nat.reduceLT, Nat.reduceLeDiff, Nat.reduceMul, Nat.reduceEqDiff, reduceCtorEq, Int.reduceLE, Int.reduceLT, Int.reduceEq, Int.reduceNe, Int.reduceBEq, Int.reduceBNe, Int.reduceAdd, Int.reduceSub, hs1]
      refine CO.intro (sees_ex hp a1 false 41 _) ?_
      simp -implicitDefEqProofs only [go_sem, List.reduceReplicate, Nat.reduceAdd, Nat.reduceSub, Nat.reduceLT, Nat.reduceLeDiff, Nat.reduceMul, Nat.reduceEqDiff, reduceCtorEq, Int.reduceLE, Int.reduceLT, Int.reduceEq, Int.reduceNe, Int.reduceBEq, Int.reduceBNe, Int.reduceAdd, Int.reduceSub, hs2]
      refine CO.intro (hF.ex hp a1 false (.inr hsz) _) ?_
      generalize F a1 false = w at hJ' hea ⊢
      obtain ⟨x, a2, b2⟩ := w
      simp only at hJ' hea ⊢
      rw [rv_eq x] at hJ' ⊢
      rcases K with _ | ⟨y, K⟩
      all_goals rcases rvK_cases x.ks with hK | ⟨l, hK⟩
      all_goals rw [hK] at hJ' ⊢
      all_goals first
      | (simp -implicitDefEqProofs only [go_sem, List.reduceReplicate, Nat.reduceAdd, Nat.reduceSub, Nat.reduceLT, Nat.reduceLeDiff, Nat.reduceMul, Nat.reduceEqDiff, reduceCtorEq, Int.reduceLE, Int.reduceLT, Int.reduceEq, Int.reduceNe, Int.reduceBEq, Int.reduceBNe, Int.reduceAdd, Int.reduceSub, exK_nil, vK_nil, gA hp, sA hp, gL0, sL0, gL1, sL1] at hJ' ⊢
         simpa [mkE] using hJ')
      | (have g1 : (K.length + 1 + 1 ≤ 2 ^ 32) = True := by simp at h4; simp; omega
         simp -implicitDefEqProofs only [go_sem, List.reduceReplicate, Nat.reduceAdd, Nat.reduceSub, Nat.reduceLT, Nat.reduceLeDiff, Nat.reduceMul, Nat.reduceEqDiff, reduceCtorEq, Int.reduceLE, Int.reduceLT, Int.reduceEq, Int.reduceNe, Int.reduceBEq, Int.reduceBNe, Int.reduceAdd, Int.reduceSub, exK_cons, vK_cons, gA hp, sA hp, gL0, sL0, gL1, sL1, List.length_map, g1] at hJ' ⊢
         simpa [mkE] using hJ')
    | false =>
      rw [hgo, if_neg Bool.false_ne_true] at h1
      subst h1
      clear hJ h2
      have hex : over s a1 b1 = true ∨ (over s a1 b1 = false ∧ sees s a1 b1 124 = true) ∨ (over s a1 b1 = false ∧ sees s a1 b1 124 = false ∧ sees s a1 b1 41 = true) := by
        unfold wGo at hgo
        cases h1 : over s a1 b1 <;> cases h2 : sees s a1 b1 124 <;> cases h3 : sees s a1 b1 41 <;> simp [h1, h2, h3] at hgo ⊢
      rcases hex with ho | ⟨ho, h5⟩ | ⟨ho, h5, h6⟩
      · simp -implicitDefEqProofs only [mkE, List.foldl_cons, List.foldl_nil, go_sem, List.reduceReplicate, Nat.reduceAdd, Nat.reduceSub, Nat.reduceLT, Nat.reduceLeDiff, Nat.reduceMul, Nat.reduceEqDiff, reduceCtorEq, Int.reduceLE, Int.reduceLT, Int.reduceEq, Int.reduceNe, Int.reduceBEq, Int.reduceBNe, Int.reduceAdd, Int.reduceSub]
        refine CO.intro (over_ex hp a1 b1 _) ?_
        simp -implicitDefEqProofs only [go_sem, List.reduceReplicate, Nat.reduceAdd, Nat.reduceSub, Nat.reduceLT, Nat.reduceLeDiff, Nat.reduceMul, Nat.reduceEqDiff, reduceCtorEq, Int.reduceLE, Int.reduceLT, Int.reduceEq, Int.reduceNe, Int.reduceBEq, Int.reduceBNe, Int.reduceAdd, Int.reduceSub, ho]
        rcases K with _ | ⟨y, _ | ⟨z, K⟩⟩
        · simp -implicitDefEqProofs only [go_sem, List.reduceReplicate, Nat.reduceAdd, Nat.reduceSub, Nat.reduceLT, Nat.reduceLeDiff, Nat.reduceMul, Nat.reduceEqDiff, reduceCtorEq, Int.reduceLE, Int.reduceLT, Int.reduceEq, Int.reduceNe, Int.reduceBEq, Int.reduceBNe, Int.reduceAdd, Int.reduceSub, exK_nil, vK_nil, gA hp, sA hp, gL0, sL0, gL1, sL1]
          refine Fini.trim2 (ex := [_]) ?_ rfl ?_ (bel_rv _ _) (hb2 _ _)
          · ((try simp -implicitDefEqProofs only [go_sem, List.reduceReplicate, Nat.reduceAdd, Nat.reduceSub, Nat.reduceLT, Nat.reduceLeDiff, Nat.reduceMul, Nat.reduceEqDiff, reduceCtorEq, Int.reduceLE, Int.reduceLT, Int.reduceEq, Int.reduceNe, Int.reduceBEq, Int.reduceBNe, Int.reduceAdd, Int.reduceSub, resA, allSome, rvA, oneOf, gL0]); first | done | rfl | (rw [rv_one]; rfl) | rw [rv_eq, hK] | (simp only [rv, rvK, rvL]; rw [rv_eq, hK]))
          · simp
        · have g3 : (((1 : Nat) : Int) == 1) = true := rfl
          have g4 : ((0 : Int) < ((1 : Nat) : Int)) = True := by simp
          have hbx : ∀ n, Bel n y.rv := fun n => bel_rv n y
          rw [exK_cons, vK_cons, List.map_cons, List.map_nil, show (one 2 [y]) = y from rfl]
          rw [rv_eq y] at hbx ⊢
          rcases rvK_cases y.ks with hK | ⟨l, hK⟩
          all_goals rw [hK] at hbx ⊢
          all_goals simp -implicitDefEqProofs only [go_sem, List.reduceReplicate, Nat.reduceAdd, Nat.reduceSub, Nat.reduceLT, Nat.reduceLeDiff, Nat.reduceMul, Nat.reduceEqDiff, reduceCtorEq, Int.reduceLE, Int.reduceLT, Int.reduceEq, Int.reduceNe, Int.reduceBEq, Int.reduceBNe, Int.reduceAdd, Int.reduceSub, gA hp, sA hp, gL0, sL0, gL1, sL1, List.length_map, g3, g4, Int.toNat_zero]
          all_goals (
            refine Fini.trim2 (ex := [_, _]) ?_ rfl ?_ (hbx _) (hb2 _ _)
            · ((try simp -implicitDefEqProofs only [go_sem, List.reduceReplicate, Nat.reduceAdd, Nat.reduceSub, Nat.reduceLT, Nat.reduceLeDiff, Nat.reduceMul, Nat.reduceEqDiff, reduceCtorEq, Int.reduceLE, Int.reduceLT, Int.reduceEq, Int.reduceNe, Int.reduceBEq, Int.reduceBNe, Int.reduceAdd, Int.reduceSub, resA, allSome, rvA, oneOf, gL0]); first | done | rfl | (rw [rv_one]; rfl) | rw [rv_eq, hK] | (simp only [rv, rvK, rvL]; rw [rv_eq, hK]))
            · simp)
        · rw [exK_cons, vK_cons]
          have g2 : (((K.length + 1 + 1 : Nat) : Int) == 1) = false := by simp; omega
          simp -implicitDefEqProofs only [go_sem, List.reduceReplicate, Nat.reduceAdd, Nat.reduceSub, Nat.reduceLT, Nat.reduceLeDiff, Nat.reduceMul, Nat.reduceEqDiff, reduceCtorEq, Int.reduceLE, Int.reduceLT, Int.reduceEq, Int.reduceNe, Int.reduceBEq, Int.reduceBNe, Int.reduceAdd, Int.reduceSub, gA hp, sA hp, gL0, sL0, gL1, sL1, List.length_map, g2]
          refine Fini.trim2 (ex := [_, _]) ?_ rfl ?_ (bel_rv _ _) (hb2 _ _)
          · ((try simp -implicitDefEqProofs only [go_sem, List.reduceReplicate, Nat.reduceAdd, Nat.reduceSub, Nat.reduceLT, Nat.reduceLeDiff, Nat.reduceMul, Nat.reduceEqDiff, reduceCtorEq, Int.reduceLE, Int.reduceLT, Int.reduceEq, Int.reduceNe, Int.reduceBEq, Int.reduceBNe, Int.reduceAdd, Int.reduceSub, resA, allSome, rvA, oneOf, gL0]); first | done | rfl | (rw [rv_one]; rfl) | rw [rv_eq, hK] | (simp only [rv, rvK, rvL]; rw [rv_eq, hK]))
          · simp
      · simp -implicitDefEqProofs only [mkE, List.foldl_cons, List.foldl_nil, go_sem, List.reduceReplicate, Nat.reduceAdd, Nat.reduceSub, Nat.reduceLT, Nat.reduceLeDiff, Nat.reduceMul, Nat.reduceEqDiff, reduceCtorEq, Int.reduceLE, Int.reduceLT, Int.reduceEq, Int.reduceNe, Int.reduceBEq, Int.reduceBNe, Int.reduceAdd, Int.reduceSub]
        refine CO.intro (over_ex hp a1 b1 _) ?_
        simp -implicitDefEqProofs only [go_sem, List.reduceReplicate, Nat.reduceAdd, Nat.reduceSub, Nat.reduceLT, Nat.reduceLeDiff, Nat.reduceMul, Nat.reduceEqDiff, reduceCtorEq, Int.reduceLE, Int.reduceLT, Int.reduceEq, Int.reduceNe, Int.reduceBEq, Int.reduceBNe, Int.reduceAdd, Int.reduceSub, ho]
        refine CO.intro (sees_ex hp a1 b1 124 _) ?_
        simp -implicitDefEqProofs only [go_sem, List.reduceReplicate, Nat.reduceAdd, Nat.reduceSub, Nat.reduceLT, Nat.reduceLeDiff, Nat.reduceMul, Nat.reduceEqDiff, reduceCtorEq, Int.reduceLE, Int.reduceLT, Int.reduceEq, Int.reduceNe, Int.reduceBEq, Int.reduceBNe, Int.reduceAdd, Int.reduceSub, h5]
        rcases K with _ | ⟨y, _ | ⟨z, K⟩⟩
        · simp -implicitDefEqProofs only [go_sem, List.reduceReplicate, Nat.reduceAdd, Nat.reduceSub, Nat.reduceLT, Nat.reduceLeDiff, Nat.reduceMul, Nat.reduceEqDiff, reduceCtorEq, Int.reduceLE, Int.reduceLT, Int.reduceEq, Int.reduceNe, Int.reduceBEq, Int.reduceBNe, Int.reduceAdd, Int.reduceSub, exK_nil, vK_nil, gA hp, sA hp, gL0, sL0, gL1, sL1]
          refine Fini.trim2 (ex := [_]) ?_ rfl ?_ (bel_rv _ _) (hb2 _ _)
          · ((try simp -implicitDefEqProofs only [go_sem, List.reduceReplicate, Nat.reduceAdd, Nat.reduceSub, Nat.reduceLT, Nat.reduceLeDiff, Nat.reduceMul, Nat.reduceEqDiff, reduceCtorEq, Int.reduceLE, Int.reduceLT, Int.reduceEq, Int.reduceNe, Int.reduceBEq, Int.reduceBNe, Int.reduceAdd, Int.reduceSub, resA, allSome, rvA, oneOf, gL0]); first | done | rfl | (rw [rv_one]; rfl) | rw [rv_eq, hK] | (simp only [rv, rvK, rvL]; rw [rv_eq, hK]))
          · simp
        · have g3 : (((1 : Nat) : Int) == 1) = true := rfl
          have g4 : ((0 : Int) < ((1 : Nat) : Int)) = True := by simp
          have hbx : ∀ n, Bel n y.rv := fun n => bel_rv n y
          rw [exK_cons, vK_cons, List.map_cons, List.map_nil, show (one 2 [y]) = y from rfl]
          rw [rv_eq y] at hbx ⊢
          rcases rvK_cases y.ks with hK | ⟨l, hK⟩
          all_goals rw [hK] at hbx ⊢
          all_goals simp -implicitDefEqProofs only [go_sem, List.reduceReplicate, Nat.reduceAdd, Nat.reduceSub, Nat.reduceLT, Nat.reduceLeDiff, Nat.reduceMul, Nat.reduceEqDiff, reduceCtorEq, Int.reduceLE, Int.reduceLT, Int.reduceEq, Int.reduceNe, Int.reduceBEq, Int.reduceBNe, Int.reduceAdd, Int.reduceSub, gA hp, sA hp, gL0, sL0, gL1, sL1, List.length_map, g3, g4, Int.toNat_zero]
          all_goals (
            refine Fini.trim2 (ex := [_, _]) ?_ rfl ?_ (hbx _) (hb2 _ _)
            · ((try simp -implicitDefEqProofs only [go_sem, List.reduceReplicate, Nat.reduceAdd, Nat.reduceSub, Nat.reduceLT, Nat.reduceLeDiff, Nat.reduceMul, Nat.reduceEqDiff, reduceCtorEq, Int.reduceLE, Int.reduceLT, Int.reduceEq, Int.reduceNe, Int.reduceBEq, Int.reduceBNe, Int.reduceAdd, Int.reduceSub, resA, allSome, rvA, oneOf, gL0]); first | done | rfl | (rw [rv_one]; rfl) | rw [rv_eq, hK] | (simp only [rv, rvK, rvL]; rw [rv_eq, hK]))
            · simp)
        · rw [exK_cons, vK_cons]
          have g2 : (((K.length + 1 + 1 : Nat) : Int) == 1) = false := by simp; omega
          simp -implicitDefEqProofs only [go_sem, List.reduceReplicate, Nat.reduceAdd, Nat.reduceSub, Nat.reduceLT, Nat.reduceLeDiff, Nat.reduceMul, Nat.reduceEqDiff, reduceCtorEq, Int.reduceLE, Int.reduceLT, Int.reduceEq, Int.reduceNe, Int.reduceBEq, Int.reduceBNe, Int.reduceAdd, Int.reduceSub, gA hp, sA hp, gL0, sL0, gL1, sL1, List.length_map, g2]
          refine Fini.trim2 (ex := [_, _]) ?_ rfl ?_ (bel_rv _ _) (hb2 _ _)
          · ((try simp -implicitDefEqProofs only [go_sem, List.reduceReplicate, Nat.reduceAdd, Nat.reduceSub, Nat.reduceLT, Nat.reduceLeDiff, Nat.reduceMul, Nat.reduceEqDiff, reduceCtorEq, Int.reduceLE, Int.reduceLT, Int.reduceEq, Int.reduceNe, Int.reduceBEq, Int.reduceBNe, Int.reduceAdd, Int.reduceSub, resA, allSome, rvA, oneOf, gL0]); first | done | rfl | (rw [rv_one]; rfl) | rw [rv_eq, hK] | (simp only [rv, rvK, rvL]; rw [rv_eq, hK]))
          · simp
      · simp -implicitDefEqProofs only [mkE, List.foldl_cons, List.foldl_nil, go_sem, List.reduceReplicate, Nat.reduceAdd, Nat.reduceSub, Nat.reduceLT, Nat.reduceLeDiff, Nat.reduceMul, Nat.reduceEqDiff, reduceCtorEq, Int.reduceLE, Int.reduceLT, Int.reduceEq, Int.reduceNe, Int.reduceBEq, Int.reduceBNe, Int.reduceAdd, Int.reduceSub]
        refine CO.intro (over_ex hp a1 b1 _) ?_
        simp -implicitDefEqProofs only [go_sem, List.reduceReplicate, Nat.reduceAdd, Nat.reduceSub, Nat.reduceLT, Nat.reduceLeDiff, Nat.reduceMul, Nat.reduceEqDiff, reduceCtorEq, Int.reduceLE, Int.reduceLT, Int.reduceEq, Int.reduceNe, Int.reduceBEq, Int.reduceBNe, Int.reduceAdd, Int.reduceSub, ho]
        refine CO.intro (sees_ex hp a1 b1 124 _) ?_
        simp -implicitDefEqProofs only [go_sem, List.reduceReplicate, Nat.reduceAdd, Nat.reduceSub, Nat.reduceLT, Nat.reduceLeDiff, Nat.reduceMul, Nat.reduceEqDiff, reduceCtorEq, Int.reduceLE, Int.reduceLT, Int.reduceEq, Int.reduceNe, Int.reduceBEq, Int.reduceBNe, Int.reduceAdd, Int.reduceSub, h5]
        refine CO.intro (sees_ex hp a1 b1 41 _) ?_
        simp -implicitDefEqProofs only [go_sem, List.reduceReplicate, Nat.reduceAdd, Nat.reduceSub, Nat.reduceLT, Nat.reduceLeDiff, Nat.reduceMul, Nat.reduceEqDiff, reduceCtorEq, Int.reduceLE, Int.reduceLT, Int.reduceEq, Int.reduceNe, Int.reduceBEq, Int.reduceBNe, Int.reduceAdd, Int.reduceSub, h6]
        rcases K with _ | ⟨y, _ | ⟨z, K⟩⟩
        · simp -implicitDefEqProofs only [go_sem, List.reduceReplicate, Nat.reduceAdd, Nat.reduceSub, Nat.reduceLT, Nat.reduceLeDiff, Nat.reduceMul, Nat.reduceEqDiff, reduceCtorEq, Int.reduceLE, Int.reduceLT, Int.reduceEq, Int.reduceNe, Int.reduceBEq, Int.reduceBNe, Int.reduceAdd, Int.reduceSub, exK_nil, vK_nil, gA hp, sA hp, gL0, sL0, gL1, sL1]
          refine Fini.trim2 (ex := [_]) ?_ rfl ?_ (bel_rv _ _) (hb2 _ _)
          · ((try simp -implicitDefEqProofs only [go_sem, List.reduceReplicate, Nat.reduceAdd, Nat.reduceSub, Nat.reduceLT, Nat.reduceLeDiff, Nat.reduceMul, Nat.reduceEqDiff, reduceCtorEq, Int.reduceLE, Int.reduceLT, Int.reduceEq, Int.reduceNe, Int.reduceBEq, Int.reduceBNe, Int.reduceAdd, Int.reduceSub, resA, allSome, rvA, oneOf, gL0]); first | done | rfl | (rw [rv_one]; rfl) | rw [rv_eq, hK] | (simp only [rv, rvK, rvL]; rw [rv_eq, hK]))
          · simp
        · have g3 : (((1 : Nat) : Int) == 1) = true := rfl
          have g4 : ((0 : Int) < ((1 : Nat) : Int)) = True := by simp
          have hbx : ∀ n, Bel n y.rv := fun n => bel_rv n y
          rw [exK_cons, vK_cons, List.map_cons, List.map_nil, show (one 2 [y]) = y from rfl]
          rw [rv_eq y] at hbx ⊢
          rcases rvK_cases y.ks with hK | ⟨l, hK⟩
          all_goals rw [hK] at hbx ⊢
          all_goals simp -implicitDefEqProofs only [go_sem, List.reduceReplicate, Nat.reduceAdd, Nat.reduceSub, Nat.reduceLT, Nat.reduceLeDiff, Nat.reduceMul, Nat.reduceEqDiff, reduceCtorEq, Int.reduceLE, Int.reduceLT, Int.reduceEq, Int.reduceNe, Int.reduceBEq, Int.reduceBNe, Int.reduceAdd, Int.reduceSub, gA hp, sA hp, gL0, sL0, gL1, sL1, List.length_map, g3, g4, Int.toNat_zero]
          all_goals (
            refine Fini.trim2 (ex := [_, _]) ?_ rfl ?_ (hbx _) (hb2 _ _)
            · ((try simp -implicitDefEqProofs only [go_sem, List.reduceReplicate, Nat.reduceAdd, Nat.reduceSub, Nat.reduceLT, Nat.reduceLeDiff, Nat.reduceMul, Nat.reduceEqDiff, reduceCtorEq, Int.reduceLE, Int.reduceLT, Int.reduceEq, Int.reduceNe, Int.reduceBEq, Int.reduceBNe, Int.reduceAdd, Int.reduceSub, resA, allSome, rvA, oneOf, gL0]); first | done | rfl | (rw [rv_one]; rfl) | rw [rv_eq, hK] | (simp only [rv, rvK, rvL]; rw [rv_eq, hK]))
            · simp)
        · rw [exK_cons, vK_cons]
          have g2 : (((K.length + 1 + 1 : Nat) : Int) == 1) = false := by simp; omega
          simp -implicitDefEqProofs only [go_sem, List.reduceReplicate, Nat.reduceAdd, Nat.reduceSub, Nat.reduceLT, Nat.reduceLeDiff, Nat.reduceMul, Nat.reduceEqDiff, reduceCtorEq, Int.reduceLE, Int.reduceLT, Int.reduceEq, Int.reduceNe, Int.reduceBEq, Int.reduceBNe, Int.reduceAdd, Int.reduceSub, gA hp, sA hp, gL0, sL0, gL1, sL1, List.length_map, g2]
          refine Fini.trim2 (ex := [_, _]) ?_ rfl ?_ (bel_rv _ _) (hb2 _ _)
          · ((try simp -implicitDefEqProofs only [go_sem, List.reduceReplicate, Nat.reduceAdd, Nat.reduceSub, Nat.reduceLT, Nat.reduceLeDiff, Nat.reduceMul, Nat.reduceEqDiff, reduceCtorEq, Int.reduceLE, Int.reduceLT, Int.reduceEq, Int.reduceNe, Int.reduceBEq, Int.reduceBNe, Int.reduceAdd, Int.reduceSub, resA, allSome, rvA, oneOf, gL0]); first | done | rfl | (rw [rv_one]; rfl) | rw [rv_eq, hK] | (simp only [rv, rvK, rvL]; rw [rv_eq, hK]))
          · simp
  · simp [mkE, vK]
  · rfl
theorem ways_ans' (F : PF) (d : Nat) (hF : FAns 117 [I d] s F) (hfw : Fwd F) : FAns 95 [I d] s (pways s F) := by
  intro σ p a b hp hs
  refine Ans.of_run' t95 (fun hbel _ => ?_)
  have hb2 := bel_at hbel
  simp -implicitDefEqProofs only [c95, r95, go_sem, List.reduceReplicate, Nat.reduceAdd, Nat.reduceSub, Nat.reduceLT, Nat.reduceLeDiff, Nat.reduceMul, Nat.reduceEqDiff, reduceCtorEq, Int.reduceLE, Int.reduceLT, Int.reduceEq, Int.reduceNe, Int.reduceBEq, Int.reduceBNe, Int.reduceAdd, Int.reduceSub, List.append_assoc, List.length_append, List.length_set]
  unfold pways
  simp only
  refine CO.intro (hF.ex hp a b hs _) ?_
  have hs0 : (F a b).2.2 = true ∨ s.size ≤ 40 := hfw.hs hs
  generalize F a b = w0 at hs0 ⊢
  obtain ⟨x0, a0, b0⟩ := w0
  simp only at hs0 ⊢
  have hm : s.size - a0 < s.size + 1 := by omega
  generalize hres : pwaysL s F (s.size + 1) [x0] a0 b0 = res
  rw [rv_eq x0]
  rcases rvK_cases x0.ks with hK0 | ⟨l0, hK0⟩
  all_goals rw [hK0]
  all_goals simp -implicitDefEqProofs only [go_sem, List.reduceReplicate, Nat.reduceAdd, Nat.reduceSub, Nat.reduceLT, Nat.reduceLeDiff, Nat.reduceMul, Nat.reduceEqDiff, reduceCtorEq, Int.reduceLE, Int.reduceLT, Int.reduceEq, Int.reduceNe, Int.reduceBEq, Int.reduceBNe, Int.reduceAdd, Int.reduceSub, gA hp, sA hp, gL0, sL0, gL1, sL1, List.append_assoc, List.length_append, List.length_set]
  all_goals (
    refine L.intro (α := { x : Nat × List Rex × Nat × Bool // pwaysL s F x.1 x.2.1 x.2.2.1 x.2.2.2 = res ∧ s.size - x.2.2.1 < x.1 ∧ (x.2.2.2 = true ∨ s.size ≤ 40) ∧ x.2.1.length ≤ x.2.2.1 + 1 ∧ x.2.1 ≠ [] })
      (fun x => x.1.1)
      (fun x => mkE 26 [(0, .ptr p 0), (1, I d), (4, .ptr σ.length 0), (5, vK σ.length x.1.2.1)])
      (fun x => σ.set p (pob s x.1.2.2.1 x.1.2.2.2) ++ exK x.1.2.1)
      (fun x J hJ => ?_) ⟨(s.size + 1, [x0], a0, b0), hres, hm, hs0, by simp, by simp⟩ ?_ ?_)
  all_goals try (simp [mkE, vK]; done)
  all_goals try (simp only [exK_cons, List.map_cons, List.map_nil, rv_eq x0, hK0]; done)
  all_goals (
    obtain ⟨⟨n, K, a1, b1⟩, h1, h2, h3, h4, h5⟩ := x
    simp only at h1 h2 h3 h4 h5 hJ ⊢
    rcases n with _ | n
    · omega
    rw [pwaysL] at h1
    cases hgo : sees s a1 b1 124
    · rw [hgo, if_neg Bool.false_ne_true] at h1
      subst h1
      clear hJ h2
      have hn := next_ex (s := s) hp a1 b1 124 h3
      simp only [nextA, hgo, Bool.false_eq_true, if_false] at hn
      simp -implicitDefEqProofs only [mkE, List.foldl_cons, List.foldl_nil, go_sem, List.reduceReplicate, Nat.reduceAdd, Nat.reduceSub, Nat.reduceLT, Nat.reduceLeDiff, Nat.reduceMul, Nat.reduceEqDiff, reduceCtorEq, Int.reduceLE, Int.reduceLT, Int.reduceEq, Int.reduceNe, Int.reduceBEq, Int.reduceBNe, Int.reduceAdd, Int.reduceSub]
      refine CO.intro (hn _) ?_
      simp -implicitDefEqProofs only [go_sem, List.reduceReplicate, Nat.reduceAdd, Nat.reduceSub, Nat.reduceLT, Nat.reduceLeDiff, Nat.reduceMul, Nat.reduceEqDiff, reduceCtorEq, Int.reduceLE, Int.reduceLT, Int.reduceEq, Int.reduceNe, Int.reduceBEq, Int.reduceBNe, Int.reduceAdd, Int.reduceSub]
      rcases K with _ | ⟨y, _ | ⟨z, K⟩⟩
      · exact absurd rfl h5
      · have g3 : (((1 : Nat) : Int) == 1) = true := rfl
        have g4 : ((0 : Int) < ((1 : Nat) : Int)) = True := by simp
        have hbx : ∀ n, Bel n y.rv := fun n => bel_rv n y
        rw [exK_cons, vK_cons, List.map_cons, List.map_nil, show (one 3 [y]) = y from rfl]
        rw [rv_eq y] at hbx ⊢
        rcases rvK_cases y.ks with hK | ⟨l, hK⟩
        all_goals rw [hK] at hbx ⊢
        all_goals simp -implicitDefEqProofs only [go_sem, List.reduceReplicate, Nat.reduceAdd, Nat.reduceSub, Nat.reduceLT, Nat.reduceLeDiff, Nat.reduceMul, Nat.reduceEqDiff, reduceCtorEq, Int.reduceLE, Int.reduceLT, Int.reduceEq, Int.reduceNe, Int.reduceBEq, Int.reduceBNe, Int.reduceAdd, Int.reduceSub, gA hp, sA hp, gL0, sL0, gL1, sL1, List.length_map, g3, g4, Int.toNat_zero]
        all_goals (
          refine Fini.trim2 (ex := [_, _]) ?_ rfl ?_ (hbx _) (hb2 _ _)
          · ((try simp -implicitDefEqProofs only [go_sem, List.reduceReplicate, Nat.reduceAdd, Nat.reduceSub, Nat.reduceLT, Nat.reduceLeDiff, Nat.reduceMul, Nat.reduceEqDiff, reduceCtorEq, Int.reduceLE, Int.reduceLT, Int.reduceEq, Int.reduceNe, Int.reduceBEq, Int.reduceBNe, Int.reduceAdd, Int.reduceSub, resA, allSome, rvA, oneOf, gL0]); first | done | rfl | (rw [rv_one]; rfl) | rw [rv_eq, hK] | (simp only [rv, rvK, rvL]; rw [rv_eq, hK]))
          · simp)
      · rw [exK_cons, vK_cons]
        have g2 : (((K.length + 1 + 1 : Nat) : Int) == 1) = false := by simp; omega
        simp -implicitDefEqProofs only [go_sem, List.reduceReplicate, Nat.reduceAdd, Nat.reduceSub, Nat.reduceLT, Nat.reduceLeDiff, Nat.reduceMul, Nat.reduceEqDiff, reduceCtorEq, Int.reduceLE, Int.reduceLT, Int.reduceEq, Int.reduceNe, Int.reduceBEq, Int.reduceBNe, Int.reduceAdd, Int.reduceSub, gA hp, sA hp, gL0, sL0, gL1, sL1, List.length_map, g2]
        refine Fini.trim2 (ex := [_, _]) ?_ rfl ?_ (bel_rv _ _) (hb2 _ _)
        · ((try simp -implicitDefEqProofs only [go_sem, List.reduceReplicate, Nat.reduceAdd, Nat.reduceSub, Nat.reduceLT, Nat.reduceLeDiff, Nat.reduceMul, Nat.reduceEqDiff, reduceCtorEq, Int.reduceLE, Int.reduceLT, Int.reduceEq, Int.reduceNe, Int.reduceBEq, Int.reduceBNe, Int.reduceAdd, Int.reduceSub, resA, allSome, rvA, oneOf, gL0]); first | done | rfl | (rw [rv_one]; rfl) | rw [rv_eq, hK] | (simp only [rv, rvK, rvL]; rw [rv_eq, hK]))
        · simp
    · rw [hgo, if_pos rfl] at h1
      obtain ⟨ha, hb⟩ := sees_lt hgo
      subst hb
      have hsz : s.size ≤ 40 := by
        rcases h3 with h | h
        · exact absurd h Bool.false_ne_true
        · exact h
      have hea := (hfw (a1 + 1) false).1
      have hJ' := hJ ⟨(n, K ++ [(F (a1 + 1) false).1], (F (a1 + 1) false).2.1, (F (a1 + 1) false).2.2), h1, by simp only; omega, .inr hsz, by simp; omega, by simp⟩ (Nat.lt_succ_self n)
      simp only [exK_snoc, vK_snoc] at hJ'
      clear hJ h1
      have hn := next_ex (s := s) hp a1 false 124 h3
      simp only [nextA, hgo, if_true] at hn
      simp -implicitDefEqProofs only [mkE, List.foldl_cons, List.foldl_nil, go_sem, List.reduceReplicate, Nat.reduceAdd, Nat.reduceSub, Nat.reduceLT, Nat.reduceLeDiff, Nat.reduceMul, Nat.reduceEqDiff, reduceCtorEq, Int.reduceLE, Int.reduceLT, Int.reduceEq, Int.reduceNe, Int.reduceBEq, Int.reduceBNe, Int.reduceAdd, Int.reduceSub]
      refine CO.intro (hn _) ?_
      simp -implicitDefEqProofs only [go_sem, List.reduceReplicate, Nat.reduceAdd, Nat.reduceSub, Nat.reduceLT, Nat.reduceLeDiff, Nat.reduceMul, Nat.reduceEqDiff, reduceCtorEq, Int.reduceLE, Int.reduceLT, Int.reduceEq, Int.reduceNe, Int.reduceBEq, Int.reduceBNe, Int.reduceAdd, Int.reduceSub]
      refine CO.intro (hF.ex hp (a1 + 1) false (.inr hsz) _) ?_
      generalize F (a1 + 1) false = w at hJ' hea ⊢
      obtain ⟨x, a2, b2⟩ := w
      simp only at hJ' hea ⊢
      rw [rv_eq x] at hJ' ⊢
      rcases K with _ | ⟨y, K⟩
      · exact absurd rfl h5
      have g1 : (K.length + 1 + 1 ≤ 2 ^ 32) = True := by simp at h4; simp; omega
      rcases rvK_cases x.ks with hK | ⟨l, hK⟩
      all_goals rw [hK] at hJ' ⊢
      all_goals (
        simp -implicitDefEqProofs only [go_sem, List.reduceReplicate, Nat.reduceAdd, Nat.reduceSub, Nat.reduceLT, Nat.reduceLeDiff, Nat.reduceMul, Nat.reduceEqDiff, reduceCtorEq, Int.reduceLE, Int.reduceLT, Int.reduceEq, Int.reduceNe, Int.reduceBEq, Int.reduceBNe, Int.reduceAdd, Int.reduceSub, exK_cons, vK_cons, gA hp, sA hp, gL0, sL0, gL1, sL1, List.length_map, g1] at hJ' ⊢
        simpa [mkE] using hJ'))
theorem PW_ans : ∀ k, k ≤ 8 → FAns 95 [I ((8 - k : Nat) : Int)] s (PW s k)
  | 0, _ => ways_ans' s _ 8 (way_ans s _ 8 (factor_ans s _ 8 (atom_ans s _ 8 (Nat.le_refl _) (fun h => absurd h (Nat.lt_irrefl _)) (fun a b => ⟨Nat.le_refl _, id⟩)) (fwd_atom s (fun a b => ⟨Nat.le_refl _, id⟩) 8))
      (fwd_factor s (fwd_atom s (fun a b => ⟨Nat.le_refl _, id⟩) 8)) (eats_factor s (eats_atom s (fun a b => ⟨Nat.le_refl _, id⟩) 8)))
      (fwd_way s (fwd_factor s (fwd_atom s (fun a b => ⟨Nat.le_refl _, id⟩) 8)))
  | k + 1, h => by
    have ih := PW_ans k (by omega)
    have hf := fwd_PW s k
    have e : 8 - (k + 1) = 7 - k := by omega
    have e2 : 8 - k = 7 - k + 1 := by omega
    rw [e2] at ih
    rw [e]
    exact ways_ans' s _ (7 - k) (way_ans s _ (7 - k) (factor_ans s _ (7 - k) (atom_ans s _ (7 - k) (by omega) (fun _ => ih) hf) (fwd_atom s hf _))
      (fwd_factor s (fwd_atom s hf _)) (eats_factor s (eats_atom s hf _)))
      (fwd_way s (fwd_factor s (fwd_atom s hf _)))
def pparse : Rex × Bool :=
  let w := PW s 8 0 (decide (40 < s.size))
  if w.2.2 || decide (w.2.1 < s.size) then (.mk 0 0 0 0 0 [], false) else (w.1, true)
theorem parse_ans (σ : St) : Ans Try.prog 53 [Sx s] σ (.tup [(pparse s).1.rv, Bo (pparse s).2]) σ := by
  have hw : ∀ b : Bool, (b = true ∨ s.size ≤ 40) → Ans Try.prog 95 [.ptr (σ.length + 1) 0, I 0] (σ ++ [box0, pob s 0 b]) (PW s 8 0 b).1.rv (σ ++ [box0, pob s (PW s 8 0 b).2.1 (PW s 8 0 b).2.2]) := by
    intro b hs
    have := PW_ans s 8 (Nat.le_refl _) (σ ++ [box0, pob s 0 b]) (σ.length + 1) 0 b (by simp) hs
    have e : ∀ o, (σ ++ [box0, pob s 0 b]).set (σ.length + 1) o = σ ++ [box0, o] := fun o => by rw [List.set_append_right _ _ (by omega)]; simp
    rwa [e, e] at this
  have hs : (decide (40 < s.size)) = true ∨ s.size ≤ 40 := by
    rcases Nat.lt_or_ge 40 s.size with h | h
    · exact .inl (by simpa using h)
    · exact .inr h
  have e40 : decide ((40 : Int) < (s.size : Int)) = decide (40 < s.size) := by rw [Bool.eq_iff_iff]; simp; omega
  have k0 : ∀ (x y : Ob) (ex : St), (σ ++ x :: y :: ex)[σ.length]? = some x := fun x y ex => by rw [List.getElem?_append_right (by simp)]; simp
  have k1 : ∀ (x y : Ob) (ex : St), (σ ++ x :: y :: ex)[σ.length + 1]? = some y := fun x y ex => by rw [List.getElem?_append_right (by simp)]; simp
  have k2 : ∀ (x y z : Ob), (σ ++ [x, y, z])[σ.length + 2]? = some z := fun x y z => by rw [List.getElem?_append_right (by simp)]; simp
  have s0 : ∀ (x z : Ob) (ex : St), (σ ++ x :: ex).set σ.length z = σ ++ z :: ex := fun x z ex => by rw [List.set_append_right _ _ (by simp)]; simp
  refine Ans.of_run' t53 (fun hbel _ => ?_)
  simp -implicitDefEqProofs only [c53, r53, go_sem, List.reduceReplicate, Nat.reduceAdd, Nat.reduceSub, Nat.reduceLT, Nat.reduceLeDiff, Nat.reduceMul, Nat.reduceEqDiff, reduceCtorEq, Int.reduceLE, Int.reduceLT, Int.reduceEq, Int.reduceNe, Int.reduceBEq, Int.reduceBNe, Int.reduceAdd, Int.reduceSub, List.append_assoc, List.length_append, e40]
  refine CO.intro (hw _ hs) ?_
  unfold pparse
  generalize PW s 8 0 (decide (40 < s.size)) = w
  obtain ⟨x, a, b⟩ := w
  simp only
  have eL : decide ((a : Int) < (s.size : Int)) = decide (a < s.size) := by rw [Bool.eq_iff_iff]; simp
  have hbx : ∀ n, Bel n x.rv := fun n => bel_rv n x
  rw [rv_eq x]
  have hrx := rv_eq x
  rcases rvK_cases x.ks with hK | ⟨l, hK⟩
  all_goals (
    rw [hK] at hrx ⊢
    cases b
    · cases hlt : decide (a < s.size)
      · simp -implicitDefEqProofs only [go_sem, List.reduceReplicate, Nat.reduceAdd, Nat.reduceSub, Nat.reduceLT, Nat.reduceLeDiff, Nat.reduceMul, Nat.reduceEqDiff, reduceCtorEq, Int.reduceLE, Int.reduceLT, Int.reduceEq, Int.reduceNe, Int.reduceBEq, Int.reduceBNe, Int.reduceAdd, Int.reduceSub, k0, k1, k2, s0, List.append_assoc, List.length_append, eL, hlt, Bool.or_self, hrx]
        rw [hrx] at hbx
        refine Fini.trim2 (σ' := σ) (ex := [_, _]) ?_ rfl (Nat.le_refl _) ?_ hbel
        · simp -implicitDefEqProofs only [go_sem, List.reduceReplicate, Nat.reduceAdd, Nat.reduceSub, Nat.reduceLT, Nat.reduceLeDiff, Nat.reduceMul, Nat.reduceEqDiff, reduceCtorEq, Int.reduceLE, Int.reduceLT, Int.reduceEq, Int.reduceNe, Int.reduceBEq, Int.reduceBNe, Int.reduceAdd, Int.reduceSub, resA, allSome, rvA, oneOf, k0]
        · exact bel_tup2 (hbx _) _
      · simp -implicitDefEqProofs only [go_sem, List.reduceReplicate, Nat.reduceAdd, Nat.reduceSub, Nat.reduceLT, Nat.reduceLeDiff, Nat.reduceMul, Nat.reduceEqDiff, reduceCtorEq, Int.reduceLE, Int.reduceLT, Int.reduceEq, Int.reduceNe, Int.reduceBEq, Int.reduceBNe, Int.reduceAdd, Int.reduceSub, k0, k1, k2, s0, List.append_assoc, List.length_append, eL, hlt, Bool.or_true]
        refine Fini.trim2 (σ' := σ) (ex := [_, _]) ?_ rfl (Nat.le_refl _) ?_ hbel
        · simp -implicitDefEqProofs only [go_sem, List.reduceReplicate, Nat.reduceAdd, Nat.reduceSub, Nat.reduceLT, Nat.reduceLeDiff, Nat.reduceMul, Nat.reduceEqDiff, reduceCtorEq, Int.reduceLE, Int.reduceLT, Int.reduceEq, Int.reduceNe, Int.reduceBEq, Int.reduceBNe, Int.reduceAdd, Int.reduceSub, resA, allSome, rvA, oneOf, k0]; rfl
        · exact bel_tup2 (bel_rv _ (.mk 0 0 0 0 0 [])) _
    · simp -implicitDefEqProofs only [go_sem, List.reduceReplicate, Nat.reduceAdd, Nat.reduceSub, Nat.reduceLT, Nat.reduceLeDiff, Nat.reduceMul, Nat.reduceEqDiff, reduceCtorEq, Int.reduceLE, Int.reduceLT, Int.reduceEq, Int.reduceNe, Int.reduceBEq, Int.reduceBNe, Int.reduceAdd, Int.reduceSub, k0, k1, k2, s0, List.append_assoc, List.length_append, Bool.true_or]
      refine Fini.trim2 (σ' := σ) (ex := [_, _]) ?_ rfl (Nat.le_refl _) ?_ hbel
      · simp -implicitDefEqProofs only [go_sem, List.reduceReplicate, Nat.reduceAdd, Nat.reduceSub, Nat.reduceLT, Nat.reduceLeDiff, Nat.reduceMul, Nat.reduceEqDiff, reduceCtorEq, Int.reduceLE, Int.reduceLT, Int.reduceEq, Int.reduceNe, Int.reduceBEq, Int.reduceBNe, Int.reduceAdd, Int.reduceSub, resA, allSome, rvA, oneOf, k0]; rfl
      · exact bel_tup2 (bel_rv _ (.mk 0 0 0 0 0 [])) _)
end
end Go.Proofs.Ytoadgajhkhejiaa
namespace Go.Proofs.Ytoadgajhkhejiaa
open Go Go.Ab
set_option maxRecDepth 100000
open Rex
theorem sub_ks {M : Nat → Prop} {R : Ref → Value → Prop} {w : World} : ∀ (n : Nat) (x : Rex), SizeOf.sizeOf x ≤ n → ∀ v, Rep M R w (rvK x.ks) v → Rep M R w (.sl 6 (x.ks.map av)) v := by
  intro n
  induction n with
  | zero => intro x h; cases x; simp at h
  | succ n ih =>
    intro x hx v h
    have hlt : ∀ y ∈ x.ks, SizeOf.sizeOf y < SizeOf.sizeOf x := fun y hy => lt_of_mem hy
    generalize x.ks = L at h hlt
    rcases L with _ | ⟨y, L⟩
    · cases h; exact .sl0 6 _ _
    · rw [rvK_cons] at h
      generalize hM : y :: L = M' at h hlt
      have hget : ∀ i (hi : i < (M'.map rv).length), (M'.map rv)[i].cells = [I (M'[i]'(by simpa using hi)).op, U (M'[i]'(by simpa using hi)).a, U (M'[i]'(by simpa using hi)).b, U (M'[i]'(by simpa using hi)).c, U (M'[i]'(by simpa using hi)).d, rvK (M'[i]'(by simpa using hi)).ks] := fun i hi => by
        rw [List.getElem_map, rv_cells]
      have hget2 : ∀ i (hi : i < (M'.map av).length), (M'.map av)[i].cells = [I (M'[i]'(by simpa using hi)).op, U (M'[i]'(by simpa using hi)).a, U (M'[i]'(by simpa using hi)).b, U (M'[i]'(by simpa using hi)).c, U (M'[i]'(by simpa using hi)).d, .sl 6 ((M'[i]'(by simpa using hi)).ks.map av)] := fun i hi => by
        rw [List.getElem_map, av_eq]; rfl
      generalize hN : M'.map rv = N at h
      cases h with
      | sl0 => 
        have : M' = [] := by simpa using hN
        rw [this] at hM; cases hM
      | sl _ _ b o cap f hcap hc hr =>
        subst hN
        have e : (M'.map rv).length = (M'.map av).length := by simp
        rw [e]
        refine Rep.sl 6 (M'.map av) b o cap f (by rw [← e]; exact hcap) ?_ ?_
        · intro i j hi hj
          have hi' : i < (M'.map rv).length := by rw [e]; exact hi
          refine hc i j hi' ?_
          rw [hget2 i hi] at hj
          rw [hget i hi']
          exact hj
        · intro i j hi hj
          have hi' : i < (M'.map rv).length := by rw [e]; exact hi
          have hj6 : j < 6 := by rw [hget2 i hi] at hj; exact hj
          have hj' : j < ((M'.map rv)[i].cells).length := by rw [hget i hi']; exact hj6
          have h2 := hr i j hi' hj'
          simp only [hget i hi'] at h2
          simp only [hget2 i hi]
          have hmem : M'[i]'(by simpa using hi) ∈ M' := List.getElem_mem _
          have ih2 := ih (M'[i]'(by simpa using hi)) (by have := hlt _ hmem; omega)
          have h6 : j = 0 ∨ j = 1 ∨ j = 2 ∨ j = 3 ∨ j = 4 ∨ j = 5 := by omega
          rcases h6 with rfl | rfl | rfl | rfl | rfl | rfl
          · exact h2
          · exact h2
          · exact h2
          · exact h2
          · exact h2
          · exact ih2 _ h2
theorem sub_rv {M : Nat → Prop} {R : Ref → Value → Prop} {w : World} (x : Rex) (v : Value) (h : Rep M R w x.rv v) : Rep M R w x.av v := by
  have hk := sub_ks (M := M) (R := R) (w := w) (SizeOf.sizeOf x) x (Nat.le_refl _)
  rw [rv_eq] at h
  rw [av_eq]
  cases h with
  | agg _ vs hl hr =>
    refine .agg _ vs hl fun j hj hj' => ?_
    have h2 := hr j hj hj'
    have hj6 : j < 6 := hj
    have h6 : j = 0 ∨ j = 1 ∨ j = 2 ∨ j = 3 ∨ j = 4 ∨ j = 5 := by omega
    rcases h6 with rfl | rfl | rfl | rfl | rfl | rfl
    · exact h2
    · exact h2
    · exact h2
    · exact h2
    · exact h2
    · exact hk _ h2
theorem Ans.sub {P : Program} {f : FuncId} {x : Rex} {σ σ' : St} {r : AV} (h : Ans P f [x.av] σ r σ') : Ans P f [x.rv] σ r σ' := by
  intro M ν w vs hg hr
  refine h M ν w vs hg ⟨hr.1, fun j hj hj' => ?_⟩
  have h2 := hr.2 j hj hj'
  have : j = 0 := by simp at hj; exact hj
  subst this
  exact sub_rv x _ h2
section
variable (s : ByteArray)
end
end Go.Proofs.Ytoadgajhkhejiaa
namespace Go.Proofs.Ytoadgajhkhejiaa
open Go Go.Ab
set_option maxRecDepth 100000
def letterB (c : Nat) : Bool := decide (97 ≤ c) && decide (c ≤ 122) || decide (65 ≤ c) && decide (c ≤ 90) || c == 95
def digitB (c : Nat) : Bool := decide (48 ≤ c) && decide (c ≤ 57)
def nameB (s : ByteArray) : Bool := decide (1 ≤ s.size) && decide (s.size ≤ 12) && letterB (byteAt s 0) && (List.range s.size).all fun i => letterB (byteAt s i) || digitB (byteAt s i)
theorem int_le (a b : Nat) : decide ((a : Int) ≤ (b : Int)) = decide (a ≤ b) := by
  rw [Bool.eq_iff_iff]; simp only [decide_eq_true_eq]; omega
theorem letter_ans (σ : St) (c : Nat) : Ans Try.prog 94 [.pl (.int .u8 c)] σ (Bo (letterB c)) σ := by
  have e1 : decide ((97 : Int) ≤ c) = decide (97 ≤ c) := int_le 97 c
  have e2 : decide ((c : Int) ≤ 122) = decide (c ≤ 122) := int_le c 122
  have e3 : decide ((65 : Int) ≤ c) = decide (65 ≤ c) := int_le 65 c
  have e4 : decide ((c : Int) ≤ 90) = decide (c ≤ 90) := int_le c 90
  have e5 : ((c : Int) == 95) = (c == 95) := beq_cast c 95
  have hg : (if (if decide (97 ≤ c) then decide (c ≤ 122) else false) then true else if (if decide (65 ≤ c) then decide (c ≤ 90) else false) then true else (c == 95)) = letterB c := by
    unfold letterB
    cases decide (97 ≤ c) <;> cases decide (c ≤ 122) <;> cases decide (65 ≤ c) <;> cases decide (c ≤ 90) <;> cases (c == 95) <;> rfl
  rw [← hg]
  refine Ans.of_run t94 ?_
  cases h1 : decide (97 ≤ c) <;> cases h2 : decide (c ≤ 122) <;> cases h3 : decide (65 ≤ c) <;> cases h4 : decide (c ≤ 90) <;> rw [h1] at e1 <;> rw [h2] at e2 <;> rw [h3] at e3 <;> rw [h4] at e4
  all_goals (simp -implicitDefEqProofs only [c94, r94, go_sem, List.reduceReplicate, Nat.reduceAdd, Nat.reduceSub, Nat.reduceLT, Nat.reduceLeDiff, Nat.reduceMul, Nat.reduceEqDiff, reduceCtorEq, Int.reduceLE, Int.reduceLT, Int.reduceEq, Int.reduceNe, Int.reduceBEq, Int.reduceBNe, Int.reduceAdd, Int.reduceSub, e1, e2, e3, e4, e5]; exact Fini.ret rfl)
theorem decN (a b : Nat) : decide ((a : Int) < (b : Int)) = decide (a < b) := by
  rw [Bool.eq_iff_iff]; simp only [decide_eq_true_eq]; omega
theorem name_ans' (σ : St) (s : ByteArray) : Ans Try.prog 51 [Sx s] σ (Bo (nameB s)) σ := by
  refine Ans.of_run t51 ?_
  have d1 : decide ((s.size : Int) < 1) = decide (s.size < 1) := decN s.size 1
  have d2 : decide ((12 : Int) < s.size) = decide (12 < s.size) := decN 12 s.size
  by_cases h1 : s.size < 1
  · have e1 : decide (s.size < 1) = true := by simpa using h1
    rw [e1] at d1
    simp -implicitDefEqProofs only [c51, r51, go_sem, List.reduceReplicate, Nat.reduceAdd, Nat.reduceSub, Nat.reduceLT, Nat.reduceLeDiff, Nat.reduceMul, Nat.reduceEqDiff, reduceCtorEq, Int.reduceLE, Int.reduceLT, Int.reduceEq, Int.reduceNe, Int.reduceBEq, Int.reduceBNe, Int.reduceAdd, Int.reduceSub, d1]
    refine Fini.ret' rfl (bo_congr ?_)
    rw [nameB, show decide (1 ≤ s.size) = false from decide_eq_false (by omega)]; rfl
  have e1 : decide (s.size < 1) = false := by simpa using h1
  rw [e1] at d1
  by_cases h2 : 12 < s.size
  · have e2 : decide (12 < s.size) = true := by simpa using h2
    rw [e2] at d2
    simp -implicitDefEqProofs only [c51, r51, go_sem, List.reduceReplicate, Nat.reduceAdd, Nat.reduceSub, Nat.reduceLT, Nat.reduceLeDiff, Nat.reduceMul, Nat.reduceEqDiff, reduceCtorEq, Int.reduceLE, Int.reduceLT, Int.reduceEq, Int.reduceNe, Int.reduceBEq, Int.reduceBNe, Int.reduceAdd, Int.reduceSub, d1, d2]
    refine Fini.ret' rfl (bo_congr ?_)
    rw [nameB, show decide (s.size ≤ 12) = false from decide_eq_false (by omega), Bool.and_false]; rfl
  have e2 : decide (12 < s.size) = false := by simpa using h2
  rw [e2] at d2
  have z1 : ((0 : Int) < s.size) = True := by simp; omega
  have n1 : decide (1 ≤ s.size) = true := by simp; omega
  have n2 : decide (s.size ≤ 12) = true := by simp; omega
  simp -implicitDefEqProofs only [c51, r51, go_sem, List.reduceReplicate, Nat.reduceAdd, Nat.reduceSub, Nat.reduceLT, Nat.reduceLeDiff, Nat.reduceMul, Nat.reduceEqDiff, reduceCtorEq, Int.reduceLE, Int.reduceLT, Int.reduceEq, Int.reduceNe, Int.reduceBEq, Int.reduceBNe, Int.reduceAdd, Int.reduceSub, d1, d2, z1, byteAt_def, Int.toNat_zero]
  refine CO.intro (letter_ans _ _) ?_
  cases hl : letterB (byteAt s 0) with
  | false =>
    simp -implicitDefEqProofs only [go_sem, List.reduceReplicate, Nat.reduceAdd, Nat.reduceSub, Nat.reduceLT, Nat.reduceLeDiff, Nat.reduceMul, Nat.reduceEqDiff, reduceCtorEq, Int.reduceLE, Int.reduceLT, Int.reduceEq, Int.reduceNe, Int.reduceBEq, Int.reduceBNe, Int.reduceAdd, Int.reduceSub, Int.toNat_zero, hl]
    refine Fini.ret' rfl (bo_congr ?_)
    rw [nameB, hl, Bool.and_false]; rfl
  | true =>
  simp -implicitDefEqProofs only [go_sem, List.reduceReplicate, Nat.reduceAdd, Nat.reduceSub, Nat.reduceLT, Nat.reduceLeDiff, Nat.reduceMul, Nat.reduceEqDiff, reduceCtorEq, Int.reduceLE, Int.reduceLT, Int.reduceEq, Int.reduceNe, Int.reduceBEq, Int.reduceBNe, Int.reduceAdd, Int.reduceSub, Int.toNat_zero, hl]
  refine Go.Ab.L.scan s.size (fun i => letterB (byteAt s i) || digitB (byteAt s i)) (fun i => mkE 41 [(0, Sx s), (19, I s.size), (20, I i)]) (fun _ => σ) ?_ ?_ ?_ rfl
  · intro i hi hp J hJ
    have hlt : ((i : Int) < s.size) = True := by simp; omega
    have hin := wrap_nat (n := i) (by omega)
    have f1 : decide ((byteAt s i : Int) < 48) = decide (byteAt s i < 48) := decN _ 48
    have f2 : decide ((57 : Int) < byteAt s i) = decide (57 < byteAt s i) := decN 57 _
    simp -implicitDefEqProofs only [mkE, List.foldl_cons, List.foldl_nil, go_sem, List.reduceReplicate, Nat.reduceAdd, Nat.reduceSub, Nat.reduceLT, Nat.reduceLeDiff, Nat.reduceMul, Nat.reduceEqDiff, reduceCtorEq, Int.reduceLE, Int.reduceLT, Int.reduceEq, Int.reduceNe, Int.reduceBEq, Int.reduceBNe, Int.reduceAdd, Int.reduceSub, hlt, byteAt_def]
    refine CO.intro (letter_ans _ _) ?_
    have hd : digitB (byteAt s i) = !(decide (byteAt s i < 48) || decide (57 < byteAt s i)) := by
      unfold digitB
      rw [Bool.eq_iff_iff]; simp
    rw [hd] at hJ
    cases h3 : letterB (byteAt s i) with
    | true =>
      rw [h3] at hJ
      simp -implicitDefEqProofs only [go_sem, List.reduceReplicate, Nat.reduceAdd, Nat.reduceSub, Nat.reduceLT, Nat.reduceLeDiff, Nat.reduceMul, Nat.reduceEqDiff, reduceCtorEq, Int.reduceLE, Int.reduceLT, Int.reduceEq, Int.reduceNe, Int.reduceBEq, Int.reduceBNe, Int.reduceAdd, Int.reduceSub, hin]
      exact hJ rfl
    | false =>
      rw [h3] at hJ
      simp -implicitDefEqProofs only [go_sem, List.reduceReplicate, Nat.reduceAdd, Nat.reduceSub, Nat.reduceLT, Nat.reduceLeDiff, Nat.reduceMul, Nat.reduceEqDiff, reduceCtorEq, Int.reduceLE, Int.reduceLT, Int.reduceEq, Int.reduceNe, Int.reduceBEq, Int.reduceBNe, Int.reduceAdd, Int.reduceSub, hlt, byteAt_def]
      cases h4 : decide (byteAt s i < 48) <;> rw [h4] at f1 hJ
      · cases h5 : decide (57 < byteAt s i) <;> rw [h5] at f2 hJ
        · simp -implicitDefEqProofs only [go_sem, List.reduceReplicate, Nat.reduceAdd, Nat.reduceSub, Nat.reduceLT, Nat.reduceLeDiff, Nat.reduceMul, Nat.reduceEqDiff, reduceCtorEq, Int.reduceLE, Int.reduceLT, Int.reduceEq, Int.reduceNe, Int.reduceBEq, Int.reduceBNe, Int.reduceAdd, Int.reduceSub, f1, f2, hlt, byteAt_def, hin]
          exact hJ rfl
        · simp -implicitDefEqProofs only [go_sem, List.reduceReplicate, Nat.reduceAdd, Nat.reduceSub, Nat.reduceLT, Nat.reduceLeDiff, Nat.reduceMul, Nat.reduceEqDiff, reduceCtorEq, Int.reduceLE, Int.reduceLT, Int.reduceEq, Int.reduceNe, Int.reduceBEq, Int.reduceBNe, Int.reduceAdd, Int.reduceSub, f1, f2, hlt, byteAt_def]
          refine Fini.ret' rfl (bo_congr ?_)
          rw [nameB, List.all_eq_false.2 ⟨i, List.mem_range.2 hi, by simp [h3, hd, h4, h5]⟩, Bool.and_false]
      · simp -implicitDefEqProofs only [go_sem, List.reduceReplicate, Nat.reduceAdd, Nat.reduceSub, Nat.reduceLT, Nat.reduceLeDiff, Nat.reduceMul, Nat.reduceEqDiff, reduceCtorEq, Int.reduceLE, Int.reduceLT, Int.reduceEq, Int.reduceNe, Int.reduceBEq, Int.reduceBNe, Int.reduceAdd, Int.reduceSub, f1, hlt, byteAt_def]
        refine Fini.ret' rfl (bo_congr ?_)
        rw [nameB, List.all_eq_false.2 ⟨i, List.mem_range.2 hi, by simp [h3, hd, h4]⟩, Bool.and_false]
  · intro hp J
    have hlt : ((s.size : Int) < s.size) = False := by simp
    simp -implicitDefEqProofs only [mkE, List.foldl_cons, List.foldl_nil, go_sem, List.reduceReplicate, Nat.reduceAdd, Nat.reduceSub, Nat.reduceLT, Nat.reduceLeDiff, Nat.reduceMul, Nat.reduceEqDiff, reduceCtorEq, Int.reduceLE, Int.reduceLT, Int.reduceEq, Int.reduceNe, Int.reduceBEq, Int.reduceBNe, Int.reduceAdd, Int.reduceSub, hlt]
    refine Fini.ret' rfl (bo_congr ?_)
    rw [nameB, n1, n2, hl, List.all_eq_true.2 fun i hi => hp i (List.mem_range.1 hi)]; rfl
  · rfl
end Go.Proofs.Ytoadgajhkhejiaa
namespace Go.Proofs.Ytoadgajhkhejiaa
open Go Go.Ab
set_option maxRecDepth 100000
def likeB (k : Int) : Bool := k == 3 || k == 4
def isB (k : Int) (nm v : ByteArray) : Bool := nameB nm && (if likeB k then (pparse v).2 else (k == 1 || k == 2) && decide (v.size ≤ 24))
theorem like_any (σ : St) (k : Int) (nm v : ByteArray) : Ans Try.prog 52 [mat k nm v] σ (Bo (likeB k)) σ := by
  refine Ans.of_run t52 ?_
  simp -implicitDefEqProofs only [c52, r52, go_sem, List.reduceReplicate, Nat.reduceAdd, Nat.reduceSub, Nat.reduceLT, Nat.reduceLeDiff, Nat.reduceMul, Nat.reduceEqDiff, reduceCtorEq, Int.reduceLE, Int.reduceLT, Int.reduceEq, Int.reduceNe, Int.reduceBEq, Int.reduceBNe, Int.reduceAdd, Int.reduceSub]
  unfold likeB
  cases h : k == 3
  · simp -implicitDefEqProofs only [go_sem, List.reduceReplicate, Nat.reduceAdd, Nat.reduceSub, Nat.reduceLT, Nat.reduceLeDiff, Nat.reduceMul, Nat.reduceEqDiff, reduceCtorEq, Int.reduceLE, Int.reduceLT, Int.reduceEq, Int.reduceNe, Int.reduceBEq, Int.reduceBNe, Int.reduceAdd, Int.reduceSub]
    exact Fini.ret rfl
  · simp -implicitDefEqProofs only [go_sem, List.reduceReplicate, Nat.reduceAdd, Nat.reduceSub, Nat.reduceLT, Nat.reduceLeDiff, Nat.reduceMul, Nat.reduceEqDiff, reduceCtorEq, Int.reduceLE, Int.reduceLT, Int.reduceEq, Int.reduceNe, Int.reduceBEq, Int.reduceBNe, Int.reduceAdd, Int.reduceSub]
    exact Fini.ret rfl
theorem is_any (σ : St) (k : Int) (nm v : ByteArray) : Ans Try.prog 16 [mat k nm v] σ (Bo (isB k nm v)) σ := by
  refine Ans.of_run t16 ?_
  unfold isB
  simp -implicitDefEqProofs only [c16, r16, go_sem, List.reduceReplicate, Nat.reduceAdd, Nat.reduceSub, Nat.reduceLT, Nat.reduceLeDiff, Nat.reduceMul, Nat.reduceEqDiff, reduceCtorEq, Int.reduceLE, Int.reduceLT, Int.reduceEq, Int.reduceNe, Int.reduceBEq, Int.reduceBNe, Int.reduceAdd, Int.reduceSub]
  refine CO.intro (name_ans' σ nm) ?_
  cases hn : nameB nm with
  | false =>
    simp -implicitDefEqProofs only [go_sem, List.reduceReplicate, Nat.reduceAdd, Nat.reduceSub, Nat.reduceLT, Nat.reduceLeDiff, Nat.reduceMul, Nat.reduceEqDiff, reduceCtorEq, Int.reduceLE, Int.reduceLT, Int.reduceEq, Int.reduceNe, Int.reduceBEq, Int.reduceBNe, Int.reduceAdd, Int.reduceSub]
    exact Fini.ret rfl
  | true =>
  simp -implicitDefEqProofs only [go_sem, List.reduceReplicate, Nat.reduceAdd, Nat.reduceSub, Nat.reduceLT, Nat.reduceLeDiff, Nat.reduceMul, Nat.reduceEqDiff, reduceCtorEq, Int.reduceLE, Int.reduceLT, Int.reduceEq, Int.reduceNe, Int.reduceBEq, Int.reduceBNe, Int.reduceAdd, Int.reduceSub]
  refine CO.intro (like_any σ k nm v) ?_
  cases hk : likeB k with
  | true =>
    simp -implicitDefEqProofs only [go_sem, List.reduceReplicate, Nat.reduceAdd, Nat.reduceSub, Nat.reduceLT, Nat.reduceLeDiff, Nat.reduceMul, Nat.reduceEqDiff, reduceCtorEq, Int.reduceLE, Int.reduceLT, Int.reduceEq, Int.reduceNe, Int.reduceBEq, Int.reduceBNe, Int.reduceAdd, Int.reduceSub]
    refine CO.intro (parse_ans v σ) ?_
    have hrv := Rex.rv_eq (pparse v).1
    generalize (pparse v).1 = x at hrv ⊢
    generalize (pparse v).2 = b
    rw [hrv]
    rcases Rex.rvK_cases x.ks with e | ⟨l, e⟩ <;> rw [e]
    all_goals (simp -implicitDefEqProofs only [go_sem, List.reduceReplicate, Nat.reduceAdd, Nat.reduceSub, Nat.reduceLT, Nat.reduceLeDiff, Nat.reduceMul, Nat.reduceEqDiff, reduceCtorEq, Int.reduceLE, Int.reduceLT, Int.reduceEq, Int.reduceNe, Int.reduceBEq, Int.reduceBNe, Int.reduceAdd, Int.reduceSub]; exact Fini.ret rfl)
  | false =>
    have d : decide ((v.size : Int) ≤ 24) = decide (v.size ≤ 24) := int_le v.size 24
    simp -implicitDefEqProofs only [go_sem, List.reduceReplicate, Nat.reduceAdd, Nat.reduceSub, Nat.reduceLT, Nat.reduceLeDiff, Nat.reduceMul, Nat.reduceEqDiff, reduceCtorEq, Int.reduceLE, Int.reduceLT, Int.reduceEq, Int.reduceNe, Int.reduceBEq, Int.reduceBNe, Int.reduceAdd, Int.reduceSub]
    cases h1 : k == 1 with
    | true =>
      simp -implicitDefEqProofs only [go_sem, List.reduceReplicate, Nat.reduceAdd, Nat.reduceSub, Nat.reduceLT, Nat.reduceLeDiff, Nat.reduceMul, Nat.reduceEqDiff, reduceCtorEq, Int.reduceLE, Int.reduceLT, Int.reduceEq, Int.reduceNe, Int.reduceBEq, Int.reduceBNe, Int.reduceAdd, Int.reduceSub, d]
      exact Fini.ret rfl
    | false =>
      simp -implicitDefEqProofs only [go_sem, List.reduceReplicate, Nat.reduceAdd, Nat.reduceSub, Nat.reduceLT, Nat.reduceLeDiff, Nat.reduceMul, Nat.reduceEqDiff, reduceCtorEq, Int.reduceLE, Int.reduceLT, Int.reduceEq, Int.reduceNe, Int.reduceBEq, Int.reduceBNe, Int.reduceAdd, Int.reduceSub]
      cases h2 : k == 2 with
      | true =>
        simp -implicitDefEqProofs only [go_sem, List.reduceReplicate, Nat.reduceAdd, Nat.reduceSub, Nat.reduceLT, Nat.reduceLeDiff, Nat.reduceMul, Nat.reduceEqDiff, reduceCtorEq, Int.reduceLE, Int.reduceLT, Int.reduceEq, Int.reduceNe, Int.reduceBEq, Int.reduceBNe, Int.reduceAdd, Int.reduceSub, d]
        exact Fini.ret rfl
      | false =>
        simp -implicitDefEqProofs only [go_sem, List.reduceReplicate, Nat.reduceAdd, Nat.reduceSub, Nat.reduceLT, Nat.reduceLeDiff, Nat.reduceMul, Nat.reduceEqDiff, reduceCtorEq, Int.reduceLE, Int.reduceLT, Int.reduceEq, Int.reduceNe, Int.reduceBEq, Int.reduceBNe, Int.reduceAdd, Int.reduceSub]
        exact Fini.ret rfl
end Go.Proofs.Ytoadgajhkhejiaa
namespace Go.Proofs.Ytoadgajhkhejiaa
open Go Go.Ab
set_option maxRecDepth 100000
abbrev Mtr := Int × ByteArray × ByteArray
def mv3 (x : Mtr) : AV := mat x.1 x.2.1 x.2.2
def mvs3 (L : List Mtr) : List AV := L.map mv3
def labP (x : Lab) : Nat × Nat := (x.1.size, x.2.size)
def matP (x : Mtr) : Nat × Nat := (x.2.1.size, x.2.2.size)
def weighL : List (Nat × Nat) → Nat → Nat
  | [], n => min n 301
  | (a, b) :: l, n => if n ≤ 300 then if 300 < a ∨ 300 < b then 301 else weighL l (n + 1 + a + b) else 301
theorem weighL_len : ∀ (l : List (Nat × Nat)) (n : Nat), weighL l n ≤ 300 → n + l.length ≤ 300 ∧ ∀ x ∈ l, x.1 ≤ 300 ∧ x.2 ≤ 300
  | [], n, h => by
    simp only [weighL] at h
    refine ⟨by simp; omega, by simp⟩
  | (a, b) :: l, n, h => by
    simp only [weighL] at h
    split at h
    · split at h
      · omega
      · have := weighL_len l _ h
        refine ⟨by simp; omega, fun x hx => ?_⟩
        rcases List.mem_cons.1 hx with rfl | hx
        · simp only; omega
        · exact this.2 x hx
    · omega
theorem weigh_labs_ans (σ : St) (L : List Lab) : Ans Try.prog 47 [.sl 2 (lvs L), I 300] σ (I (weighL (L.map labP) 0 : Nat)) σ := by
  refine Ans.of_run t47 ?_
  have hlen : ((lvs L)).length = L.length := by simp [lvs]
  simp -implicitDefEqProofs only [c47, r47, go_sem, List.reduceReplicate, Nat.reduceAdd, Nat.reduceSub, Nat.reduceLT, Nat.reduceLeDiff, Nat.reduceMul, Nat.reduceEqDiff, reduceCtorEq, Int.reduceLE, Int.reduceLT, Int.reduceEq, Int.reduceNe, Int.reduceBEq, Int.reduceBNe, Int.reduceAdd, Int.reduceSub]
  generalize hres : weighL (L.map labP) 0 = res
  refine Go.Ab.L.intro (α := { x : Nat × Nat // x.1 ≤ L.length ∧ weighL ((L.drop x.1).map labP) x.2 = res ∧ x.2 ≤ 1000 ∧ x.1 ≤ x.2 })
    (fun x => L.length - x.1.1)
    (fun x => mkE 58 [(0, .sl 2 (lvs L)), (1, I 300), (5, I x.1.2), (6, I x.1.1)])
    (fun x => σ)
    (fun x J hJ => ?_) ⟨(0, 0), Nat.zero_le _, hres, by omega, Nat.le_refl _⟩ ?_ rfl
  · obtain ⟨⟨i, n⟩, h1, h2, h3, h4⟩ := x
    simp only at h1 h2 h3 hJ ⊢
    have d2 : decide ((n : Int) ≤ 300) = decide (n ≤ 300) := int_le n 300
    by_cases hi : i < L.length
    · have d1 : decide ((i : Int) < L.length) = true := by simp; omega
      have d1' : ((i : Int) < L.length) = True := by simp; omega
      have hget : ((lvs L))[i]? = some (lv L[i]) := by simp [lvs, hi]
      rw [List.drop_eq_getElem_cons hi, List.map_cons] at h2
      have hJ' := hJ
      generalize L[i] = y at h2 hget
      obtain ⟨nm, v⟩ := y
      simp only [lv] at hget
      simp only [labP] at h2
      rw [weighL] at h2
      by_cases hn : n ≤ 300
      · rw [if_pos hn] at h2
        have e2 : decide (n ≤ 300) = true := by simpa using hn
        rw [e2] at d2
        have d3 : decide ((300 : Int) < nm.size) = decide (300 < nm.size) := decN 300 _
        have d4 : decide ((300 : Int) < v.size) = decide (300 < v.size) := decN 300 _
        have w0 : IntKind.i64.wrap (300 + 1) = 301 := by decide
        by_cases ha : 300 < nm.size
        · rw [if_pos (.inl ha)] at h2
          rw [decide_eq_true ha] at d3
          simp -implicitDefEqProofs only [mkE, List.foldl_cons, List.foldl_nil, go_sem, List.reduceReplicate, Nat.reduceAdd, Nat.reduceSub, Nat.reduceLT, Nat.reduceLeDiff, Nat.reduceMul, Nat.reduceEqDiff, reduceCtorEq, Int.reduceLE, Int.reduceLT, Int.reduceEq, Int.reduceNe, Int.reduceBEq, Int.reduceBNe, Int.reduceAdd, Int.reduceSub, hlen, d1, d1', d2, d3, hget, w0]
          subst h2
          exact Fini.ret rfl
        · rw [decide_eq_false ha] at d3
          by_cases hb : 300 < v.size
          · rw [if_pos (.inr hb)] at h2
            rw [decide_eq_true hb] at d4
            simp -implicitDefEqProofs only [mkE, List.foldl_cons, List.foldl_nil, go_sem, List.reduceReplicate, Nat.reduceAdd, Nat.reduceSub, Nat.reduceLT, Nat.reduceLeDiff, Nat.reduceMul, Nat.reduceEqDiff, reduceCtorEq, Int.reduceLE, Int.reduceLT, Int.reduceEq, Int.reduceNe, Int.reduceBEq, Int.reduceBNe, Int.reduceAdd, Int.reduceSub, hlen, d1, d1', d2, d3, d4, hget, w0]
            subst h2
            exact Fini.ret rfl
          · rw [if_neg (by omega)] at h2
            rw [decide_eq_false hb] at d4
            have a1 : IntKind.i64.wrap ((n : Int) + 1) = ((n + 1 : Nat) : Int) := wrap_nat (by omega)
            have a2 : IntKind.i64.wrap (((n + 1 : Nat) : Int) + (nm.size : Nat)) = ((n + 1 + nm.size : Nat) : Int) := by rw [wrapN (by omega) (by omega)]; omega
            have a3 : IntKind.i64.wrap (((n + 1 + nm.size : Nat) : Int) + (v.size : Nat)) = ((n + 1 + nm.size + v.size : Nat) : Int) := by rw [wrapN (by omega) (by omega)]; omega
            have a4 : IntKind.i64.wrap ((i : Int) + 1) = ((i + 1 : Nat) : Int) := wrap_nat (by omega)
            simp -implicitDefEqProofs only [mkE, List.foldl_cons, List.foldl_nil, go_sem, List.reduceReplicate, Nat.reduceAdd, Nat.reduceSub, Nat.reduceLT, Nat.reduceLeDiff, Nat.reduceMul, Nat.reduceEqDiff, reduceCtorEq, Int.reduceLE, Int.reduceLT, Int.reduceEq, Int.reduceNe, Int.reduceBEq, Int.reduceBNe, Int.reduceAdd, Int.reduceSub, hlen, d1, d1', d2, d3, d4, hget, a1, a2, a3, a4]
            exact hJ' ⟨(i + 1, n + 1 + nm.size + v.size), by omega, h2, by omega, by simp only; omega⟩ (by simp only; omega)
      · rw [if_neg hn] at h2
        rw [decide_eq_false hn] at d2
        have w0 : IntKind.i64.wrap (300 + 1) = 301 := by decide
        simp -implicitDefEqProofs only [mkE, List.foldl_cons, List.foldl_nil, go_sem, List.reduceReplicate, Nat.reduceAdd, Nat.reduceSub, Nat.reduceLT, Nat.reduceLeDiff, Nat.reduceMul, Nat.reduceEqDiff, reduceCtorEq, Int.reduceLE, Int.reduceLT, Int.reduceEq, Int.reduceNe, Int.reduceBEq, Int.reduceBNe, Int.reduceAdd, Int.reduceSub, hlen, d1, d1', d2, hget, w0]
        refine Fini.ret' rfl (int_congr ?_)
        rw [show IntKind.i64.wrap 301 = 301 by decide]
        split <;> omega
    · have d1 : decide ((i : Int) < L.length) = false := by simp; omega
      have d1' : ((i : Int) < L.length) = False := by simp; omega
      have w0 : IntKind.i64.wrap (300 + 1) = 301 := by decide
      simp -implicitDefEqProofs only [mkE, List.foldl_cons, List.foldl_nil, go_sem, List.reduceReplicate, Nat.reduceAdd, Nat.reduceSub, Nat.reduceLT, Nat.reduceLeDiff, Nat.reduceMul, Nat.reduceEqDiff, reduceCtorEq, Int.reduceLE, Int.reduceLT, Int.reduceEq, Int.reduceNe, Int.reduceBEq, Int.reduceBNe, Int.reduceAdd, Int.reduceSub, hlen, d1, d1', w0]
      refine Fini.ret' rfl (int_congr ?_)
      have he : L.drop i = [] := List.drop_eq_nil_iff.2 (by omega)
      rw [he, List.map_nil, weighL] at h2
      rw [show IntKind.i64.wrap 301 = 301 by decide]
      split <;> omega
  · rfl
theorem weigh_mats_ans (σ : St) (L : List Mtr) : Ans Try.prog 46 [.sl 3 (mvs3 L), I 300] σ (I (weighL (L.map matP) 0 : Nat)) σ := by
  refine Ans.of_run t46 ?_
  have hlen : ((mvs3 L)).length = L.length := by simp [mvs3]
  simp -implicitDefEqProofs only [c46, r46, go_sem, List.reduceReplicate, Nat.reduceAdd, Nat.reduceSub, Nat.reduceLT, Nat.reduceLeDiff, Nat.reduceMul, Nat.reduceEqDiff, reduceCtorEq, Int.reduceLE, Int.reduceLT, Int.reduceEq, Int.reduceNe, Int.reduceBEq, Int.reduceBNe, Int.reduceAdd, Int.reduceSub]
  generalize hres : weighL (L.map matP) 0 = res
  refine Go.Ab.L.intro (α := { x : Nat × Nat // x.1 ≤ L.length ∧ weighL ((L.drop x.1).map matP) x.2 = res ∧ x.2 ≤ 1000 ∧ x.1 ≤ x.2 })
    (fun x => L.length - x.1.1)
    (fun x => mkE 58 [(0, .sl 3 (mvs3 L)), (1, I 300), (5, I x.1.2), (6, I x.1.1)])
    (fun x => σ)
    (fun x J hJ => ?_) ⟨(0, 0), Nat.zero_le _, hres, by omega, Nat.le_refl _⟩ ?_ rfl
  · obtain ⟨⟨i, n⟩, h1, h2, h3, h4⟩ := x
    simp only at h1 h2 h3 hJ ⊢
    have d2 : decide ((n : Int) ≤ 300) = decide (n ≤ 300) := int_le n 300
    by_cases hi : i < L.length
    · have d1 : decide ((i : Int) < L.length) = true := by simp; omega
      have d1' : ((i : Int) < L.length) = True := by simp; omega
      have hget : ((mvs3 L))[i]? = some (mv3 L[i]) := by simp [mvs3, hi]
      rw [List.drop_eq_getElem_cons hi, List.map_cons] at h2
      have hJ' := hJ
      generalize L[i] = y at h2 hget
      obtain ⟨k, nm, v⟩ := y
      simp only [mv3] at hget
      simp only [matP] at h2
      rw [weighL] at h2
      by_cases hn : n ≤ 300
      · rw [if_pos hn] at h2
        have e2 : decide (n ≤ 300) = true := by simpa using hn
        rw [e2] at d2
        have d3 : decide ((300 : Int) < nm.size) = decide (300 < nm.size) := decN 300 _
        have d4 : decide ((300 : Int) < v.size) = decide (300 < v.size) := decN 300 _
        have w0 : IntKind.i64.wrap (300 + 1) = 301 := by decide
        by_cases ha : 300 < nm.size
        · rw [if_pos (.inl ha)] at h2
          rw [decide_eq_true ha] at d3
          simp -implicitDefEqProofs only [mkE, List.foldl_cons, List.foldl_nil, go_sem, List.reduceReplicate, Nat.reduceAdd, Nat.reduceSub, Nat.reduceLT, Nat.reduceLeDiff, Nat.reduceMul, Nat.reduceEqDiff, reduceCtorEq, Int.reduceLE, Int.reduceLT, Int.reduceEq, Int.reduceNe, Int.reduceBEq, Int.reduceBNe, Int.reduceAdd, Int.reduceSub, hlen, d1, d1', d2, d3, hget, w0]
          subst h2
          exact Fini.ret rfl
        · rw [decide_eq_false ha] at d3
          by_cases hb : 300 < v.size
          · rw [if_pos (.inr hb)] at h2
            rw [decide_eq_true hb] at d4
            simp -implicitDefEqProofs only [mkE, List.foldl_cons, List.foldl_nil, go_sem, List.reduceReplicate, Nat.reduceAdd, Nat.reduceSub, Nat.reduceLT, Nat.reduceLeDiff, Nat.reduceMul, Nat.reduceEqDiff, reduceCtorEq, Int.reduceLE, Int.reduceLT, Int.reduceEq, Int.reduceNe, Int.reduceBEq, Int.reduceBNe, Int.reduceAdd, Int.reduceSub, hlen, d1, d1', d2, d3, d4, hget, w0]
            subst h2
            exact Fini.ret rfl
          · rw [if_neg (by omega)] at h2
            rw [decide_eq_false hb] at d4
            have a1 : IntKind.i64.wrap ((n : Int) + 1) = ((n + 1 : Nat) : Int) := wrap_nat (by omega)
            have a2 : IntKind.i64.wrap (((n + 1 : Nat) : Int) + (nm.size : Nat)) = ((n + 1 + nm.size : Nat) : Int) := by rw [wrapN (by omega) (by omega)]; omega
            have a3 : IntKind.i64.wrap (((n + 1 + nm.size : Nat) : Int) + (v.size : Nat)) = ((n + 1 + nm.size + v.size : Nat) : Int) := by rw [wrapN (by omega) (by omega)]; omega
            have a4 : IntKind.i64.wrap ((i : Int) + 1) = ((i + 1 : Nat) : Int) := wrap_nat (by omega)
            simp -implicitDefEqProofs only [mkE, List.foldl_cons, List.foldl_nil, go_sem, List.reduceReplicate, Nat.reduceAdd, Nat.reduceSub, Nat.reduceLT, Nat.reduceLeDiff, Nat.reduceMul, Nat.reduceEqDiff, reduceCtorEq, Int.reduceLE, Int.reduceLT, Int.reduceEq, Int.reduceNe, Int.reduceBEq, Int.reduceBNe, Int.reduceAdd, Int.reduceSub, hlen, d1, d1', d2, d3, d4, hget, a1, a2, a3, a4]
            exact hJ' ⟨(i + 1, n + 1 + nm.size + v.size), by omega, h2, by omega, by simp only; omega⟩ (by simp only; omega)
      · rw [if_neg hn] at h2
        rw [decide_eq_false hn] at d2
        have w0 : IntKind.i64.wrap (300 + 1) = 301 := by decide
        simp -implicitDefEqProofs only [mkE, List.foldl_cons, List.foldl_nil, go_sem, List.reduceReplicate, Nat.reduceAdd, Nat.reduceSub, Nat.reduceLT, Nat.reduceLeDiff, Nat.reduceMul, Nat.reduceEqDiff, reduceCtorEq, Int.reduceLE, Int.reduceLT, Int.reduceEq, Int.reduceNe, Int.reduceBEq, Int.reduceBNe, Int.reduceAdd, Int.reduceSub, hlen, d1, d1', d2, hget, w0]
        refine Fini.ret' rfl (int_congr ?_)
        rw [show IntKind.i64.wrap 301 = 301 by decide]
        split <;> omega
    · have d1 : decide ((i : Int) < L.length) = false := by simp; omega
      have d1' : ((i : Int) < L.length) = False := by simp; omega
      have w0 : IntKind.i64.wrap (300 + 1) = 301 := by decide
      simp -implicitDefEqProofs only [mkE, List.foldl_cons, List.foldl_nil, go_sem, List.reduceReplicate, Nat.reduceAdd, Nat.reduceSub, Nat.reduceLT, Nat.reduceLeDiff, Nat.reduceMul, Nat.reduceEqDiff, reduceCtorEq, Int.reduceLE, Int.reduceLT, Int.reduceEq, Int.reduceNe, Int.reduceBEq, Int.reduceBNe, Int.reduceAdd, Int.reduceSub, hlen, d1, d1', w0]
      refine Fini.ret' rfl (int_congr ?_)
      have he : L.drop i = [] := List.drop_eq_nil_iff.2 (by omega)
      rw [he, List.map_nil, weighL] at h2
      rw [show IntKind.i64.wrap 301 = 301 by decide]
      split <;> omega
  · rfl
def smallB (M : List Mtr) (L : List Lab) : Bool := decide (weighL (M.map matP) 0 ≤ 300) && decide (weighL (L.map labP) 0 ≤ 300)
theorem small_ans (σ : St) (M : List Mtr) (L : List Lab) : Ans Try.prog 13 [.sl 3 (mvs3 M), .sl 2 (lvs L)] σ (Bo (smallB M L)) σ := by
  refine Ans.of_run t13 ?_
  unfold smallB
  simp -implicitDefEqProofs only [c13, r13, go_sem, List.reduceReplicate, Nat.reduceAdd, Nat.reduceSub, Nat.reduceLT, Nat.reduceLeDiff, Nat.reduceMul, Nat.reduceEqDiff, reduceCtorEq, Int.reduceLE, Int.reduceLT, Int.reduceEq, Int.reduceNe, Int.reduceBEq, Int.reduceBNe, Int.reduceAdd, Int.reduceSub]
  refine CO.intro (weigh_mats_ans σ M) ?_
  have e1 : decide (((weighL (M.map matP) 0 : Nat) : Int) ≤ 300) = decide (weighL (M.map matP) 0 ≤ 300) := int_le _ 300
  have e2 : decide (((weighL (L.map labP) 0 : Nat) : Int) ≤ 300) = decide (weighL (L.map labP) 0 ≤ 300) := int_le _ 300
  cases h1 : decide (weighL (M.map matP) 0 ≤ 300) with
  | false =>
    rw [h1] at e1
    simp -implicitDefEqProofs only [go_sem, List.reduceReplicate, Nat.reduceAdd, Nat.reduceSub, Nat.reduceLT, Nat.reduceLeDiff, Nat.reduceMul, Nat.reduceEqDiff, reduceCtorEq, Int.reduceLE, Int.reduceLT, Int.reduceEq, Int.reduceNe, Int.reduceBEq, Int.reduceBNe, Int.reduceAdd, Int.reduceSub, e1]
    exact Fini.ret rfl
  | true =>
    rw [h1] at e1
    simp -implicitDefEqProofs only [go_sem, List.reduceReplicate, Nat.reduceAdd, Nat.reduceSub, Nat.reduceLT, Nat.reduceLeDiff, Nat.reduceMul, Nat.reduceEqDiff, reduceCtorEq, Int.reduceLE, Int.reduceLT, Int.reduceEq, Int.reduceNe, Int.reduceBEq, Int.reduceBNe, Int.reduceAdd, Int.reduceSub, e1]
    refine CO.intro (weigh_labs_ans σ L) ?_
    simp -implicitDefEqProofs only [go_sem, List.reduceReplicate, Nat.reduceAdd, Nat.reduceSub, Nat.reduceLT, Nat.reduceLeDiff, Nat.reduceMul, Nat.reduceEqDiff, reduceCtorEq, Int.reduceLE, Int.reduceLT, Int.reduceEq, Int.reduceNe, Int.reduceBEq, Int.reduceBNe, Int.reduceAdd, Int.reduceSub, e2]
    exact Fini.ret rfl
end Go.Proofs.Ytoadgajhkhejiaa
namespace Go.Proofs.Ytoadgajhkhejiaa
open Go Go.Ab
def cmpL : List UInt8 → List UInt8 → Int
  | [], [] => 0
  | [], _ :: _ => -1
  | _ :: _, [] => 1
  | a :: x, b :: y => if a != b then (if a < b then -1 else 1) else cmpL x y
def cmpI2 (x y : List UInt8) : Int := match (List.range (min x.length y.length)).find? fun i => x.getD i 0 != y.getD i 0 with
  | some i => if x.getD i 0 < y.getD i 0 then -1 else 1
  | none => if x.length < y.length then -1 else if x.length > y.length then 1 else 0
theorem cmpI2_eq : ∀ x y : List UInt8, cmpI2 x y = cmpL x y
  | [], [] => rfl
  | [], b :: y => by simp [cmpI2, cmpL]
  | a :: x, [] => by simp [cmpI2, cmpL]
  | a :: x, b :: y => by
    rw [cmpL, ← cmpI2_eq x y]
    unfold cmpI2
    rw [List.length_cons, List.length_cons, Nat.succ_min_succ, List.range_succ_eq_map, List.find?_cons]
    simp only [List.getD_cons_zero]
    cases h : (a != b) with
    | true => simp
    | false =>
      simp only [Bool.false_eq_true, if_false]
      rw [List.find?_map]
      simp only [Function.comp_def, List.getD_cons_succ]
      cases (List.range (min x.length y.length)).find? fun i => x.getD i 0 != y.getD i 0 with
      | none => simp
      | some i => simp
theorem cmpL_less : ∀ x y : List UInt8, cmpL x y = if x == y then 0 else if Op.bytesLess x y then -1 else 1
  | [], [] => rfl
  | [], b :: y => by simp [cmpL, Op.bytesLess]
  | a :: x, [] => by simp [cmpL, Op.bytesLess]
  | a :: x, b :: y => by
    rw [cmpL, cmpL_less x y, Op.bytesLess]
    by_cases h : a = b
    · subst h
      have : ¬ a < a := by simp
      simp [this]
    · by_cases hl : a < b
      · simp [h, hl]
      · simp [h, hl]
theorem cmp_data (a b : ByteArray) : Extern.BytealgCompare.cmp a b = cmpL a.data.toList b.data.toList := by
  rw [← cmpI2_eq]
  unfold Extern.BytealgCompare.cmp cmpI2
  have hg : ∀ (a : ByteArray) (i : Nat), a[i]! = a.data.toList.getD i 0 := fun a i => by
    rw [List.getD_eq_getElem?_getD, Array.getElem?_toList, getElem!_def]
    by_cases h : i < a.size
    · have h1 : a[i]? = some a[i] := by rw [getElem?_pos]
      have h2 : a.data[i]? = some a[i] := Array.getElem?_eq_getElem h
      rw [h1, h2]; rfl
    · have h1 : a[i]? = none := by rw [getElem?_neg]; exact h
      have h2 : a.data[i]? = none := Array.getElem?_eq_none (by simpa using h)
      rw [h1, h2]; rfl
  simp only [hg]
  rfl
end Go.Proofs.Ytoadgajhkhejiaa
