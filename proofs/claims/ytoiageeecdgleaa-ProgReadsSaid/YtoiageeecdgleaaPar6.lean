/- The parser of patterns: an atom, and how often. No condition. -/
import Derived.Test.YtoiageeecdgleaaPar5
set_option linter.unusedSimpArgs false
set_option linter.unusedVariables false
namespace Go.Proofs.Ytoiageeecdgleaa
open Go Go.Ab
set_option maxRecDepth 100000
open Rex

/-- A part of the parser answers as `F`. -/
def FAns (f : FuncId) (args : List AV) (s : ByteArray) (F : PF) : Prop :=
  ∀ (σ : St) (p a : Nat) (b : Bool), p < σ.length → (b = true ∨ s.size ≤ 40) →
    Ans Try.prog f (.ptr p 0 :: args) (σ.set p (pob s a b)) (F a b).1.rv (σ.set p (pob s (F a b).2.1 (F a b).2.2))

section
variable {σ : St} {p : Nat} {s : ByteArray}
theorem FAns.ex {f : FuncId} {args : List AV} {F : PF} (h : FAns f args s F) (hp : p < σ.length) (a : Nat) (b : Bool) (hs : b = true ∨ s.size ≤ 40) (ex : St) :
    Ans Try.prog f (.ptr p 0 :: args) (σ.set p (pob s a b) ++ ex) (F a b).1.rv (σ.set p (pob s (F a b).2.1 (F a b).2.2) ++ ex) := by
  have := h (σ.set p (pob s a b) ++ ex) p a b (by simp; omega) hs
  rwa [sA hp, sA hp] at this
theorem next_ex (hp : p < σ.length) (a : Nat) (b : Bool) (c : Nat) (hs : b = true ∨ s.size ≤ 40) (ex : St) :
    Ans Try.prog 33 [.ptr p 0, B8 c] (σ.set p (pob s a b) ++ ex) (Bo (sees s a b c)) (σ.set p (pob s (nextA s a b c) b) ++ ex) := by
  have := next_ans (σ.set p (pob s a b) ++ ex) p s a b c hs (gA hp _ _)
  rwa [sA hp] at this
theorem byte_ex (hp : p < σ.length) (a : Nat) (b : Bool) (hs : b = true ∨ s.size ≤ 40) (ex : St) :
    Ans Try.prog 46 [.ptr p 0] (σ.set p (pob s a b) ++ ex) (B8 (pbyte s a b).1) (σ.set p (pob s (pbyte s a b).2.1 (pbyte s a b).2.2) ++ ex) := by
  have := byte_ans (σ.set p (pob s a b) ++ ex) p s a b hs (gA hp _ _)
  rwa [sA hp] at this
theorem sign_ex (hp : p < σ.length) (a : Nat) (b : Bool) (hs : b = true ∨ s.size ≤ 40) (ex : St) :
    Ans Try.prog 50 [.ptr p 0] (σ.set p (pob s a b) ++ ex) (B8 (psign s a b).1) (σ.set p (pob s (psign s a b).2.1 (psign s a b).2.2) ++ ex) := by
  have := sign_ans (σ.set p (pob s a b) ++ ex) p s a b hs (gA hp _ _)
  rwa [sA hp] at this
theorem over_ex (hp : p < σ.length) (a : Nat) (b : Bool) (ex : St) : Ans Try.prog 40 [.ptr p 0] (σ.set p (pob s a b) ++ ex) (Bo (over s a b)) (σ.set p (pob s a b) ++ ex) :=
  over_ans _ p s a b (gA hp _ _)
theorem sees_ex (hp : p < σ.length) (a : Nat) (b : Bool) (c : Nat) (ex : St) : Ans Try.prog 41 [.ptr p 0, B8 c] (σ.set p (pob s a b) ++ ex) (Bo (sees s a b c)) (σ.set p (pob s a b) ++ ex) :=
  sees_ans _ p s a b c (gA hp _ _)
theorem class_ex (hp : p < σ.length) (a : Nat) (b : Bool) (hs : b = true ∨ s.size ≤ 40) (ex : St) :
    Ans Try.prog 47 [.ptr p 0] (σ.set p (pob s a b) ++ ex) (.agg ((pclass s a b).1.map U)) (σ.set p (pob s (pclass s a b).2.1 (pclass s a b).2.2) ++ ex) := by
  have := class_ans (σ.set p (pob s a b) ++ ex) p s a b (by simp; omega) hs
  rwa [sA hp, sA hp] at this
end

theorem pclass_len (s : ByteArray) (a : Nat) (b : Bool) : (pclass s a b).1.length = 4 := by
  have h := classL_len s (s.size + 3) [0, 0, 0, 0] (nextA s a b 94) b true
  unfold pclass
  simp only
  split
  · simp only [turnS, List.length_map]; exact h
  · exact h
theorem pbyte_hs {s : ByteArray} {a : Nat} {b : Bool} (h : b = true ∨ s.size ≤ 40) : (pbyte s a b).2.2 = true ∨ s.size ≤ 40 := by
  rcases h with rfl | h
  · exact .inl (by rw [pbyte_bad])
  · exact .inr h

theorem add_get {c : Nat} (hc : c < 256) : ([I 1, U 0, U 0, U 0, U 0, .nils] : List AV)[1 + c / 64]? = some (U 0) := by
  have h : c / 64 < 4 := by omega
  generalize c / 64 = k at h
  match k, h with
  | 0, _ => rfl
  | 1, _ => rfl
  | 2, _ => rfl
  | 3, _ => rfl
theorem add_cells {c : Nat} (hc : c < 256) : ([I 1, U 0, U 0, U 0, U 0, .nils] : List AV).set (1 + c / 64) (U (orU 0 (bitU (c % 64)))) =
    [I 1, U ((setAdd z4 c).getD 0 0), U ((setAdd z4 c).getD 1 0), U ((setAdd z4 c).getD 2 0), U ((setAdd z4 c).getD 3 0), .nils] := by
  have h : c / 64 < 4 := by omega
  unfold setAdd
  generalize bitU (c % 64) = w
  generalize c / 64 = k at h
  match k, h with
  | 0, _ => rfl
  | 1, _ => rfl
  | 2, _ => rfl
  | 3, _ => rfl
theorem rv_cells (x : Rex) : AV.cells x.rv = [I x.op, U x.a, U x.b, U x.c, U x.d, rvK x.ks] := by rw [rv_eq]; rfl
theorem rvK_one (l : List Rex) : AV.one (rvK l) = true := by cases l <;> rfl
theorem rv_okc (x : Rex) : AV.okc x.rv = true := by
  rw [rv_eq]
  show (true && (true && (true && (true && (true && (AV.one (rvK x.ks) && true)))))) = true
  rw [rvK_one]; rfl
theorem rv_ofSet (S : List Int) : (ofSet S).rv = .agg [I 1, U (S.getD 0 0), U (S.getD 1 0), U (S.getD 2 0), U (S.getD 3 0), .nils] := rfl
theorem bel_box (n : Nat) (x : Rex) : BelO n (.box [I x.op, U x.a, U x.b, U x.c, U x.d, rvK x.ks]) := by
  intro y hy
  have := bel_rvK n x.ks
  simp only [List.mem_cons, List.not_mem_nil, or_false] at hy
  rcases hy with rfl | rfl | rfl | rfl | rfl | rfl
  · exact .pl _
  · exact .pl _
  · exact .pl _
  · exact .pl _
  · exact .pl _
  · exact this

section
variable (s : ByteArray)

theorem atom_ans (F : PF) (d : Nat) (hd : d ≤ 8) (hF : d < 8 → FAns 20 [I ((d + 1 : Nat) : Int)] s F) (hfw : Fwd F) : FAns 44 [I d] s (patom s F d) := by
  intro σ p a b hp hs
  have hlen : ∀ o, (σ.set p o).length = σ.length := fun o => by simp
  refine Ans.of_run' t44 (fun hbel _ => ?_)
  have hb2 := bel_at hbel
  simp -implicitDefEqProofs only [c44, r44, go_sem, List.reduceReplicate, Nat.reduceAdd, Nat.reduceSub, Nat.reduceLT, Nat.reduceLeDiff, Nat.reduceMul, Nat.reduceEqDiff, reduceCtorEq, Int.reduceLE, Int.reduceLT, Int.reduceEq, Int.reduceNe, Int.reduceBEq, Int.reduceBNe, Int.reduceAdd, Int.reduceSub, List.append_assoc, List.length_append, List.length_set, gA hp, sA hp, gL0, sL0, gL1, sL1]
  refine CO.intro (byte_ex hp a b hs _) ?_
  unfold patom
  have hc := pbyte_lt s a b
  have hs' := pbyte_hs (a := a) hs
  have hst := stray_idx _ hc
  generalize pbyte s a b = q at hc hs' hst ⊢
  obtain ⟨c, a', b'⟩ := q
  simp only at hc hs' hst ⊢
  have k40 : ((c : Int) == 40) = (c == 40) := beq_cast c 40
  have k8 : ((d : Int) == 8) = (d == 8) := beq_cast d 8
  have k91 : ((c : Int) == 91) = (c == 91) := beq_cast c 91
  have k46 : ((c : Int) == 46) = (c == 46) := beq_cast c 46
  have k92 : ((c : Int) == 92) = (c == 92) := beq_cast c 92
  cases h40 : c == 40 with
  | true =>
    cases b' with
    | true =>
      simp -implicitDefEqProofs only [go_sem, List.reduceReplicate, Nat.reduceAdd, Nat.reduceSub, Nat.reduceLT, Nat.reduceLeDiff, Nat.reduceMul, Nat.reduceEqDiff, reduceCtorEq, Int.reduceLE, Int.reduceLT, Int.reduceEq, Int.reduceNe, Int.reduceBEq, Int.reduceBNe, Int.reduceAdd, Int.reduceSub, k40, k91, k46, k92, h40, gA hp, sA hp, gL0, sL0, gL1, sL1, if_true, Bool.true_or, Bool.or_true]
      refine CO.intro (next_ex hp _ _ 41 (.inl rfl) _) ?_
      simp -implicitDefEqProofs only [go_sem, List.reduceReplicate, Nat.reduceAdd, Nat.reduceSub, Nat.reduceLT, Nat.reduceLeDiff, Nat.reduceMul, Nat.reduceEqDiff, reduceCtorEq, Int.reduceLE, Int.reduceLT, Int.reduceEq, Int.reduceNe, Int.reduceBEq, Int.reduceBNe, Int.reduceAdd, Int.reduceSub, gA hp, sA hp, gL0, sL0, gL1, sL1, sees_true, nextA]
      refine Fini.trim2 (ex := [_, _]) ?_ rfl ?_ (bel_rv _ _) (hb2 _ _)
      · (simp -implicitDefEqProofs only [go_sem, List.reduceReplicate, Nat.reduceAdd, Nat.reduceSub, Nat.reduceLT, Nat.reduceLeDiff, Nat.reduceMul, Nat.reduceEqDiff, reduceCtorEq, Int.reduceLE, Int.reduceLT, Int.reduceEq, Int.reduceNe, Int.reduceBEq, Int.reduceBNe, Int.reduceAdd, Int.reduceSub, resA, allSome, rvA, oneOf, gL0]; first | done | rfl | rw [rv_eq, hK] | (simp only [rv, rvK, rvL]; rw [rv_eq, hK]))
      · simp
    | false =>
      cases hd8 : d == 8 with
      | true =>
        simp -implicitDefEqProofs only [go_sem, List.reduceReplicate, Nat.reduceAdd, Nat.reduceSub, Nat.reduceLT, Nat.reduceLeDiff, Nat.reduceMul, Nat.reduceEqDiff, reduceCtorEq, Int.reduceLE, Int.reduceLT, Int.reduceEq, Int.reduceNe, Int.reduceBEq, Int.reduceBNe, Int.reduceAdd, Int.reduceSub, k40, k91, k46, k92, h40, gA hp, sA hp, gL0, sL0, gL1, sL1, if_true, k8, hd8, Bool.false_or, Bool.or_false, Bool.or_true, Bool.true_or]
        refine CO.intro (next_ex hp _ _ 41 (.inl rfl) _) ?_
        simp -implicitDefEqProofs only [go_sem, List.reduceReplicate, Nat.reduceAdd, Nat.reduceSub, Nat.reduceLT, Nat.reduceLeDiff, Nat.reduceMul, Nat.reduceEqDiff, reduceCtorEq, Int.reduceLE, Int.reduceLT, Int.reduceEq, Int.reduceNe, Int.reduceBEq, Int.reduceBNe, Int.reduceAdd, Int.reduceSub, gA hp, sA hp, gL0, sL0, gL1, sL1, sees_true, nextA]
        refine Fini.trim2 (ex := [_, _]) ?_ rfl ?_ (bel_rv _ _) (hb2 _ _)
        · (simp -implicitDefEqProofs only [go_sem, List.reduceReplicate, Nat.reduceAdd, Nat.reduceSub, Nat.reduceLT, Nat.reduceLeDiff, Nat.reduceMul, Nat.reduceEqDiff, reduceCtorEq, Int.reduceLE, Int.reduceLT, Int.reduceEq, Int.reduceNe, Int.reduceBEq, Int.reduceBNe, Int.reduceAdd, Int.reduceSub, resA, allSome, rvA, oneOf, gL0]; first | done | rfl | rw [rv_eq, hK] | (simp only [rv, rvK, rvL]; rw [rv_eq, hK]))
        · simp
      | false =>
        have hd7 : d < 8 := by
          have : d ≠ 8 := by simpa using hd8
          omega
        have e1 : IntKind.i64.wrap ((d : Int) + 1) = ((d + 1 : Nat) : Int) := by rw [wrapN (by omega) (by omega)]; rfl
        simp -implicitDefEqProofs only [go_sem, List.reduceReplicate, Nat.reduceAdd, Nat.reduceSub, Nat.reduceLT, Nat.reduceLeDiff, Nat.reduceMul, Nat.reduceEqDiff, reduceCtorEq, Int.reduceLE, Int.reduceLT, Int.reduceEq, Int.reduceNe, Int.reduceBEq, Int.reduceBNe, Int.reduceAdd, Int.reduceSub, k40, k91, k46, k92, h40, gA hp, sA hp, gL0, sL0, gL1, sL1, if_true, k8, hd8, Bool.false_or, Bool.or_false, Bool.or_true, Bool.true_or, e1]
        refine CO.intro ((hF hd7).ex hp _ _ hs' _) ?_
        have hs2 : (F a' false).2.2 = true ∨ s.size ≤ 40 := hfw.hs hs'
        generalize F a' false = w at hs2 ⊢
        obtain ⟨x, a1, b1⟩ := w
        simp only at hs2 ⊢
        have hbx : ∀ n, Bel n x.rv := fun n => bel_rv n x
        rw [rv_eq x] at hbx ⊢
        rcases rvK_cases x.ks with hK | ⟨l, hK⟩
        all_goals rw [hK] at hbx ⊢
        all_goals simp -implicitDefEqProofs only [go_sem, List.reduceReplicate, Nat.reduceAdd, Nat.reduceSub, Nat.reduceLT, Nat.reduceLeDiff, Nat.reduceMul, Nat.reduceEqDiff, reduceCtorEq, Int.reduceLE, Int.reduceLT, Int.reduceEq, Int.reduceNe, Int.reduceBEq, Int.reduceBNe, Int.reduceAdd, Int.reduceSub, gA hp, sA hp, gL0, sL0, gL1, sL1]
        all_goals refine CO.intro (next_ex hp _ _ 41 hs2 _) ?_
        all_goals cases hse : sees s a1 b1 41
        all_goals (
          first
          | (have hb1 := (sees_lt hse).2
             subst hb1)
          | skip
          simp -implicitDefEqProofs only [go_sem, List.reduceReplicate, Nat.reduceAdd, Nat.reduceSub, Nat.reduceLT, Nat.reduceLeDiff, Nat.reduceMul, Nat.reduceEqDiff, reduceCtorEq, Int.reduceLE, Int.reduceLT, Int.reduceEq, Int.reduceNe, Int.reduceBEq, Int.reduceBNe, Int.reduceAdd, Int.reduceSub, gA hp, sA hp, gL0, sL0, gL1, sL1, hse, nextA, Bool.true_or, Bool.false_or]
          refine Fini.trim2 (ex := [_, _]) ?_ rfl ?_ (hbx _) (hb2 _ _)
          · (simp -implicitDefEqProofs only [go_sem, List.reduceReplicate, Nat.reduceAdd, Nat.reduceSub, Nat.reduceLT, Nat.reduceLeDiff, Nat.reduceMul, Nat.reduceEqDiff, reduceCtorEq, Int.reduceLE, Int.reduceLT, Int.reduceEq, Int.reduceNe, Int.reduceBEq, Int.reduceBNe, Int.reduceAdd, Int.reduceSub, resA, allSome, rvA, oneOf, gL0]; first | done | rfl | rw [rv_eq, hK] | (simp only [rv, rvK, rvL]; rw [rv_eq, hK]))
          · simp)
  | false =>
    cases h91 : c == 91 with
    | true =>
      simp -implicitDefEqProofs only [go_sem, List.reduceReplicate, Nat.reduceAdd, Nat.reduceSub, Nat.reduceLT, Nat.reduceLeDiff, Nat.reduceMul, Nat.reduceEqDiff, reduceCtorEq, Int.reduceLE, Int.reduceLT, Int.reduceEq, Int.reduceNe, Int.reduceBEq, Int.reduceBNe, Int.reduceAdd, Int.reduceSub, k40, k91, k46, k92, h40, h91, gA hp, sA hp, if_true, Bool.false_eq_true, if_false]
      refine CO.intro (class_ex hp a' b' hs' _) ?_
      have h4 := pclass_len s a' b'
      generalize pclass s a' b' = k at h4 ⊢
      obtain ⟨S, a1, b1⟩ := k
      simp only at h4 ⊢
      obtain ⟨x0, x1, x2, x3, rfl⟩ := four h4
      simp -implicitDefEqProofs only [go_sem, List.reduceReplicate, Nat.reduceAdd, Nat.reduceSub, Nat.reduceLT, Nat.reduceLeDiff, Nat.reduceMul, Nat.reduceEqDiff, reduceCtorEq, Int.reduceLE, Int.reduceLT, Int.reduceEq, Int.reduceNe, Int.reduceBEq, Int.reduceBNe, Int.reduceAdd, Int.reduceSub, gA hp, sA hp, gL0, sL0, gL1, sL1, List.map_cons, List.map_nil]
      refine Fini.trim2 (ex := [_, _]) ?_ rfl ?_ (bel_rv _ _) (hb2 _ _)
      · (simp -implicitDefEqProofs only [go_sem, List.reduceReplicate, Nat.reduceAdd, Nat.reduceSub, Nat.reduceLT, Nat.reduceLeDiff, Nat.reduceMul, Nat.reduceEqDiff, reduceCtorEq, Int.reduceLE, Int.reduceLT, Int.reduceEq, Int.reduceNe, Int.reduceBEq, Int.reduceBNe, Int.reduceAdd, Int.reduceSub, resA, allSome, rvA, oneOf, gL0]; first | done | rfl | rw [rv_eq, hK] | (simp only [rv, rvK, rvL]; rw [rv_eq, hK]))
      · simp
    | false =>
      cases h46 : c == 46 with
      | true =>
        simp -implicitDefEqProofs only [go_sem, List.reduceReplicate, Nat.reduceAdd, Nat.reduceSub, Nat.reduceLT, Nat.reduceLeDiff, Nat.reduceMul, Nat.reduceEqDiff, reduceCtorEq, Int.reduceLE, Int.reduceLT, Int.reduceEq, Int.reduceNe, Int.reduceBEq, Int.reduceBNe, Int.reduceAdd, Int.reduceSub, k40, k91, k46, k92, h40, h91, h46, gA hp, sA hp, gL0, sL0, gL1, sL1, if_true, Bool.false_eq_true, if_false]
        refine CO.intro (turned_ans _ 0 0 0 0) ?_
        simp -implicitDefEqProofs only [go_sem, List.reduceReplicate, Nat.reduceAdd, Nat.reduceSub, Nat.reduceLT, Nat.reduceLeDiff, Nat.reduceMul, Nat.reduceEqDiff, reduceCtorEq, Int.reduceLE, Int.reduceLT, Int.reduceEq, Int.reduceNe, Int.reduceBEq, Int.reduceBNe, Int.reduceAdd, Int.reduceSub, gA hp, sA hp, gL0, sL0, gL1, sL1, List.map_cons, List.map_nil]
        refine Fini.trim2 (ex := [_, _]) ?_ rfl ?_ (bel_rv _ _) (hb2 _ _)
        · (simp -implicitDefEqProofs only [go_sem, List.reduceReplicate, Nat.reduceAdd, Nat.reduceSub, Nat.reduceLT, Nat.reduceLeDiff, Nat.reduceMul, Nat.reduceEqDiff, reduceCtorEq, Int.reduceLE, Int.reduceLT, Int.reduceEq, Int.reduceNe, Int.reduceBEq, Int.reduceBNe, Int.reduceAdd, Int.reduceSub, resA, allSome, rvA, oneOf, gL0]; first | done | rfl | rw [rv_eq, hK] | (simp only [rv, rvK, rvL]; rw [rv_eq, hK]))
        · simp
      | false =>
        cases h92 : c == 92 with
        | true =>
          simp -implicitDefEqProofs only [go_sem, List.reduceReplicate, Nat.reduceAdd, Nat.reduceSub, Nat.reduceLT, Nat.reduceLeDiff, Nat.reduceMul, Nat.reduceEqDiff, reduceCtorEq, Int.reduceLE, Int.reduceLT, Int.reduceEq, Int.reduceNe, Int.reduceBEq, Int.reduceBNe, Int.reduceAdd, Int.reduceSub, k40, k91, k46, k92, h40, h91, h46, h92, gA hp, sA hp, gL0, sL0, gL1, sL1, if_true, Bool.false_eq_true, if_false]
          refine CO.intro (sign_ex hp a' b' hs' _) ?_
          have hk : (psign s a' b').1 < 256 := pbyte_lt s a' b'
          generalize psign s a' b' = k at hk ⊢
          obtain ⟨x, a1, b1⟩ := k
          simp only at hk ⊢
          simp -implicitDefEqProofs only [go_sem, List.reduceReplicate, Nat.reduceAdd, Nat.reduceSub, Nat.reduceLT, Nat.reduceLeDiff, Nat.reduceMul, Nat.reduceEqDiff, reduceCtorEq, Int.reduceLE, Int.reduceLT, Int.reduceEq, Int.reduceNe, Int.reduceBEq, Int.reduceBNe, Int.reduceAdd, Int.reduceSub]
          refine CO.intro (add_ans _ (σ.length + 1) 1 _ x 0 (gL1 _ _ _ _ _ _) (add_get hk) hk) ?_
          rw [sL1, add_cells hk]
          simp -implicitDefEqProofs only [go_sem, List.reduceReplicate, Nat.reduceAdd, Nat.reduceSub, Nat.reduceLT, Nat.reduceLeDiff, Nat.reduceMul, Nat.reduceEqDiff, reduceCtorEq, Int.reduceLE, Int.reduceLT, Int.reduceEq, Int.reduceNe, Int.reduceBEq, Int.reduceBNe, Int.reduceAdd, Int.reduceSub, gA hp, sA hp, gL0, sL0, gL1, sL1, List.map_cons, List.map_nil]
          refine Fini.trim2 (ex := [_, _]) ?_ rfl ?_ (bel_rv _ _) (hb2 _ _)
          · (simp -implicitDefEqProofs only [go_sem, List.reduceReplicate, Nat.reduceAdd, Nat.reduceSub, Nat.reduceLT, Nat.reduceLeDiff, Nat.reduceMul, Nat.reduceEqDiff, reduceCtorEq, Int.reduceLE, Int.reduceLT, Int.reduceEq, Int.reduceNe, Int.reduceBEq, Int.reduceBNe, Int.reduceAdd, Int.reduceSub, resA, allSome, rvA, oneOf, gL0]; first | done | rfl | rw [rv_eq, hK] | (simp only [rv, rvK, rvL]; rw [rv_eq, hK]))
          · simp
        | false =>
          simp -implicitDefEqProofs only [go_sem, List.reduceReplicate, Nat.reduceAdd, Nat.reduceSub, Nat.reduceLT, Nat.reduceLeDiff, Nat.reduceMul, Nat.reduceEqDiff, reduceCtorEq, Int.reduceLE, Int.reduceLT, Int.reduceEq, Int.reduceNe, Int.reduceBEq, Int.reduceBNe, Int.reduceAdd, Int.reduceSub, k40, k91, k46, k92, h40, h91, h46, h92, gA hp, sA hp, gL0, sL0, gL1, sL1, if_true, Bool.false_eq_true, if_false]
          cases b' with
          | true =>
            simp -implicitDefEqProofs only [go_sem, List.reduceReplicate, Nat.reduceAdd, Nat.reduceSub, Nat.reduceLT, Nat.reduceLeDiff, Nat.reduceMul, Nat.reduceEqDiff, reduceCtorEq, Int.reduceLE, Int.reduceLT, Int.reduceEq, Int.reduceNe, Int.reduceBEq, Int.reduceBNe, Int.reduceAdd, Int.reduceSub, gA hp, sA hp, gL0, sL0, gL1, sL1]
            refine CO.intro (add_ans _ (σ.length + 1) 1 _ c 0 (gL1 _ _ _ _ _ _) (add_get hc) hc) ?_
            rw [sL1, add_cells hc]
            simp -implicitDefEqProofs only [go_sem, List.reduceReplicate, Nat.reduceAdd, Nat.reduceSub, Nat.reduceLT, Nat.reduceLeDiff, Nat.reduceMul, Nat.reduceEqDiff, reduceCtorEq, Int.reduceLE, Int.reduceLT, Int.reduceEq, Int.reduceNe, Int.reduceBEq, Int.reduceBNe, Int.reduceAdd, Int.reduceSub, gA hp, sA hp, gL0, sL0, gL1, sL1]
            refine Fini.trim2 (ex := [_, _]) ?_ rfl ?_ (bel_rv _ _) (hb2 _ _)
            · (simp -implicitDefEqProofs only [go_sem, List.reduceReplicate, Nat.reduceAdd, Nat.reduceSub, Nat.reduceLT, Nat.reduceLeDiff, Nat.reduceMul, Nat.reduceEqDiff, reduceCtorEq, Int.reduceLE, Int.reduceLT, Int.reduceEq, Int.reduceNe, Int.reduceBEq, Int.reduceBNe, Int.reduceAdd, Int.reduceSub, resA, allSome, rvA, oneOf, gL0]; first | done | rfl | rw [rv_eq, hK] | (simp only [rv, rvK, rvL]; rw [rv_eq, hK]))
            · simp
          | false =>
            simp -implicitDefEqProofs only [go_sem, List.reduceReplicate, Nat.reduceAdd, Nat.reduceSub, Nat.reduceLT, Nat.reduceLeDiff, Nat.reduceMul, Nat.reduceEqDiff, reduceCtorEq, Int.reduceLE, Int.reduceLT, Int.reduceEq, Int.reduceNe, Int.reduceBEq, Int.reduceBNe, Int.reduceAdd, Int.reduceSub, gA hp, sA hp, gL0, sL0, gL1, sL1]
            refine CO.intro (idx_ans _ _ c) ?_
            simp -implicitDefEqProofs only [go_sem, List.reduceReplicate, Nat.reduceAdd, Nat.reduceSub, Nat.reduceLT, Nat.reduceLeDiff, Nat.reduceMul, Nat.reduceEqDiff, reduceCtorEq, Int.reduceLE, Int.reduceLT, Int.reduceEq, Int.reduceNe, Int.reduceBEq, Int.reduceBNe, Int.reduceAdd, Int.reduceSub, gA hp, sA hp, gL0, sL0, gL1, sL1]
            refine CO.intro (add_ans _ (σ.length + 1) 1 _ c 0 (gL1 _ _ _ _ _ _) (add_get hc) hc) ?_
            rw [sL1, add_cells hc]
            simp -implicitDefEqProofs only [go_sem, List.reduceReplicate, Nat.reduceAdd, Nat.reduceSub, Nat.reduceLT, Nat.reduceLeDiff, Nat.reduceMul, Nat.reduceEqDiff, reduceCtorEq, Int.reduceLE, Int.reduceLT, Int.reduceEq, Int.reduceNe, Int.reduceBEq, Int.reduceBNe, Int.reduceAdd, Int.reduceSub, gA hp, sA hp, gL0, sL0, gL1, sL1]
            rw [hst]
            refine Fini.trim2 (ex := [_, _]) ?_ rfl ?_ (bel_rv _ _) (hb2 _ _)
            · (simp -implicitDefEqProofs only [go_sem, List.reduceReplicate, Nat.reduceAdd, Nat.reduceSub, Nat.reduceLT, Nat.reduceLeDiff, Nat.reduceMul, Nat.reduceEqDiff, reduceCtorEq, Int.reduceLE, Int.reduceLT, Int.reduceEq, Int.reduceNe, Int.reduceBEq, Int.reduceBNe, Int.reduceAdd, Int.reduceSub, resA, allSome, rvA, oneOf, gL0]; first | done | rfl | rw [rv_eq, hK] | (simp only [rv, rvK, rvL]; rw [rv_eq, hK]))
            · simp
end

section
variable (s : ByteArray)
theorem factor_ans (F : PF) (d : Nat) (hF : FAns 44 [I d] s F) (hfw : Fwd F) : FAns 42 [I d] s (pfactor s F) := by
  intro σ p a b hp hs
  refine Ans.of_run' t42 (fun hbel _ => ?_)
  have hb2 := bel_at hbel
  simp -implicitDefEqProofs only [c42, r42, go_sem, List.reduceReplicate, Nat.reduceAdd, Nat.reduceSub, Nat.reduceLT, Nat.reduceLeDiff, Nat.reduceMul, Nat.reduceEqDiff, reduceCtorEq, Int.reduceLE, Int.reduceLT, Int.reduceEq, Int.reduceNe, Int.reduceBEq, Int.reduceBNe, Int.reduceAdd, Int.reduceSub, List.append_assoc, List.length_append, List.length_set, gA hp, sA hp, gL0, sL0, gL1, sL1]
  refine CO.intro (hF.ex hp _ _ hs _) ?_
  have hs2 : (F a b).2.2 = true ∨ s.size ≤ 40 := hfw.hs hs
  unfold pfactor
  generalize F a b = w at hs2 ⊢
  obtain ⟨x, a1, b1⟩ := w
  simp only at hs2 ⊢
  have hn : ∀ (ex : St) (c : Nat), sees s a1 b1 c = false → Ans Try.prog 33 [.ptr p 0, B8 c] (σ.set p (pob s a1 b1) ++ ex) (Bo false) (σ.set p (pob s a1 b1) ++ ex) := fun ex c h => by
    have := next_ex hp a1 b1 c hs2 ex
    rwa [nextA, h] at this
  have hy : ∀ (ex : St) (c : Nat), sees s a1 b1 c = true → Ans Try.prog 33 [.ptr p 0, B8 c] (σ.set p (pob s a1 b1) ++ ex) (Bo true) (σ.set p (pob s (a1 + 1) b1) ++ ex) := fun ex c h => by
    have := next_ex hp a1 b1 c hs2 ex
    rwa [nextA, h] at this
  have hbx : ∀ n, Bel n x.rv := fun n => bel_rv n x
  rw [rv_eq x] at hbx ⊢
  rcases rvK_cases x.ks with hK | ⟨l, hK⟩
  all_goals (
    rw [hK] at hbx ⊢
    simp -implicitDefEqProofs only [go_sem, List.reduceReplicate, Nat.reduceAdd, Nat.reduceSub, Nat.reduceLT, Nat.reduceLeDiff, Nat.reduceMul, Nat.reduceEqDiff, reduceCtorEq, Int.reduceLE, Int.reduceLT, Int.reduceEq, Int.reduceNe, Int.reduceBEq, Int.reduceBNe, Int.reduceAdd, Int.reduceSub, gA hp, sA hp, gL0, sL0, gL1, sL1]
    cases h42 : sees s a1 b1 42
    · refine CO.intro (hn _ 42 h42) ?_
      simp -implicitDefEqProofs only [go_sem, List.reduceReplicate, Nat.reduceAdd, Nat.reduceSub, Nat.reduceLT, Nat.reduceLeDiff, Nat.reduceMul, Nat.reduceEqDiff, reduceCtorEq, Int.reduceLE, Int.reduceLT, Int.reduceEq, Int.reduceNe, Int.reduceBEq, Int.reduceBNe, Int.reduceAdd, Int.reduceSub, gA hp, sA hp, gL0, sL0, gL1, sL1]
      cases h43 : sees s a1 b1 43
      · refine CO.intro (hn _ 43 h43) ?_
        simp -implicitDefEqProofs only [go_sem, List.reduceReplicate, Nat.reduceAdd, Nat.reduceSub, Nat.reduceLT, Nat.reduceLeDiff, Nat.reduceMul, Nat.reduceEqDiff, reduceCtorEq, Int.reduceLE, Int.reduceLT, Int.reduceEq, Int.reduceNe, Int.reduceBEq, Int.reduceBNe, Int.reduceAdd, Int.reduceSub, gA hp, sA hp, gL0, sL0, gL1, sL1]
        cases h63 : sees s a1 b1 63
        · refine CO.intro (hn _ 63 h63) ?_
          simp -implicitDefEqProofs only [go_sem, List.reduceReplicate, Nat.reduceAdd, Nat.reduceSub, Nat.reduceLT, Nat.reduceLeDiff, Nat.reduceMul, Nat.reduceEqDiff, reduceCtorEq, Int.reduceLE, Int.reduceLT, Int.reduceEq, Int.reduceNe, Int.reduceBEq, Int.reduceBNe, Int.reduceAdd, Int.reduceSub, gA hp, sA hp, gL0, sL0, gL1, sL1]
          refine Fini.trim2 (ex := [_]) ?_ rfl ?_ (bel_rv _ _) (hb2 _ _)
          · (simp -implicitDefEqProofs only [go_sem, List.reduceReplicate, Nat.reduceAdd, Nat.reduceSub, Nat.reduceLT, Nat.reduceLeDiff, Nat.reduceMul, Nat.reduceEqDiff, reduceCtorEq, Int.reduceLE, Int.reduceLT, Int.reduceEq, Int.reduceNe, Int.reduceBEq, Int.reduceBNe, Int.reduceAdd, Int.reduceSub, resA, allSome, rvA, oneOf, gL0]; first | done | rfl | rw [rv_eq, hK] | (simp only [rv, rvK, rvL]; rw [rv_eq, hK]))
          · simp
        · refine CO.intro (hy _ 63 h63) ?_
          simp -implicitDefEqProofs only [go_sem, List.reduceReplicate, Nat.reduceAdd, Nat.reduceSub, Nat.reduceLT, Nat.reduceLeDiff, Nat.reduceMul, Nat.reduceEqDiff, reduceCtorEq, Int.reduceLE, Int.reduceLT, Int.reduceEq, Int.reduceNe, Int.reduceBEq, Int.reduceBNe, Int.reduceAdd, Int.reduceSub, gA hp, sA hp, gL0, sL0, gL1, sL1]
          refine Fini.trim2 (ex := [_]) ?_ rfl ?_ (bel_rv _ _) (hb2 _ _)
          · (simp -implicitDefEqProofs only [go_sem, List.reduceReplicate, Nat.reduceAdd, Nat.reduceSub, Nat.reduceLT, Nat.reduceLeDiff, Nat.reduceMul, Nat.reduceEqDiff, reduceCtorEq, Int.reduceLE, Int.reduceLT, Int.reduceEq, Int.reduceNe, Int.reduceBEq, Int.reduceBNe, Int.reduceAdd, Int.reduceSub, resA, allSome, rvA, oneOf, gL0]; first | done | rfl | rw [rv_eq, hK] | (simp only [rv, rvK, rvL]; rw [rv_eq, hK]))
          · simp
      · refine CO.intro (hy _ 43 h43) ?_
        simp -implicitDefEqProofs only [go_sem, List.reduceReplicate, Nat.reduceAdd, Nat.reduceSub, Nat.reduceLT, Nat.reduceLeDiff, Nat.reduceMul, Nat.reduceEqDiff, reduceCtorEq, Int.reduceLE, Int.reduceLT, Int.reduceEq, Int.reduceNe, Int.reduceBEq, Int.reduceBNe, Int.reduceAdd, Int.reduceSub, gA hp, sA hp, gL0, sL0, gL1, sL1]
        refine Fini.trim2 (ex := [_]) ?_ rfl ?_ (bel_rv _ _) (hb2 _ _)
        · (simp -implicitDefEqProofs only [go_sem, List.reduceReplicate, Nat.reduceAdd, Nat.reduceSub, Nat.reduceLT, Nat.reduceLeDiff, Nat.reduceMul, Nat.reduceEqDiff, reduceCtorEq, Int.reduceLE, Int.reduceLT, Int.reduceEq, Int.reduceNe, Int.reduceBEq, Int.reduceBNe, Int.reduceAdd, Int.reduceSub, resA, allSome, rvA, oneOf, gL0]; first | done | rfl | rw [rv_eq, hK] | (simp only [rv, rvK, rvL]; rw [rv_eq, hK]))
        · simp
    · refine CO.intro (hy _ 42 h42) ?_
      simp -implicitDefEqProofs only [go_sem, List.reduceReplicate, Nat.reduceAdd, Nat.reduceSub, Nat.reduceLT, Nat.reduceLeDiff, Nat.reduceMul, Nat.reduceEqDiff, reduceCtorEq, Int.reduceLE, Int.reduceLT, Int.reduceEq, Int.reduceNe, Int.reduceBEq, Int.reduceBNe, Int.reduceAdd, Int.reduceSub, gA hp, sA hp, gL0, sL0, gL1, sL1]
      refine Fini.trim2 (ex := [_]) ?_ rfl ?_ (bel_rv _ _) (hb2 _ _)
      · (simp -implicitDefEqProofs only [go_sem, List.reduceReplicate, Nat.reduceAdd, Nat.reduceSub, Nat.reduceLT, Nat.reduceLeDiff, Nat.reduceMul, Nat.reduceEqDiff, reduceCtorEq, Int.reduceLE, Int.reduceLT, Int.reduceEq, Int.reduceNe, Int.reduceBEq, Int.reduceBNe, Int.reduceAdd, Int.reduceSub, resA, allSome, rvA, oneOf, gL0]; first | done | rfl | rw [rv_eq, hK] | (simp only [rv, rvK, rvL]; rw [rv_eq, hK]))
      · simp)
end
end Go.Proofs.Ytoiageeecdgleaa
