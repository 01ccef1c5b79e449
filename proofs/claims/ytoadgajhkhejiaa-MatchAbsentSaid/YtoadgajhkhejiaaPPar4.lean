/- The parser of patterns: what stands in brackets, walked. No condition. -/
import Derived.Test.YtoadgajhkhejiaaPPar3
set_option linter.unusedSimpArgs false
set_option linter.unusedVariables false
namespace Go.Proofs.Ytoadgajhkhejiaa
open Go Go.Ab
set_option maxRecDepth 100000

theorem bel_pob (n : Nat) (s : ByteArray) (a : Nat) (b : Bool) : BelO n (pob s a b) := by
  intro x hx
  simp only [List.mem_cons, List.not_mem_nil, or_false] at hx
  rcases hx with rfl | rfl | rfl <;> exact .pl _

theorem bel_sets (n : Nat) (S : List Int) : Bel n (.agg (S.map U)) := by
  refine .agg _ fun i hi => ?_
  have : ∀ y ∈ S.map U, Bel n y := by
    intro y hy
    simp only [List.mem_map] at hy
    obtain ⟨v, _, rfl⟩ := hy
    exact .pl _
  exact this _ (List.getElem_mem hi)

theorem bel_at {σ : St} {p : Nat} {s : ByteArray} {a : Nat} {b : Bool} (h : ∀ o ∈ σ.set p (pob s a b), BelO (σ.set p (pob s a b)).length o) (a' : Nat) (b' : Bool) :
    ∀ o ∈ σ.set p (pob s a' b'), BelO (σ.set p (pob s a' b')).length o := by
  have e : σ.set p (pob s a' b') = (σ.set p (pob s a b)).set p (pob s a' b') := by rw [List.set_set]
  have el : (σ.set p (pob s a' b')).length = (σ.set p (pob s a b)).length := by simp
  rw [el, e]
  exact bel_set h (bel_pob _ _ _ _)

theorem cMeas_start (s : ByteArray) (a : Nat) (b : Bool) : cMeas s a b true < s.size + 3 := by
  unfold cMeas
  have h0 : (if b = true then 0 else 1) ≤ 1 := by split <;> omega
  have h1 : (if (true : Bool) = true then 1 else 0) = 1 := rfl
  rw [h1]
  omega
theorem setAdd_map (S : List Int) (c : Nat) : (S.map U).set (0 + c / 64) (U (orU (S.getD (c / 64) 0) (bitU (c % 64)))) = (setAdd S c).map U := by
  rw [Nat.zero_add, setAdd, List.map_set]
theorem set_get {S : List Int} (h : S.length = 4) {c : Nat} (hc : c < 256) : (S.map U)[0 + c / 64]? = some (U (S.getD (c / 64) 0)) := by
  have hk : c / 64 < S.length := by omega
  rw [Nat.zero_add, List.getElem?_map, List.getElem?_eq_getElem hk]
  simp [List.getD, hk]
theorem wrap8 {n : Nat} (h : n < 256) : IntKind.u8.wrap (n : Int) = n := by
  simp only [IntKind.wrap, IntKind.bits, IntKind.signed]; simp; omega
theorem wrap64 {n : Nat} (h : n < 100000) : IntKind.i64.wrap (n : Int) = n := by
  simp only [IntKind.wrap, IntKind.bits, IntKind.signed]; simp; omega

theorem four {S : List Int} (h : S.length = 4) : ∃ a b c d, S = [a, b, c, d] := by
  match S, h with
  | [a, b, c, d], _ => exact ⟨a, b, c, d, rfl⟩

set_option maxHeartbeats 8000000 in
theorem class_ans (σ : St) (p : Nat) (s : ByteArray) (a : Nat) (b : Bool) (hp : p < σ.length) (hs : b = true ∨ s.size ≤ 40) :
    Ans Try.prog 146 [.ptr p 0] (σ.set p (pob s a b)) (.agg ((pclass s a b).1.map U)) (σ.set p (pob s (pclass s a b).2.1 (pclass s a b).2.2)) := by
  refine Ans.of_run' t146 (fun hbel _ => ?_)
  have hlen : (σ.set p (pob s a b)).length = σ.length := by simp
  simp -implicitDefEqProofs only [c146, r146, go_sem, List.reduceReplicate, Nat.reduceAdd, Nat.reduceSub, Nat.reduceLT, Nat.reduceLeDiff, Nat.reduceMul, Nat.reduceEqDiff, reduceCtorEq, Int.reduceLE, Int.reduceLT, Int.reduceEq, Int.reduceNe, Int.reduceBEq, Int.reduceBNe, Int.reduceAdd, Int.reduceSub, List.append_assoc, List.length_append, List.length_set]
  refine CO.intro (next_ans _ p s a b 94 hs (gA hp _ _)) ?_
  simp -implicitDefEqProofs only [go_sem, List.reduceReplicate, Nat.reduceAdd, Nat.reduceSub, Nat.reduceLT, Nat.reduceLeDiff, Nat.reduceMul, Nat.reduceEqDiff, reduceCtorEq, Int.reduceLE, Int.reduceLT, Int.reduceEq, Int.reduceNe, Int.reduceBEq, Int.reduceBNe, Int.reduceAdd, Int.reduceSub, sA hp]
  unfold pclass
  have hcm : cMeas s (nextA s a b 94) b true < s.size + 3 := cMeas_start _ _ _
  have hll : (classL s (s.size + 3) [0, 0, 0, 0] (nextA s a b 94) b true).1.length = 4 := classL_len _ _ _ _ _ _
  have hlh := classL_hs s (s.size + 3) [0, 0, 0, 0] (nextA s a b 94) b true hs
  generalize hres : classL s (s.size + 3) [0, 0, 0, 0] (nextA s a b 94) b true = res at hll hlh ⊢
  generalize sees s a b 94 = none
  refine L.intro (α := { x : Nat × List Int × Nat × Bool × Bool // classL s x.1 x.2.1 x.2.2.1 x.2.2.2.1 x.2.2.2.2 = res ∧ cMeas s x.2.2.1 x.2.2.2.1 x.2.2.2.2 < x.1 ∧ x.2.1.length = 4 ∧ (x.2.2.2.1 = true ∨ s.size ≤ 40) })
    (fun x => x.1.1)
    (fun x => mkE 68 [(0, .ptr p 0), (2, .ptr σ.length 0), (3, .ptr (σ.length + 1) 0), (4, Bo none), (5, Bo x.1.2.2.2.2)])
    (fun x => σ.set p (pob s x.1.2.2.1 x.1.2.2.2.1) ++ [.box [U 0, U 0, U 0, U 0], .box (x.1.2.1.map U)])
    (fun x J hJ => ?_) ⟨(s.size + 3, [0, 0, 0, 0], nextA s a b 94, b, true), hres, hcm, rfl, hs⟩ ?_ ?_
  · obtain ⟨⟨n, S, a1, b1, first⟩, h1, h2, h3, h4⟩ := x
    simp only at h1 h2 h3 h4 hJ ⊢
    cases n with
    | zero => omega
    | succ n =>
    rw [classL] at h1
    cases hgo : cGo s a1 b1 first with
    | false =>
      rw [hgo] at h1
      simp only [Bool.false_eq_true, if_false] at h1
      subst h1
      have hf : first = false := by cases first <;> simp [cGo] at hgo ⊢
      subst hf
      have hov : ∀ ex, Ans Try.prog 132 [.ptr p 0] (σ.set p (pob s a1 b1) ++ ex) (Bo (over s a1 b1)) (σ.set p (pob s a1 b1) ++ ex) := fun ex => over_ans _ p s a1 b1 (gA hp _ _)
      have hse : ∀ ex, Ans Try.prog 133 [.ptr p 0, B8 (93 : Nat)] (σ.set p (pob s a1 b1) ++ ex) (Bo (sees s a1 b1 93)) (σ.set p (pob s a1 b1) ++ ex) := fun ex => sees_ans _ p s a1 b1 93 (gA hp _ _)
      have hend : ∀ J : Prop, J → J := fun _ h => h
      obtain ⟨x0, x1, x2, x3, rfl⟩ := four h3
      have hnx : ∀ (c : Nat), Ans Try.prog 118 [.ptr p 0, B8 c] (σ.set p (pob s a1 b1) ++ [.box [U 0, U 0, U 0, U 0], .box [U x0, U x1, U x2, U x3]]) (Bo (sees s a1 b1 c)) (σ.set p (pob s (nextA s a1 b1 c) b1) ++ [.box [U 0, U 0, U 0, U 0], .box [U x0, U x1, U x2, U x3]]) := fun c => by
        have := next_ans (σ.set p (pob s a1 b1) ++ [.box [U 0, U 0, U 0, U 0], .box [U x0, U x1, U x2, U x3]]) p s a1 b1 c h4 (gA hp _ _)
        rwa [sA hp] at this
      cases ho : over s a1 b1 with
      | true =>
        have hs93 : sees s a1 b1 93 = false := by simp [sees, ho]
        simp -implicitDefEqProofs only [mkE, List.foldl_cons, List.foldl_nil, go_sem, List.reduceReplicate, Nat.reduceAdd, Nat.reduceSub, Nat.reduceLT, Nat.reduceLeDiff, Nat.reduceMul, Nat.reduceEqDiff, reduceCtorEq, Int.reduceLE, Int.reduceLT, Int.reduceEq, Int.reduceNe, Int.reduceBEq, Int.reduceBNe, Int.reduceAdd, Int.reduceSub]
        refine CO.intro (hov _) ?_
        simp -implicitDefEqProofs only [go_sem, List.reduceReplicate, Nat.reduceAdd, Nat.reduceSub, Nat.reduceLT, Nat.reduceLeDiff, Nat.reduceMul, Nat.reduceEqDiff, reduceCtorEq, Int.reduceLE, Int.reduceLT, Int.reduceEq, Int.reduceNe, Int.reduceBEq, Int.reduceBNe, Int.reduceAdd, Int.reduceSub, ho]
        refine CO.intro (hnx 93) ?_
        cases none
        · simp -implicitDefEqProofs only [go_sem, List.reduceReplicate, Nat.reduceAdd, Nat.reduceSub, Nat.reduceLT, Nat.reduceLeDiff, Nat.reduceMul, Nat.reduceEqDiff, reduceCtorEq, Int.reduceLE, Int.reduceLT, Int.reduceEq, Int.reduceNe, Int.reduceBEq, Int.reduceBNe, Int.reduceAdd, Int.reduceSub, hs93, sA hp, gA hp, gL0, sL0, gL1, sL1, nextA]
          refine Fini.trim2 (σ' := σ.set p (pob s a1 true)) (ex := [.box [U x0, U x1, U x2, U x3], .box [U x0, U x1, U x2, U x3]]) ?_ rfl ?_ (bel_sets _ [x0, x1, x2, x3]) ?_
          · simp -implicitDefEqProofs only [go_sem, List.reduceReplicate, Nat.reduceAdd, Nat.reduceSub, Nat.reduceLT, Nat.reduceLeDiff, Nat.reduceMul, Nat.reduceEqDiff, reduceCtorEq, Int.reduceLE, Int.reduceLT, Int.reduceEq, Int.reduceNe, Int.reduceBEq, Int.reduceBNe, Int.reduceAdd, Int.reduceSub, resA, allSome, rvA, oneOf, gL0]
          · simp
          · exact bel_at hbel _ _
        · simp -implicitDefEqProofs only [go_sem, List.reduceReplicate, Nat.reduceAdd, Nat.reduceSub, Nat.reduceLT, Nat.reduceLeDiff, Nat.reduceMul, Nat.reduceEqDiff, reduceCtorEq, Int.reduceLE, Int.reduceLT, Int.reduceEq, Int.reduceNe, Int.reduceBEq, Int.reduceBNe, Int.reduceAdd, Int.reduceSub, hs93, sA hp, gA hp, gL0, sL0, gL1, sL1, nextA]
          refine CO.intro (turned_ans _ x0 x1 x2 x3) ?_
          simp -implicitDefEqProofs only [go_sem, List.reduceReplicate, Nat.reduceAdd, Nat.reduceSub, Nat.reduceLT, Nat.reduceLeDiff, Nat.reduceMul, Nat.reduceEqDiff, reduceCtorEq, Int.reduceLE, Int.reduceLT, Int.reduceEq, Int.reduceNe, Int.reduceBEq, Int.reduceBNe, Int.reduceAdd, Int.reduceSub, sA hp, gA hp, gL0, sL0, gL1, sL1, turnS]
          refine Fini.trim2 (σ' := σ.set p (pob s a1 true)) (ex := [.box [U (notU x0), U (notU x1), U (notU x2), U (notU x3)], .box [U x0, U x1, U x2, U x3]]) ?_ rfl ?_ (bel_sets _ [notU x0, notU x1, notU x2, notU x3]) ?_
          · simp -implicitDefEqProofs only [go_sem, List.reduceReplicate, Nat.reduceAdd, Nat.reduceSub, Nat.reduceLT, Nat.reduceLeDiff, Nat.reduceMul, Nat.reduceEqDiff, reduceCtorEq, Int.reduceLE, Int.reduceLT, Int.reduceEq, Int.reduceNe, Int.reduceBEq, Int.reduceBNe, Int.reduceAdd, Int.reduceSub, resA, allSome, rvA, oneOf, gL0]
          · simp
          · exact bel_at hbel _ _
      | false =>
        have hs93 : sees s a1 b1 93 = true := by simpa [cGo, ho] using hgo
        simp -implicitDefEqProofs only [mkE, List.foldl_cons, List.foldl_nil, go_sem, List.reduceReplicate, Nat.reduceAdd, Nat.reduceSub, Nat.reduceLT, Nat.reduceLeDiff, Nat.reduceMul, Nat.reduceEqDiff, reduceCtorEq, Int.reduceLE, Int.reduceLT, Int.reduceEq, Int.reduceNe, Int.reduceBEq, Int.reduceBNe, Int.reduceAdd, Int.reduceSub]
        refine CO.intro (hov _) ?_
        simp -implicitDefEqProofs only [go_sem, List.reduceReplicate, Nat.reduceAdd, Nat.reduceSub, Nat.reduceLT, Nat.reduceLeDiff, Nat.reduceMul, Nat.reduceEqDiff, reduceCtorEq, Int.reduceLE, Int.reduceLT, Int.reduceEq, Int.reduceNe, Int.reduceBEq, Int.reduceBNe, Int.reduceAdd, Int.reduceSub, ho]
        refine CO.intro (hse _) ?_
        simp -implicitDefEqProofs only [go_sem, List.reduceReplicate, Nat.reduceAdd, Nat.reduceSub, Nat.reduceLT, Nat.reduceLeDiff, Nat.reduceMul, Nat.reduceEqDiff, reduceCtorEq, Int.reduceLE, Int.reduceLT, Int.reduceEq, Int.reduceNe, Int.reduceBEq, Int.reduceBNe, Int.reduceAdd, Int.reduceSub, hs93]
        refine CO.intro (hnx 93) ?_
        cases none
        · simp -implicitDefEqProofs only [go_sem, List.reduceReplicate, Nat.reduceAdd, Nat.reduceSub, Nat.reduceLT, Nat.reduceLeDiff, Nat.reduceMul, Nat.reduceEqDiff, reduceCtorEq, Int.reduceLE, Int.reduceLT, Int.reduceEq, Int.reduceNe, Int.reduceBEq, Int.reduceBNe, Int.reduceAdd, Int.reduceSub, hs93, sA hp, gA hp, gL0, sL0, gL1, sL1, nextA]
          refine Fini.trim2 (σ' := σ.set p (pob s (a1 + 1) b1)) (ex := [.box [U x0, U x1, U x2, U x3], .box [U x0, U x1, U x2, U x3]]) ?_ rfl ?_ (bel_sets _ [x0, x1, x2, x3]) ?_
          · simp -implicitDefEqProofs only [go_sem, List.reduceReplicate, Nat.reduceAdd, Nat.reduceSub, Nat.reduceLT, Nat.reduceLeDiff, Nat.reduceMul, Nat.reduceEqDiff, reduceCtorEq, Int.reduceLE, Int.reduceLT, Int.reduceEq, Int.reduceNe, Int.reduceBEq, Int.reduceBNe, Int.reduceAdd, Int.reduceSub, resA, allSome, rvA, oneOf, gL0]
          · simp
          · exact bel_at hbel _ _
        · simp -implicitDefEqProofs only [go_sem, List.reduceReplicate, Nat.reduceAdd, Nat.reduceSub, Nat.reduceLT, Nat.reduceLeDiff, Nat.reduceMul, Nat.reduceEqDiff, reduceCtorEq, Int.reduceLE, Int.reduceLT, Int.reduceEq, Int.reduceNe, Int.reduceBEq, Int.reduceBNe, Int.reduceAdd, Int.reduceSub, hs93, sA hp, gA hp, gL0, sL0, gL1, sL1, nextA]
          refine CO.intro (turned_ans _ x0 x1 x2 x3) ?_
          simp -implicitDefEqProofs only [go_sem, List.reduceReplicate, Nat.reduceAdd, Nat.reduceSub, Nat.reduceLT, Nat.reduceLeDiff, Nat.reduceMul, Nat.reduceEqDiff, reduceCtorEq, Int.reduceLE, Int.reduceLT, Int.reduceEq, Int.reduceNe, Int.reduceBEq, Int.reduceBNe, Int.reduceAdd, Int.reduceSub, sA hp, gA hp, gL0, sL0, gL1, sL1, turnS]
          refine Fini.trim2 (σ' := σ.set p (pob s (a1 + 1) b1)) (ex := [.box [U (notU x0), U (notU x1), U (notU x2), U (notU x3)], .box [U x0, U x1, U x2, U x3]]) ?_ rfl ?_ (bel_sets _ [notU x0, notU x1, notU x2, notU x3]) ?_
          · simp -implicitDefEqProofs only [go_sem, List.reduceReplicate, Nat.reduceAdd, Nat.reduceSub, Nat.reduceLT, Nat.reduceLeDiff, Nat.reduceMul, Nat.reduceEqDiff, reduceCtorEq, Int.reduceLE, Int.reduceLT, Int.reduceEq, Int.reduceNe, Int.reduceBEq, Int.reduceBNe, Int.reduceAdd, Int.reduceSub, resA, allSome, rvA, oneOf, gL0]
          · simp
          · exact bel_at hbel _ _
    | true =>
      rw [hgo, if_pos rfl] at h1
      have h5 := cMeas_lt s a1 b1 first hgo
      have hJm : cMeas s (cTo s a1 b1).2.1 (cBad s a1 b1) false < n := by omega
      have hJl : (addR S (pmember s a1 b1).1 ((cTo s a1 b1).1 + 1 - (pmember s a1 b1).1)).length = 4 := by rw [addR_len]; exact h3
      have hJ' := hJ ⟨(n, addR S (pmember s a1 b1).1 ((cTo s a1 b1).1 + 1 - (pmember s a1 b1).1), (cTo s a1 b1).2.1, cBad s a1 b1, false), h1, hJm, hJl, cBad_hs h4⟩ (Nat.lt_succ_self n)
      simp only at hJ'
      have hm1 := pmember_lt s a1 b1
      have hm2 := cTo_lt s a1 b1
      have hm3 := pmember_hs (a := a1) h4
      clear hJ h1 h2 h5
      have hmem : ∀ ex, Ans Try.prog 156 [.ptr p 0] (σ.set p (pob s a1 b1) ++ ex) (B8 (pmember s a1 b1).1) (σ.set p (pob s (pmember s a1 b1).2.1 (pmember s a1 b1).2.2) ++ ex) := fun ex => by
        have := member_ans (σ.set p (pob s a1 b1) ++ ex) p s a1 b1 h4 (gA hp _ _)
        rwa [sA hp] at this
      have hnext : ∀ (a : Nat) (b : Bool) (c : Nat) ex, (b = true ∨ s.size ≤ 40) → Ans Try.prog 118 [.ptr p 0, B8 c] (σ.set p (pob s a b) ++ ex) (Bo (sees s a b c)) (σ.set p (pob s (nextA s a b c) b) ++ ex) := fun a b c ex h => by
        have := next_ans (σ.set p (pob s a b) ++ ex) p s a b c h (gA hp _ _)
        rwa [sA hp] at this
      have hfin : ∀ (f t aT : Nat) (bT : Bool) (Q : Env → St → Prop), True := fun _ _ _ _ _ => trivial
      cases first
      all_goals first
      | (simp -implicitDefEqProofs only [mkE, List.foldl_cons, List.foldl_nil, go_sem, List.reduceReplicate, Nat.reduceAdd, Nat.reduceSub, Nat.reduceLT, Nat.reduceLeDiff, Nat.reduceMul, Nat.reduceEqDiff, reduceCtorEq, Int.reduceLE, Int.reduceLT, Int.reduceEq, Int.reduceNe, Int.reduceBEq, Int.reduceBNe, Int.reduceAdd, Int.reduceSub]
         refine CO.intro (hmem _) ?_
         simp -implicitDefEqProofs only [go_sem, List.reduceReplicate, Nat.reduceAdd, Nat.reduceSub, Nat.reduceLT, Nat.reduceLeDiff, Nat.reduceMul, Nat.reduceEqDiff, reduceCtorEq, Int.reduceLE, Int.reduceLT, Int.reduceEq, Int.reduceNe, Int.reduceBEq, Int.reduceBNe, Int.reduceAdd, Int.reduceSub])
      | (have ho : over s a1 b1 = false := by simp [cGo] at hgo; exact hgo.1
         have hs93 : sees s a1 b1 93 = false := by simp [cGo] at hgo; exact hgo.2
         simp -implicitDefEqProofs only [mkE, List.foldl_cons, List.foldl_nil, go_sem, List.reduceReplicate, Nat.reduceAdd, Nat.reduceSub, Nat.reduceLT, Nat.reduceLeDiff, Nat.reduceMul, Nat.reduceEqDiff, reduceCtorEq, Int.reduceLE, Int.reduceLT, Int.reduceEq, Int.reduceNe, Int.reduceBEq, Int.reduceBNe, Int.reduceAdd, Int.reduceSub]
         refine CO.intro (over_ans _ p s a1 b1 (gA hp _ _)) ?_
         simp -implicitDefEqProofs only [go_sem, List.reduceReplicate, Nat.reduceAdd, Nat.reduceSub, Nat.reduceLT, Nat.reduceLeDiff, Nat.reduceMul, Nat.reduceEqDiff, reduceCtorEq, Int.reduceLE, Int.reduceLT, Int.reduceEq, Int.reduceNe, Int.reduceBEq, Int.reduceBNe, Int.reduceAdd, Int.reduceSub, ho]
         refine CO.intro (sees_ans _ p s a1 b1 93 (gA hp _ _)) ?_
         simp -implicitDefEqProofs only [go_sem, List.reduceReplicate, Nat.reduceAdd, Nat.reduceSub, Nat.reduceLT, Nat.reduceLeDiff, Nat.reduceMul, Nat.reduceEqDiff, reduceCtorEq, Int.reduceLE, Int.reduceLT, Int.reduceEq, Int.reduceNe, Int.reduceBEq, Int.reduceBNe, Int.reduceAdd, Int.reduceSub, hs93]
         refine CO.intro (hmem _) ?_
         simp -implicitDefEqProofs only [go_sem, List.reduceReplicate, Nat.reduceAdd, Nat.reduceSub, Nat.reduceLT, Nat.reduceLeDiff, Nat.reduceMul, Nat.reduceEqDiff, reduceCtorEq, Int.reduceLE, Int.reduceLT, Int.reduceEq, Int.reduceNe, Int.reduceBEq, Int.reduceBNe, Int.reduceAdd, Int.reduceSub])
      all_goals (
        clear hgo hmem
        refine CO.intro (hnext _ _ 45 _ hm3) ?_
        have hto : cTo s a1 b1 = if sees s (pmember s a1 b1).2.1 (pmember s a1 b1).2.2 45 then pmember s ((pmember s a1 b1).2.1 + 1) (pmember s a1 b1).2.2 else pmember s a1 b1 := rfl
        have hbd : cBad s a1 b1 = ((cTo s a1 b1).2.2 || decide ((cTo s a1 b1).1 < (pmember s a1 b1).1)) := rfl
        have hnx : nextA s (pmember s a1 b1).2.1 (pmember s a1 b1).2.2 45 = if sees s (pmember s a1 b1).2.1 (pmember s a1 b1).2.2 45 then (pmember s a1 b1).2.1 + 1 else (pmember s a1 b1).2.1 := rfl
        rw [hnx]
        rw [hbd] at hJ'
        generalize pmember s a1 b1 = m at *
        obtain ⟨f, am, bm⟩ := m
        simp only at hm1 hm3 hto hJ' ⊢
        have hmem2 : ∀ ex, Ans Try.prog 156 [.ptr p 0] (σ.set p (pob s (am + 1) bm) ++ ex) (B8 (pmember s (am + 1) bm).1) (σ.set p (pob s (pmember s (am + 1) bm).2.1 (pmember s (am + 1) bm).2.2) ++ ex) := fun ex => by
          have := member_ans (σ.set p (pob s (am + 1) bm) ++ ex) p s (am + 1) bm hm3 (gA hp _ _)
          rwa [sA hp] at this
        cases hsee : sees s am bm 45)
      all_goals (
        first
        | (rw [hsee, if_pos rfl] at hto
           simp -implicitDefEqProofs only [go_sem, List.reduceReplicate, Nat.reduceAdd, Nat.reduceSub, Nat.reduceLT, Nat.reduceLeDiff, Nat.reduceMul, Nat.reduceEqDiff, reduceCtorEq, Int.reduceLE, Int.reduceLT, Int.reduceEq, Int.reduceNe, Int.reduceBEq, Int.reduceBNe, Int.reduceAdd, Int.reduceSub]
           refine CO.intro (hmem2 _) ?_
           rw [← hto]
           simp -implicitDefEqProofs only [go_sem, List.reduceReplicate, Nat.reduceAdd, Nat.reduceSub, Nat.reduceLT, Nat.reduceLeDiff, Nat.reduceMul, Nat.reduceEqDiff, reduceCtorEq, Int.reduceLE, Int.reduceLT, Int.reduceEq, Int.reduceNe, Int.reduceBEq, Int.reduceBNe, Int.reduceAdd, Int.reduceSub])
        | (rw [hsee, if_neg Bool.false_ne_true] at hto
           simp -implicitDefEqProofs only [go_sem, List.reduceReplicate, Nat.reduceAdd, Nat.reduceSub, Nat.reduceLT, Nat.reduceLeDiff, Nat.reduceMul, Nat.reduceEqDiff, reduceCtorEq, Int.reduceLE, Int.reduceLT, Int.reduceEq, Int.reduceNe, Int.reduceBEq, Int.reduceBNe, Int.reduceAdd, Int.reduceSub]))
      all_goals (
        clear hmem2 hnx
        first | rw [← hto] | rw [show ((f, am, bm) : Nat × Nat × Bool) = cTo s a1 b1 from hto.symm] | skip)
      · rw [hto] at hm2 hJ'
        clear hto
        simp only at hm2 hJ'
        have d1 : decide ((f : Int) < (f : Int)) = decide (f < f) := by rw [Bool.eq_iff_iff]; simp
        have d2 : IntKind.i64.wrap (f : Int) = (f : Int) := wrap64 (by omega)
        have d3 : IntKind.i64.wrap (f : Int) = (f : Int) := wrap64 (by omega)
        cases bm
        all_goals (
          simp -implicitDefEqProofs only [go_sem, List.reduceReplicate, Nat.reduceAdd, Nat.reduceSub, Nat.reduceLT, Nat.reduceLeDiff, Nat.reduceMul, Nat.reduceEqDiff, reduceCtorEq, Int.reduceLE, Int.reduceLT, Int.reduceEq, Int.reduceNe, Int.reduceBEq, Int.reduceBNe, Int.reduceAdd, Int.reduceSub, gA hp, sA hp, d1, d2, Bool.true_or, Bool.false_or] at hJ' ⊢
          refine L.count (f + 1 - f) (fun i => mkE 68 [(0, .ptr p 0), (2, .ptr σ.length 0), (3, .ptr (σ.length + 1) 0), (4, Bo none), (7, B8 f), (8, I ((f + i : Nat) : Int))])
            (fun i => σ.set p (pob s am _) ++ [.box [U 0, U 0, U 0, U 0], .box ((addR S f i).map U)]) ?_ ?_ rfl rfl
          · intro i hi Q hQ
            have c1 : (((f + i : Nat) : Int) ≤ (f : Int)) = True := by simp; omega
            have c2 : IntKind.u8.wrap ((f + i : Nat) : Int) = ((f + i : Nat) : Int) := wrap8 (by omega)
            have c3 : IntKind.i64.wrap (((f + i : Nat) : Int) + 1) = ((f + (i + 1) : Nat) : Int) := by rw [wrapN (by omega) (by omega)]; omega
            simp -implicitDefEqProofs only [mkE, List.foldl_cons, List.foldl_nil, go_sem, List.reduceReplicate, Nat.reduceAdd, Nat.reduceSub, Nat.reduceLT, Nat.reduceLeDiff, Nat.reduceMul, Nat.reduceEqDiff, reduceCtorEq, Int.reduceLE, Int.reduceLT, Int.reduceEq, Int.reduceNe, Int.reduceBEq, Int.reduceBNe, Int.reduceAdd, Int.reduceSub, d3, c1, c2, c3]
            refine CO.intro (add_ans _ (σ.length + 1) 0 ((addR S f i).map U) (f + i) _ (gL1 _ _ _ _ _ _) (set_get (by rw [addR_len]; exact h3) (by omega)) (by omega)) ?_
            rw [sL1, setAdd_map]
            simp -implicitDefEqProofs only [go_sem, List.reduceReplicate, Nat.reduceAdd, Nat.reduceSub, Nat.reduceLT, Nat.reduceLeDiff, Nat.reduceMul, Nat.reduceEqDiff, reduceCtorEq, Int.reduceLE, Int.reduceLT, Int.reduceEq, Int.reduceNe, Int.reduceBEq, Int.reduceBNe, Int.reduceAdd, Int.reduceSub, c3]
            exact hQ
          · intro Q
            have c1 : (((f + (f + 1 - f) : Nat) : Int) ≤ (f : Int)) = False := by simp; omega
            simp -implicitDefEqProofs only [mkE, List.foldl_cons, List.foldl_nil, go_sem, List.reduceReplicate, Nat.reduceAdd, Nat.reduceSub, Nat.reduceLT, Nat.reduceLeDiff, Nat.reduceMul, Nat.reduceEqDiff, reduceCtorEq, Int.reduceLE, Int.reduceLT, Int.reduceEq, Int.reduceNe, Int.reduceBEq, Int.reduceBNe, Int.reduceAdd, Int.reduceSub, d3, c1]
            exact hJ')
      · clear hto
        generalize cTo s a1 b1 = q at hm2 hJ' hJm hJl ⊢
        obtain ⟨t, aT, bT⟩ := q
        simp only at hm2 hJ' ⊢
        have d1 : decide ((t : Int) < (f : Int)) = decide (t < f) := by rw [Bool.eq_iff_iff]; simp
        have d2 : IntKind.i64.wrap (f : Int) = (f : Int) := wrap64 (by omega)
        have d3 : IntKind.i64.wrap (t : Int) = (t : Int) := wrap64 (by omega)
        cases bT
        all_goals (
          simp -implicitDefEqProofs only [go_sem, List.reduceReplicate, Nat.reduceAdd, Nat.reduceSub, Nat.reduceLT, Nat.reduceLeDiff, Nat.reduceMul, Nat.reduceEqDiff, reduceCtorEq, Int.reduceLE, Int.reduceLT, Int.reduceEq, Int.reduceNe, Int.reduceBEq, Int.reduceBNe, Int.reduceAdd, Int.reduceSub, gA hp, sA hp, d1, d2, Bool.true_or, Bool.false_or] at hJ' ⊢
          refine L.count (t + 1 - f) (fun i => mkE 68 [(0, .ptr p 0), (2, .ptr σ.length 0), (3, .ptr (σ.length + 1) 0), (4, Bo none), (7, B8 t), (8, I ((f + i : Nat) : Int))])
            (fun i => σ.set p (pob s aT _) ++ [.box [U 0, U 0, U 0, U 0], .box ((addR S f i).map U)]) ?_ ?_ rfl rfl
          · intro i hi Q hQ
            have c1 : (((f + i : Nat) : Int) ≤ (t : Int)) = True := by simp; omega
            have c2 : IntKind.u8.wrap ((f + i : Nat) : Int) = ((f + i : Nat) : Int) := wrap8 (by omega)
            have c3 : IntKind.i64.wrap (((f + i : Nat) : Int) + 1) = ((f + (i + 1) : Nat) : Int) := by rw [wrapN (by omega) (by omega)]; omega
            simp -implicitDefEqProofs only [mkE, List.foldl_cons, List.foldl_nil, go_sem, List.reduceReplicate, Nat.reduceAdd, Nat.reduceSub, Nat.reduceLT, Nat.reduceLeDiff, Nat.reduceMul, Nat.reduceEqDiff, reduceCtorEq, Int.reduceLE, Int.reduceLT, Int.reduceEq, Int.reduceNe, Int.reduceBEq, Int.reduceBNe, Int.reduceAdd, Int.reduceSub, d3, c1, c2, c3]
            refine CO.intro (add_ans _ (σ.length + 1) 0 ((addR S f i).map U) (f + i) _ (gL1 _ _ _ _ _ _) (set_get (by rw [addR_len]; exact h3) (by omega)) (by omega)) ?_
            rw [sL1, setAdd_map]
            simp -implicitDefEqProofs only [go_sem, List.reduceReplicate, Nat.reduceAdd, Nat.reduceSub, Nat.reduceLT, Nat.reduceLeDiff, Nat.reduceMul, Nat.reduceEqDiff, reduceCtorEq, Int.reduceLE, Int.reduceLT, Int.reduceEq, Int.reduceNe, Int.reduceBEq, Int.reduceBNe, Int.reduceAdd, Int.reduceSub, c3]
            exact hQ
          · intro Q
            have c1 : (((f + (t + 1 - f) : Nat) : Int) ≤ (t : Int)) = False := by simp; omega
            simp -implicitDefEqProofs only [mkE, List.foldl_cons, List.foldl_nil, go_sem, List.reduceReplicate, Nat.reduceAdd, Nat.reduceSub, Nat.reduceLT, Nat.reduceLeDiff, Nat.reduceMul, Nat.reduceEqDiff, reduceCtorEq, Int.reduceLE, Int.reduceLT, Int.reduceEq, Int.reduceNe, Int.reduceBEq, Int.reduceBNe, Int.reduceAdd, Int.reduceSub, d3, c1]
            exact hJ')
      · rw [hto] at hm2 hJ'
        clear hto
        simp only at hm2 hJ'
        have d1 : decide ((f : Int) < (f : Int)) = decide (f < f) := by rw [Bool.eq_iff_iff]; simp
        have d2 : IntKind.i64.wrap (f : Int) = (f : Int) := wrap64 (by omega)
        have d3 : IntKind.i64.wrap (f : Int) = (f : Int) := wrap64 (by omega)
        cases bm
        all_goals (
          simp -implicitDefEqProofs only [go_sem, List.reduceReplicate, Nat.reduceAdd, Nat.reduceSub, Nat.reduceLT, Nat.reduceLeDiff, Nat.reduceMul, Nat.reduceEqDiff, reduceCtorEq, Int.reduceLE, Int.reduceLT, Int.reduceEq, Int.reduceNe, Int.reduceBEq, Int.reduceBNe, Int.reduceAdd, Int.reduceSub, gA hp, sA hp, d1, d2, Bool.true_or, Bool.false_or] at hJ' ⊢
          refine L.count (f + 1 - f) (fun i => mkE 68 [(0, .ptr p 0), (2, .ptr σ.length 0), (3, .ptr (σ.length + 1) 0), (4, Bo none), (7, B8 f), (8, I ((f + i : Nat) : Int))])
            (fun i => σ.set p (pob s am _) ++ [.box [U 0, U 0, U 0, U 0], .box ((addR S f i).map U)]) ?_ ?_ rfl rfl
          · intro i hi Q hQ
            have c1 : (((f + i : Nat) : Int) ≤ (f : Int)) = True := by simp; omega
            have c2 : IntKind.u8.wrap ((f + i : Nat) : Int) = ((f + i : Nat) : Int) := wrap8 (by omega)
            have c3 : IntKind.i64.wrap (((f + i : Nat) : Int) + 1) = ((f + (i + 1) : Nat) : Int) := by rw [wrapN (by omega) (by omega)]; omega
            simp -implicitDefEqProofs only [mkE, List.foldl_cons, List.foldl_nil, go_sem, List.reduceReplicate, Nat.reduceAdd, Nat.reduceSub, Nat.reduceLT, Nat.reduceLeDiff, Nat.reduceMul, Nat.reduceEqDiff, reduceCtorEq, Int.reduceLE, Int.reduceLT, Int.reduceEq, Int.reduceNe, Int.reduceBEq, Int.reduceBNe, Int.reduceAdd, Int.reduceSub, d3, c1, c2, c3]
            refine CO.intro (add_ans _ (σ.length + 1) 0 ((addR S f i).map U) (f + i) _ (gL1 _ _ _ _ _ _) (set_get (by rw [addR_len]; exact h3) (by omega)) (by omega)) ?_
            rw [sL1, setAdd_map]
            simp -implicitDefEqProofs only [go_sem, List.reduceReplicate, Nat.reduceAdd, Nat.reduceSub, Nat.reduceLT, Nat.reduceLeDiff, Nat.reduceMul, Nat.reduceEqDiff, reduceCtorEq, Int.reduceLE, Int.reduceLT, Int.reduceEq, Int.reduceNe, Int.reduceBEq, Int.reduceBNe, Int.reduceAdd, Int.reduceSub, c3]
            exact hQ
          · intro Q
            have c1 : (((f + (f + 1 - f) : Nat) : Int) ≤ (f : Int)) = False := by simp; omega
            simp -implicitDefEqProofs only [mkE, List.foldl_cons, List.foldl_nil, go_sem, List.reduceReplicate, Nat.reduceAdd, Nat.reduceSub, Nat.reduceLT, Nat.reduceLeDiff, Nat.reduceMul, Nat.reduceEqDiff, reduceCtorEq, Int.reduceLE, Int.reduceLT, Int.reduceEq, Int.reduceNe, Int.reduceBEq, Int.reduceBNe, Int.reduceAdd, Int.reduceSub, d3, c1]
            exact hJ')
      · clear hto
        generalize cTo s a1 b1 = q at hm2 hJ' hJm hJl ⊢
        obtain ⟨t, aT, bT⟩ := q
        simp only at hm2 hJ' ⊢
        have d1 : decide ((t : Int) < (f : Int)) = decide (t < f) := by rw [Bool.eq_iff_iff]; simp
        have d2 : IntKind.i64.wrap (f : Int) = (f : Int) := wrap64 (by omega)
        have d3 : IntKind.i64.wrap (t : Int) = (t : Int) := wrap64 (by omega)
        cases bT
        all_goals (
          simp -implicitDefEqProofs only [go_sem, List.reduceReplicate, Nat.reduceAdd, Nat.reduceSub, Nat.reduceLT, Nat.reduceLeDiff, Nat.reduceMul, Nat.reduceEqDiff, reduceCtorEq, Int.reduceLE, Int.reduceLT, Int.reduceEq, Int.reduceNe, Int.reduceBEq, Int.reduceBNe, Int.reduceAdd, Int.reduceSub, gA hp, sA hp, d1, d2, Bool.true_or, Bool.false_or] at hJ' ⊢
          refine L.count (t + 1 - f) (fun i => mkE 68 [(0, .ptr p 0), (2, .ptr σ.length 0), (3, .ptr (σ.length + 1) 0), (4, Bo none), (7, B8 t), (8, I ((f + i : Nat) : Int))])
            (fun i => σ.set p (pob s aT _) ++ [.box [U 0, U 0, U 0, U 0], .box ((addR S f i).map U)]) ?_ ?_ rfl rfl
          · intro i hi Q hQ
            have c1 : (((f + i : Nat) : Int) ≤ (t : Int)) = True := by simp; omega
            have c2 : IntKind.u8.wrap ((f + i : Nat) : Int) = ((f + i : Nat) : Int) := wrap8 (by omega)
            have c3 : IntKind.i64.wrap (((f + i : Nat) : Int) + 1) = ((f + (i + 1) : Nat) : Int) := by rw [wrapN (by omega) (by omega)]; omega
            simp -implicitDefEqProofs only [mkE, List.foldl_cons, List.foldl_nil, go_sem, List.reduceReplicate, Nat.reduceAdd, Nat.reduceSub, Nat.reduceLT, Nat.reduceLeDiff, Nat.reduceMul, Nat.reduceEqDiff, reduceCtorEq, Int.reduceLE, Int.reduceLT, Int.reduceEq, Int.reduceNe, Int.reduceBEq, Int.reduceBNe, Int.reduceAdd, Int.reduceSub, d3, c1, c2, c3]
            refine CO.intro (add_ans _ (σ.length + 1) 0 ((addR S f i).map U) (f + i) _ (gL1 _ _ _ _ _ _) (set_get (by rw [addR_len]; exact h3) (by omega)) (by omega)) ?_
            rw [sL1, setAdd_map]
            simp -implicitDefEqProofs only [go_sem, List.reduceReplicate, Nat.reduceAdd, Nat.reduceSub, Nat.reduceLT, Nat.reduceLeDiff, Nat.reduceMul, Nat.reduceEqDiff, reduceCtorEq, Int.reduceLE, Int.reduceLT, Int.reduceEq, Int.reduceNe, Int.reduceBEq, Int.reduceBNe, Int.reduceAdd, Int.reduceSub, c3]
            exact hQ
          · intro Q
            have c1 : (((f + (t + 1 - f) : Nat) : Int) ≤ (t : Int)) = False := by simp; omega
            simp -implicitDefEqProofs only [mkE, List.foldl_cons, List.foldl_nil, go_sem, List.reduceReplicate, Nat.reduceAdd, Nat.reduceSub, Nat.reduceLT, Nat.reduceLeDiff, Nat.reduceMul, Nat.reduceEqDiff, reduceCtorEq, Int.reduceLE, Int.reduceLT, Int.reduceEq, Int.reduceNe, Int.reduceBEq, Int.reduceBNe, Int.reduceAdd, Int.reduceSub, d3, c1]
            exact hJ')
  · simp [mkE]
  · simp
end Go.Proofs.Ytoadgajhkhejiaa
