/- The parser of patterns: ways, and the whole. No condition. -/
import Derived.Test.YtoiageeecdgleaaPar6
set_option linter.unusedSimpArgs false
set_option linter.unusedVariables false
namespace Go.Proofs.Ytoiageeecdgleaa
open Go Go.Ab
set_option maxRecDepth 100000
open Rex

abbrev box0 : Ob := .box [I 0, U 0, U 0, U 0, U 0, .nils]
/-- Own kids: none yet, or a row. -/
def exK (K : List Rex) : St := box0 :: (if K.isEmpty then [] else [.row 6 (K.map rv)])
def vK (l : Nat) (K : List Rex) : AV := if K.isEmpty then .nils else .osl (l + 1) K.length
theorem exK_cons (x : Rex) (K : List Rex) : exK (x :: K) = [box0, .row 6 ((x :: K).map rv)] := rfl
theorem vK_cons (l : Nat) (x : Rex) (K : List Rex) : vK l (x :: K) = .osl (l + 1) (K.length + 1) := rfl
theorem exK_nil : exK [] = [box0] := rfl
theorem vK_nil (l : Nat) : vK l [] = .nils := rfl
theorem exK_snoc (K : List Rex) (x : Rex) : exK (K ++ [x]) = [box0, .row 6 (K.map rv ++ [x.rv])] := by
  cases K with
  | nil => rfl
  | cons y K => simp [exK]
theorem vK_snoc (l : Nat) (K : List Rex) (x : Rex) : vK l (K ++ [x]) = .osl (l + 1) (K.length + 1) := by
  cases K with
  | nil => rfl
  | cons y K => simp [vK]
theorem rv_one (op : Int) (y z : Rex) (K : List Rex) : (one op (y :: z :: K)).rv = .agg [I op, U 0, U 0, U 0, U 0, .sl 6 ((y :: z :: K).map rv)] := by
  show Rex.rv (.mk op 0 0 0 0 (y :: z :: K)) = _
  rw [rv, rvK_cons]
theorem bel_tup2 {n : Nat} {x : AV} (h : Bel n x) (b : Bool) : Bel n (.tup [x, Bo b]) := by
  refine .tup _ fun i hi => ?_
  have : ∀ y ∈ [x, Bo b], Bel n y := by
    intro y hy
    simp only [List.mem_cons, List.not_mem_nil, or_false] at hy
    rcases hy with rfl | rfl
    · exact h
    · exact .pl _
  exact this _ (List.getElem_mem hi)
theorem bel_any {n : Nat} : Bel n .any := .any

section
variable (s : ByteArray)

theorem way_ans (F : PF) (d : Nat) (hF : FAns 42 [I d] s F) (hfw : Fwd F) (he : Eats s F) : FAns 32 [I d] s (pway s F) := by
  intro σ p a b hp hs
  refine Ans.of_run' t32 (fun hbel _ => ?_)
  have hb2 := bel_at hbel
  simp -implicitDefEqProofs only [c32, r32, go_sem, List.reduceReplicate, Nat.reduceAdd, Nat.reduceSub, Nat.reduceLT, Nat.reduceLeDiff, Nat.reduceMul, Nat.reduceEqDiff, reduceCtorEq, Int.reduceLE, Int.reduceLT, Int.reduceEq, Int.reduceNe, Int.reduceBEq, Int.reduceBNe, Int.reduceAdd, Int.reduceSub, List.append_assoc, List.length_append, List.length_set]
  unfold pway
  simp only
  have hm : s.size - a < s.size + 1 := by omega
  generalize hres : pwayL s F (s.size + 1) [] a b = res
  refine L.intro (α := { x : Nat × List Rex × Nat × Bool // pwayL s F x.1 x.2.1 x.2.2.1 x.2.2.2 = res ∧ s.size - x.2.2.1 < x.1 ∧ (x.2.2.2 = true ∨ s.size ≤ 40) ∧ x.2.1.length ≤ x.2.2.1 })
    (fun x => x.1.1)
    (fun x => mkE 33 [(0, .ptr p 0), (1, I d), (4, .ptr σ.length 0), (5, vK σ.length x.1.2.1)])
    (fun x => σ.set p (pob s x.1.2.2.1 x.1.2.2.2) ++ exK x.1.2.1)
    (fun x J hJ => ?_) ⟨(s.size + 1, [], a, b), hres, hm, hs, Nat.zero_le _⟩ ?_ ?_
  · obtain ⟨⟨n, K, a1, b1⟩, h1, h2, h3, h4⟩ := x
    simp only at h1 h2 h3 h4 hJ ⊢
    cases n with
    | zero => omega
    | succ n =>
    rw [pwayL] at h1
    cases hgo : wGo s a1 b1 with
    | true =>
      rw [hgo, if_pos rfl] at h1
      obtain ⟨ha, hb⟩ := wGo_lt hgo
      subst hb
      have hov : over s a1 false = false := by simp [wGo] at hgo; exact hgo.1
      have hs1 : sees s a1 false 124 = false := by simp [wGo] at hgo; exact hgo.2.1
      have hs2 : sees s a1 false 41 = false := by simp [wGo] at hgo; exact hgo.2.2
      have hsz : s.size ≤ 40 := by
        rcases h3 with h | h
        · exact absurd h Bool.false_ne_true
        · exact h
      have hea := he a1 false hov
      have hJ' := hJ ⟨(n, K ++ [(F a1 false).1], (F a1 false).2.1, (F a1 false).2.2), h1, by simp only; omega, .inr hsz, by simp; omega⟩ (Nat.lt_succ_self n)
      simp only [exK_snoc, vK_snoc] at hJ'
      clear hJ h1 hgo
      simp -implicitDefEqProofs only [mkE, List.foldl_cons, List.foldl_nil, go_sem, List.reduceReplicate, Nat.reduceAdd, Nat.reduceSub, Nat.reduceLT, Nat.reduceLeDiff, Nat.reduceMul, Nat.reduceEqDiff, reduceCtorEq, Int.reduceLE, Int.reduceLT, Int.reduceEq, Int.reduceNe, Int.reduceBEq, Int.reduceBNe, Int.reduceAdd, Int.reduceSub]
      refine CO.intro (over_ex hp a1 false _) ?_
      simp -implicitDefEqProofs only [go_sem, List.reduceReplicate, Nat.reduceAdd, Nat.reduceSub, Nat.reduceLT, Nat.reduceLeDiff, Nat.reduceMul, Nat.reduceEqDiff, reduceCtorEq, Int.reduceLE, Int.reduceLT, Int.reduceEq, Int.reduceNe, Int.reduceBEq, Int.reduceBNe, Int.reduceAdd, Int.reduceSub, hov]
      refine CO.intro (sees_ex hp a1 false 124 _) ?_
      simp -implicitDefEqProofs only [go_sem, List.reduceReplicate, Nat.reduceAdd, Nat.reduceSub, Nat.reduceLT, Nat.reduceLeDiff, Nat.reduceMul, Nat.reduceEqDiff, reduceCtorEq, Int.reduceLE, Int.reduceLT, Int.reduceEq, Int.reduceNe, Int.reduceBEq, Int.reduceBNe, Int.reduceAdd, Int.reduceSub, hs1]
      refine CO.intro (sees_ex hp a1 false 41 _) ?_
      simp -implicitDefEqProofs only [go_sem, List.reduceReplicate, Nat.reduceAdd, Nat.reduceSub, Nat.reduceLT, Nat.reduceLeDiff, Nat.reduceMul, Nat.reduceEqDiff, reduceCtorEq, Int.reduceLE, Int.reduceLT, Int.reduceEq, Int.reduceNe, Int.reduceBEq, Int.reduceBNe, Int.reduceAdd, Int.reduceSub, hs2]
      refine CO.intro (hF.ex hp a1 false (.inr hsz) _) ?_
      generalize F a1 false = w at hJ' hea ⊢
      obtain ⟨x, a2, b2⟩ := w
      simp only at hJ' hea ⊢
      rw [rv_eq x] at hJ' ⊢
      rcases K with _ | ⟨y, K⟩
      all_goals rcases rvK_cases x.ks with hK | ⟨l, hK⟩
      all_goals rw [hK] at hJ' ⊢
      all_goals first
      | (simp -implicitDefEqProofs only [go_sem, List.reduceReplicate, Nat.reduceAdd, Nat.reduceSub, Nat.reduceLT, Nat.reduceLeDiff, Nat.reduceMul, Nat.reduceEqDiff, reduceCtorEq, Int.reduceLE, Int.reduceLT, Int.reduceEq, Int.reduceNe, Int.reduceBEq, Int.reduceBNe, Int.reduceAdd, Int.reduceSub, exK_nil, vK_nil, gA hp, sA hp, gL0, sL0, gL1, sL1] at hJ' ⊢
         simpa [mkE] using hJ')
      | (have g1 : (K.length + 1 + 1 ≤ 2 ^ 32) = True := by simp at h4; simp; omega
         simp -implicitDefEqProofs only [go_sem, List.reduceReplicate, Nat.reduceAdd, Nat.reduceSub, Nat.reduceLT, Nat.reduceLeDiff, Nat.reduceMul, Nat.reduceEqDiff, reduceCtorEq, Int.reduceLE, Int.reduceLT, Int.reduceEq, Int.reduceNe, Int.reduceBEq, Int.reduceBNe, Int.reduceAdd, Int.reduceSub, exK_cons, vK_cons, gA hp, sA hp, gL0, sL0, gL1, sL1, List.length_map, g1] at hJ' ⊢
         simpa [mkE] using hJ')
    | false =>
      rw [hgo, if_neg Bool.false_ne_true] at h1
      subst h1
      clear hJ h2
      have hex : over s a1 b1 = true ∨ (over s a1 b1 = false ∧ sees s a1 b1 124 = true) ∨ (over s a1 b1 = false ∧ sees s a1 b1 124 = false ∧ sees s a1 b1 41 = true) := by
        unfold wGo at hgo
        cases h1 : over s a1 b1 <;> cases h2 : sees s a1 b1 124 <;> cases h3 : sees s a1 b1 41 <;> simp [h1, h2, h3] at hgo ⊢
      rcases hex with ho | ⟨ho, h5⟩ | ⟨ho, h5, h6⟩
      · simp -implicitDefEqProofs only [mkE, List.foldl_cons, List.foldl_nil, go_sem, List.reduceReplicate, Nat.reduceAdd, Nat.reduceSub, Nat.reduceLT, Nat.reduceLeDiff, Nat.reduceMul, Nat.reduceEqDiff, reduceCtorEq, Int.reduceLE, Int.reduceLT, Int.reduceEq, Int.reduceNe, Int.reduceBEq, Int.reduceBNe, Int.reduceAdd, Int.reduceSub]
        refine CO.intro (over_ex hp a1 b1 _) ?_
        simp -implicitDefEqProofs only [go_sem, List.reduceReplicate, Nat.reduceAdd, Nat.reduceSub, Nat.reduceLT, Nat.reduceLeDiff, Nat.reduceMul, Nat.reduceEqDiff, reduceCtorEq, Int.reduceLE, Int.reduceLT, Int.reduceEq, Int.reduceNe, Int.reduceBEq, Int.reduceBNe, Int.reduceAdd, Int.reduceSub, ho]
        rcases K with _ | ⟨y, _ | ⟨z, K⟩⟩
        · simp -implicitDefEqProofs only [go_sem, List.reduceReplicate, Nat.reduceAdd, Nat.reduceSub, Nat.reduceLT, Nat.reduceLeDiff, Nat.reduceMul, Nat.reduceEqDiff, reduceCtorEq, Int.reduceLE, Int.reduceLT, Int.reduceEq, Int.reduceNe, Int.reduceBEq, Int.reduceBNe, Int.reduceAdd, Int.reduceSub, exK_nil, vK_nil, gA hp, sA hp, gL0, sL0, gL1, sL1]
          refine Fini.trim2 (ex := [_]) ?_ rfl ?_ (bel_rv _ _) (hb2 _ _)
          · ((try simp -implicitDefEqProofs only [go_sem, List.reduceReplicate, Nat.reduceAdd, Nat.reduceSub, Nat.reduceLT, Nat.reduceLeDiff, Nat.reduceMul, Nat.reduceEqDiff, reduceCtorEq, Int.reduceLE, Int.reduceLT, Int.reduceEq, Int.reduceNe, Int.reduceBEq, Int.reduceBNe, Int.reduceAdd, Int.reduceSub, resA, allSome, rvA, oneOf, gL0]); first | done | rfl | (rw [rv_one]; rfl) | rw [rv_eq, hK] | (simp only [rv, rvK, rvL]; rw [rv_eq, hK]))
          · simp
        · have g3 : (((1 : Nat) : Int) == 1) = true := rfl
          have g4 : ((0 : Int) < ((1 : Nat) : Int)) = True := by simp
          have hbx : ∀ n, Bel n y.rv := fun n => bel_rv n y
          rw [exK_cons, vK_cons, List.map_cons, List.map_nil, show (one 2 [y]) = y from rfl]
          rw [rv_eq y] at hbx ⊢
          rcases rvK_cases y.ks with hK | ⟨l, hK⟩
          all_goals rw [hK] at hbx ⊢
          all_goals simp -implicitDefEqProofs only [go_sem, List.reduceReplicate, Nat.reduceAdd, Nat.reduceSub, Nat.reduceLT, Nat.reduceLeDiff, Nat.reduceMul, Nat.reduceEqDiff, reduceCtorEq, Int.reduceLE, Int.reduceLT, Int.reduceEq, Int.reduceNe, Int.reduceBEq, Int.reduceBNe, Int.reduceAdd, Int.reduceSub, gA hp, sA hp, gL0, sL0, gL1, sL1, List.length_map, g3, g4, Int.toNat_zero]
          all_goals (
            refine Fini.trim2 (ex := [_, _]) ?_ rfl ?_ (hbx _) (hb2 _ _)
            · ((try simp -implicitDefEqProofs only [go_sem, List.reduceReplicate, Nat.reduceAdd, Nat.reduceSub, Nat.reduceLT, Nat.reduceLeDiff, Nat.reduceMul, Nat.reduceEqDiff, reduceCtorEq, Int.reduceLE, Int.reduceLT, Int.reduceEq, Int.reduceNe, Int.reduceBEq, Int.reduceBNe, Int.reduceAdd, Int.reduceSub, resA, allSome, rvA, oneOf, gL0]); first | done | rfl | (rw [rv_one]; rfl) | rw [rv_eq, hK] | (simp only [rv, rvK, rvL]; rw [rv_eq, hK]))
            · simp)
        · rw [exK_cons, vK_cons]
          have g2 : (((K.length + 1 + 1 : Nat) : Int) == 1) = false := by simp; omega
          simp -implicitDefEqProofs only [go_sem, List.reduceReplicate, Nat.reduceAdd, Nat.reduceSub, Nat.reduceLT, Nat.reduceLeDiff, Nat.reduceMul, Nat.reduceEqDiff, reduceCtorEq, Int.reduceLE, Int.reduceLT, Int.reduceEq, Int.reduceNe, Int.reduceBEq, Int.reduceBNe, Int.reduceAdd, Int.reduceSub, gA hp, sA hp, gL0, sL0, gL1, sL1, List.length_map, g2]
          refine Fini.trim2 (ex := [_, _]) ?_ rfl ?_ (bel_rv _ _) (hb2 _ _)
          · ((try simp -implicitDefEqProofs only [go_sem, List.reduceReplicate, Nat.reduceAdd, Nat.reduceSub, Nat.reduceLT, Nat.reduceLeDiff, Nat.reduceMul, Nat.reduceEqDiff, reduceCtorEq, Int.reduceLE, Int.reduceLT, Int.reduceEq, Int.reduceNe, Int.reduceBEq, Int.reduceBNe, Int.reduceAdd, Int.reduceSub, resA, allSome, rvA, oneOf, gL0]); first | done | rfl | (rw [rv_one]; rfl) | rw [rv_eq, hK] | (simp only [rv, rvK, rvL]; rw [rv_eq, hK]))
          · simp
      · simp -implicitDefEqProofs only [mkE, List.foldl_cons, List.foldl_nil, go_sem, List.reduceReplicate, Nat.reduceAdd, Nat.reduceSub, Nat.reduceLT, Nat.reduceLeDiff, Nat.reduceMul, Nat.reduceEqDiff, reduceCtorEq, Int.reduceLE, Int.reduceLT, Int.reduceEq, Int.reduceNe, Int.reduceBEq, Int.reduceBNe, Int.reduceAdd, Int.reduceSub]
        refine CO.intro (over_ex hp a1 b1 _) ?_
        simp -implicitDefEqProofs only [go_sem, List.reduceReplicate, Nat.reduceAdd, Nat.reduceSub, Nat.reduceLT, Nat.reduceLeDiff, Nat.reduceMul, Nat.reduceEqDiff, reduceCtorEq, Int.reduceLE, Int.reduceLT, Int.reduceEq, Int.reduceNe, Int.reduceBEq, Int.reduceBNe, Int.reduceAdd, Int.reduceSub, ho]
        refine CO.intro (sees_ex hp a1 b1 124 _) ?_
        simp -implicitDefEqProofs only [go_sem, List.reduceReplicate, Nat.reduceAdd, Nat.reduceSub, Nat.reduceLT, Nat.reduceLeDiff, Nat.reduceMul, Nat.reduceEqDiff, reduceCtorEq, Int.reduceLE, Int.reduceLT, Int.reduceEq, Int.reduceNe, Int.reduceBEq, Int.reduceBNe, Int.reduceAdd, Int.reduceSub, h5]
        rcases K with _ | ⟨y, _ | ⟨z, K⟩⟩
        · simp -implicitDefEqProofs only [go_sem, List.reduceReplicate, Nat.reduceAdd, Nat.reduceSub, Nat.reduceLT, Nat.reduceLeDiff, Nat.reduceMul, Nat.reduceEqDiff, reduceCtorEq, Int.reduceLE, Int.reduceLT, Int.reduceEq, Int.reduceNe, Int.reduceBEq, Int.reduceBNe, Int.reduceAdd, Int.reduceSub, exK_nil, vK_nil, gA hp, sA hp, gL0, sL0, gL1, sL1]
          refine Fini.trim2 (ex := [_]) ?_ rfl ?_ (bel_rv _ _) (hb2 _ _)
          · ((try simp -implicitDefEqProofs only [go_sem, List.reduceReplicate, Nat.reduceAdd, Nat.reduceSub, Nat.reduceLT, Nat.reduceLeDiff, Nat.reduceMul, Nat.reduceEqDiff, reduceCtorEq, Int.reduceLE, Int.reduceLT, Int.reduceEq, Int.reduceNe, Int.reduceBEq, Int.reduceBNe, Int.reduceAdd, Int.reduceSub, resA, allSome, rvA, oneOf, gL0]); first | done | rfl | (rw [rv_one]; rfl) | rw [rv_eq, hK] | (simp only [rv, rvK, rvL]; rw [rv_eq, hK]))
          · simp
        · have g3 : (((1 : Nat) : Int) == 1) = true := rfl
          have g4 : ((0 : Int) < ((1 : Nat) : Int)) = True := by simp
          have hbx : ∀ n, Bel n y.rv := fun n => bel_rv n y
          rw [exK_cons, vK_cons, List.map_cons, List.map_nil, show (one 2 [y]) = y from rfl]
          rw [rv_eq y] at hbx ⊢
          rcases rvK_cases y.ks with hK | ⟨l, hK⟩
          all_goals rw [hK] at hbx ⊢
          all_goals simp -implicitDefEqProofs only [go_sem, List.reduceReplicate, Nat.reduceAdd, Nat.reduceSub, Nat.reduceLT, Nat.reduceLeDiff, Nat.reduceMul, Nat.reduceEqDiff, reduceCtorEq, Int.reduceLE, Int.reduceLT, Int.reduceEq, Int.reduceNe, Int.reduceBEq, Int.reduceBNe, Int.reduceAdd, Int.reduceSub, gA hp, sA hp, gL0, sL0, gL1, sL1, List.length_map, g3, g4, Int.toNat_zero]
          all_goals (
            refine Fini.trim2 (ex := [_, _]) ?_ rfl ?_ (hbx _) (hb2 _ _)
            · ((try simp -implicitDefEqProofs only [go_sem, List.reduceReplicate, Nat.reduceAdd, Nat.reduceSub, Nat.reduceLT, Nat.reduceLeDiff, Nat.reduceMul, Nat.reduceEqDiff, reduceCtorEq, Int.reduceLE, Int.reduceLT, Int.reduceEq, Int.reduceNe, Int.reduceBEq, Int.reduceBNe, Int.reduceAdd, Int.reduceSub, resA, allSome, rvA, oneOf, gL0]); first | done | rfl | (rw [rv_one]; rfl) | rw [rv_eq, hK] | (simp only [rv, rvK, rvL]; rw [rv_eq, hK]))
            · simp)
        · rw [exK_cons, vK_cons]
          have g2 : (((K.length + 1 + 1 : Nat) : Int) == 1) = false := by simp; omega
          simp -implicitDefEqProofs only [go_sem, List.reduceReplicate, Nat.reduceAdd, Nat.reduceSub, Nat.reduceLT, Nat.reduceLeDiff, Nat.reduceMul, Nat.reduceEqDiff, reduceCtorEq, Int.reduceLE, Int.reduceLT, Int.reduceEq, Int.reduceNe, Int.reduceBEq, Int.reduceBNe, Int.reduceAdd, Int.reduceSub, gA hp, sA hp, gL0, sL0, gL1, sL1, List.length_map, g2]
          refine Fini.trim2 (ex := [_, _]) ?_ rfl ?_ (bel_rv _ _) (hb2 _ _)
          · ((try simp -implicitDefEqProofs only [go_sem, List.reduceReplicate, Nat.reduceAdd, Nat.reduceSub, Nat.reduceLT, Nat.reduceLeDiff, Nat.reduceMul, Nat.reduceEqDiff, reduceCtorEq, Int.reduceLE, Int.reduceLT, Int.reduceEq, Int.reduceNe, Int.reduceBEq, Int.reduceBNe, Int.reduceAdd, Int.reduceSub, resA, allSome, rvA, oneOf, gL0]); first | done | rfl | (rw [rv_one]; rfl) | rw [rv_eq, hK] | (simp only [rv, rvK, rvL]; rw [rv_eq, hK]))
          · simp
      · simp -implicitDefEqProofs only [mkE, List.foldl_cons, List.foldl_nil, go_sem, List.reduceReplicate, Nat.reduceAdd, Nat.reduceSub, Nat.reduceLT, Nat.reduceLeDiff, Nat.reduceMul, Nat.reduceEqDiff, reduceCtorEq, Int.reduceLE, Int.reduceLT, Int.reduceEq, Int.reduceNe, Int.reduceBEq, Int.reduceBNe, Int.reduceAdd, Int.reduceSub]
        refine CO.intro (over_ex hp a1 b1 _) ?_
        simp -implicitDefEqProofs only [go_sem, List.reduceReplicate, Nat.reduceAdd, Nat.reduceSub, Nat.reduceLT, Nat.reduceLeDiff, Nat.reduceMul, Nat.reduceEqDiff, reduceCtorEq, Int.reduceLE, Int.reduceLT, Int.reduceEq, Int.reduceNe, Int.reduceBEq, Int.reduceBNe, Int.reduceAdd, Int.reduceSub, ho]
        refine CO.intro (sees_ex hp a1 b1 124 _) ?_
        simp -implicitDefEqProofs only [go_sem, List.reduceReplicate, Nat.reduceAdd, Nat.reduceSub, Nat.reduceLT, Nat.reduceLeDiff, Nat.reduceMul, Nat.reduceEqDiff, reduceCtorEq, Int.reduceLE, Int.reduceLT, Int.reduceEq, Int.reduceNe, Int.reduceBEq, Int.reduceBNe, Int.reduceAdd, Int.reduceSub, h5]
        refine CO.intro (sees_ex hp a1 b1 41 _) ?_
        simp -implicitDefEqProofs only [go_sem, List.reduceReplicate, Nat.reduceAdd, Nat.reduceSub, Nat.reduceLT, Nat.reduceLeDiff, Nat.reduceMul, Nat.reduceEqDiff, reduceCtorEq, Int.reduceLE, Int.reduceLT, Int.reduceEq, Int.reduceNe, Int.reduceBEq, Int.reduceBNe, Int.reduceAdd, Int.reduceSub, h6]
        rcases K with _ | ⟨y, _ | ⟨z, K⟩⟩
        · simp -implicitDefEqProofs only [go_sem, List.reduceReplicate, Nat.reduceAdd, Nat.reduceSub, Nat.reduceLT, Nat.reduceLeDiff, Nat.reduceMul, Nat.reduceEqDiff, reduceCtorEq, Int.reduceLE, Int.reduceLT, Int.reduceEq, Int.reduceNe, Int.reduceBEq, Int.reduceBNe, Int.reduceAdd, Int.reduceSub, exK_nil, vK_nil, gA hp, sA hp, gL0, sL0, gL1, sL1]
          refine Fini.trim2 (ex := [_]) ?_ rfl ?_ (bel_rv _ _) (hb2 _ _)
          · ((try simp -implicitDefEqProofs only [go_sem, List.reduceReplicate, Nat.reduceAdd, Nat.reduceSub, Nat.reduceLT, Nat.reduceLeDiff, Nat.reduceMul, Nat.reduceEqDiff, reduceCtorEq, Int.reduceLE, Int.reduceLT, Int.reduceEq, Int.reduceNe, Int.reduceBEq, Int.reduceBNe, Int.reduceAdd, Int.reduceSub, resA, allSome, rvA, oneOf, gL0]); first | done | rfl | (rw [rv_one]; rfl) | rw [rv_eq, hK] | (simp only [rv, rvK, rvL]; rw [rv_eq, hK]))
          · simp
        · have g3 : (((1 : Nat) : Int) == 1) = true := rfl
          have g4 : ((0 : Int) < ((1 : Nat) : Int)) = True := by simp
          have hbx : ∀ n, Bel n y.rv := fun n => bel_rv n y
          rw [exK_cons, vK_cons, List.map_cons, List.map_nil, show (one 2 [y]) = y from rfl]
          rw [rv_eq y] at hbx ⊢
          rcases rvK_cases y.ks with hK | ⟨l, hK⟩
          all_goals rw [hK] at hbx ⊢
          all_goals simp -implicitDefEqProofs only [go_sem, List.reduceReplicate, Nat.reduceAdd, Nat.reduceSub, Nat.reduceLT, Nat.reduceLeDiff, Nat.reduceMul, Nat.reduceEqDiff, reduceCtorEq, Int.reduceLE, Int.reduceLT, Int.reduceEq, Int.reduceNe, Int.reduceBEq, Int.reduceBNe, Int.reduceAdd, Int.reduceSub, gA hp, sA hp, gL0, sL0, gL1, sL1, List.length_map, g3, g4, Int.toNat_zero]
          all_goals (
            refine Fini.trim2 (ex := [_, _]) ?_ rfl ?_ (hbx _) (hb2 _ _)
            · ((try simp -implicitDefEqProofs only [go_sem, List.reduceReplicate, Nat.reduceAdd, Nat.reduceSub, Nat.reduceLT, Nat.reduceLeDiff, Nat.reduceMul, Nat.reduceEqDiff, reduceCtorEq, Int.reduceLE, Int.reduceLT, Int.reduceEq, Int.reduceNe, Int.reduceBEq, Int.reduceBNe, Int.reduceAdd, Int.reduceSub, resA, allSome, rvA, oneOf, gL0]); first | done | rfl | (rw [rv_one]; rfl) | rw [rv_eq, hK] | (simp only [rv, rvK, rvL]; rw [rv_eq, hK]))
            · simp)
        · rw [exK_cons, vK_cons]
          have g2 : (((K.length + 1 + 1 : Nat) : Int) == 1) = false := by simp; omega
          simp -implicitDefEqProofs only [go_sem, List.reduceReplicate, Nat.reduceAdd, Nat.reduceSub, Nat.reduceLT, Nat.reduceLeDiff, Nat.reduceMul, Nat.reduceEqDiff, reduceCtorEq, Int.reduceLE, Int.reduceLT, Int.reduceEq, Int.reduceNe, Int.reduceBEq, Int.reduceBNe, Int.reduceAdd, Int.reduceSub, gA hp, sA hp, gL0, sL0, gL1, sL1, List.length_map, g2]
          refine Fini.trim2 (ex := [_, _]) ?_ rfl ?_ (bel_rv _ _) (hb2 _ _)
          · ((try simp -implicitDefEqProofs only [go_sem, List.reduceReplicate, Nat.reduceAdd, Nat.reduceSub, Nat.reduceLT, Nat.reduceLeDiff, Nat.reduceMul, Nat.reduceEqDiff, reduceCtorEq, Int.reduceLE, Int.reduceLT, Int.reduceEq, Int.reduceNe, Int.reduceBEq, Int.reduceBNe, Int.reduceAdd, Int.reduceSub, resA, allSome, rvA, oneOf, gL0]); first | done | rfl | (rw [rv_one]; rfl) | rw [rv_eq, hK] | (simp only [rv, rvK, rvL]; rw [rv_eq, hK]))
          · simp
  · simp [mkE, vK]
  · rfl

theorem ways_ans' (F : PF) (d : Nat) (hF : FAns 32 [I d] s F) (hfw : Fwd F) : FAns 20 [I d] s (pways s F) := by
  intro σ p a b hp hs
  refine Ans.of_run' t20 (fun hbel _ => ?_)
  have hb2 := bel_at hbel
  simp -implicitDefEqProofs only [c20, r20, go_sem, List.reduceReplicate, Nat.reduceAdd, Nat.reduceSub, Nat.reduceLT, Nat.reduceLeDiff, Nat.reduceMul, Nat.reduceEqDiff, reduceCtorEq, Int.reduceLE, Int.reduceLT, Int.reduceEq, Int.reduceNe, Int.reduceBEq, Int.reduceBNe, Int.reduceAdd, Int.reduceSub, List.append_assoc, List.length_append, List.length_set]
  unfold pways
  simp only
  refine CO.intro (hF.ex hp a b hs _) ?_
  have hs0 : (F a b).2.2 = true ∨ s.size ≤ 40 := hfw.hs hs
  generalize F a b = w0 at hs0 ⊢
  obtain ⟨x0, a0, b0⟩ := w0
  simp only at hs0 ⊢
  have hm : s.size - a0 < s.size + 1 := by omega
  generalize hres : pwaysL s F (s.size + 1) [x0] a0 b0 = res
  rw [rv_eq x0]
  rcases rvK_cases x0.ks with hK0 | ⟨l0, hK0⟩
  all_goals rw [hK0]
  all_goals simp -implicitDefEqProofs only [go_sem, List.reduceReplicate, Nat.reduceAdd, Nat.reduceSub, Nat.reduceLT, Nat.reduceLeDiff, Nat.reduceMul, Nat.reduceEqDiff, reduceCtorEq, Int.reduceLE, Int.reduceLT, Int.reduceEq, Int.reduceNe, Int.reduceBEq, Int.reduceBNe, Int.reduceAdd, Int.reduceSub, gA hp, sA hp, gL0, sL0, gL1, sL1, List.append_assoc, List.length_append, List.length_set]
  all_goals (
    refine L.intro (α := { x : Nat × List Rex × Nat × Bool // pwaysL s F x.1 x.2.1 x.2.2.1 x.2.2.2 = res ∧ s.size - x.2.2.1 < x.1 ∧ (x.2.2.2 = true ∨ s.size ≤ 40) ∧ x.2.1.length ≤ x.2.2.1 + 1 ∧ x.2.1 ≠ [] })
      (fun x => x.1.1)
      (fun x => mkE 26 [(0, .ptr p 0), (1, I d), (4, .ptr σ.length 0), (5, vK σ.length x.1.2.1)])
      (fun x => σ.set p (pob s x.1.2.2.1 x.1.2.2.2) ++ exK x.1.2.1)
      (fun x J hJ => ?_) ⟨(s.size + 1, [x0], a0, b0), hres, hm, hs0, by simp, by simp⟩ ?_ ?_)
  all_goals try (simp [mkE, vK]; done)
  all_goals try (simp only [exK_cons, List.map_cons, List.map_nil, rv_eq x0, hK0]; done)
  all_goals (
    obtain ⟨⟨n, K, a1, b1⟩, h1, h2, h3, h4, h5⟩ := x
    simp only at h1 h2 h3 h4 h5 hJ ⊢
    rcases n with _ | n
    · omega
    rw [pwaysL] at h1
    cases hgo : sees s a1 b1 124
    · rw [hgo, if_neg Bool.false_ne_true] at h1
      subst h1
      clear hJ h2
      have hn := next_ex (s := s) hp a1 b1 124 h3
      simp only [nextA, hgo, Bool.false_eq_true, if_false] at hn
      simp -implicitDefEqProofs only [mkE, List.foldl_cons, List.foldl_nil, go_sem, List.reduceReplicate, Nat.reduceAdd, Nat.reduceSub, Nat.reduceLT, Nat.reduceLeDiff, Nat.reduceMul, Nat.reduceEqDiff, reduceCtorEq, Int.reduceLE, Int.reduceLT, Int.reduceEq, Int.reduceNe, Int.reduceBEq, Int.reduceBNe, Int.reduceAdd, Int.reduceSub]
      refine CO.intro (hn _) ?_
      simp -implicitDefEqProofs only [go_sem, List.reduceReplicate, Nat.reduceAdd, Nat.reduceSub, Nat.reduceLT, Nat.reduceLeDiff, Nat.reduceMul, Nat.reduceEqDiff, reduceCtorEq, Int.reduceLE, Int.reduceLT, Int.reduceEq, Int.reduceNe, Int.reduceBEq, Int.reduceBNe, Int.reduceAdd, Int.reduceSub]
      rcases K with _ | ⟨y, _ | ⟨z, K⟩⟩
      · exact absurd rfl h5
      · have g3 : (((1 : Nat) : Int) == 1) = true := rfl
        have g4 : ((0 : Int) < ((1 : Nat) : Int)) = True := by simp
        have hbx : ∀ n, Bel n y.rv := fun n => bel_rv n y
        rw [exK_cons, vK_cons, List.map_cons, List.map_nil, show (one 3 [y]) = y from rfl]
        rw [rv_eq y] at hbx ⊢
        rcases rvK_cases y.ks with hK | ⟨l, hK⟩
        all_goals rw [hK] at hbx ⊢
        all_goals simp -implicitDefEqProofs only [go_sem, List.reduceReplicate, Nat.reduceAdd, Nat.reduceSub, Nat.reduceLT, Nat.reduceLeDiff, Nat.reduceMul, Nat.reduceEqDiff, reduceCtorEq, Int.reduceLE, Int.reduceLT, Int.reduceEq, Int.reduceNe, Int.reduceBEq, Int.reduceBNe, Int.reduceAdd, Int.reduceSub, gA hp, sA hp, gL0, sL0, gL1, sL1, List.length_map, g3, g4, Int.toNat_zero]
        all_goals (
          refine Fini.trim2 (ex := [_, _]) ?_ rfl ?_ (hbx _) (hb2 _ _)
          · ((try simp -implicitDefEqProofs only [go_sem, List.reduceReplicate, Nat.reduceAdd, Nat.reduceSub, Nat.reduceLT, Nat.reduceLeDiff, Nat.reduceMul, Nat.reduceEqDiff, reduceCtorEq, Int.reduceLE, Int.reduceLT, Int.reduceEq, Int.reduceNe, Int.reduceBEq, Int.reduceBNe, Int.reduceAdd, Int.reduceSub, resA, allSome, rvA, oneOf, gL0]); first | done | rfl | (rw [rv_one]; rfl) | rw [rv_eq, hK] | (simp only [rv, rvK, rvL]; rw [rv_eq, hK]))
          · simp)
      · rw [exK_cons, vK_cons]
        have g2 : (((K.length + 1 + 1 : Nat) : Int) == 1) = false := by simp; omega
        simp -implicitDefEqProofs only [go_sem, List.reduceReplicate, Nat.reduceAdd, Nat.reduceSub, Nat.reduceLT, Nat.reduceLeDiff, Nat.reduceMul, Nat.reduceEqDiff, reduceCtorEq, Int.reduceLE, Int.reduceLT, Int.reduceEq, Int.reduceNe, Int.reduceBEq, Int.reduceBNe, Int.reduceAdd, Int.reduceSub, gA hp, sA hp, gL0, sL0, gL1, sL1, List.length_map, g2]
        refine Fini.trim2 (ex := [_, _]) ?_ rfl ?_ (bel_rv _ _) (hb2 _ _)
        · ((try simp -implicitDefEqProofs only [go_sem, List.reduceReplicate, Nat.reduceAdd, Nat.reduceSub, Nat.reduceLT, Nat.reduceLeDiff, Nat.reduceMul, Nat.reduceEqDiff, reduceCtorEq, Int.reduceLE, Int.reduceLT, Int.reduceEq, Int.reduceNe, Int.reduceBEq, Int.reduceBNe, Int.reduceAdd, Int.reduceSub, resA, allSome, rvA, oneOf, gL0]); first | done | rfl | (rw [rv_one]; rfl) | rw [rv_eq, hK] | (simp only [rv, rvK, rvL]; rw [rv_eq, hK]))
        · simp
    · rw [hgo, if_pos rfl] at h1
      obtain ⟨ha, hb⟩ := sees_lt hgo
      subst hb
      have hsz : s.size ≤ 40 := by
        rcases h3 with h | h
        · exact absurd h Bool.false_ne_true
        · exact h
      have hea := (hfw (a1 + 1) false).1
      have hJ' := hJ ⟨(n, K ++ [(F (a1 + 1) false).1], (F (a1 + 1) false).2.1, (F (a1 + 1) false).2.2), h1, by simp only; omega, .inr hsz, by simp; omega, by simp⟩ (Nat.lt_succ_self n)
      simp only [exK_snoc, vK_snoc] at hJ'
      clear hJ h1
      have hn := next_ex (s := s) hp a1 false 124 h3
      simp only [nextA, hgo, if_true] at hn
      simp -implicitDefEqProofs only [mkE, List.foldl_cons, List.foldl_nil, go_sem, List.reduceReplicate, Nat.reduceAdd, Nat.reduceSub, Nat.reduceLT, Nat.reduceLeDiff, Nat.reduceMul, Nat.reduceEqDiff, reduceCtorEq, Int.reduceLE, Int.reduceLT, Int.reduceEq, Int.reduceNe, Int.reduceBEq, Int.reduceBNe, Int.reduceAdd, Int.reduceSub]
      refine CO.intro (hn _) ?_
      simp -implicitDefEqProofs only [go_sem, List.reduceReplicate, Nat.reduceAdd, Nat.reduceSub, Nat.reduceLT, Nat.reduceLeDiff, Nat.reduceMul, Nat.reduceEqDiff, reduceCtorEq, Int.reduceLE, Int.reduceLT, Int.reduceEq, Int.reduceNe, Int.reduceBEq, Int.reduceBNe, Int.reduceAdd, Int.reduceSub]
      refine CO.intro (hF.ex hp (a1 + 1) false (.inr hsz) _) ?_
      generalize F (a1 + 1) false = w at hJ' hea ⊢
      obtain ⟨x, a2, b2⟩ := w
      simp only at hJ' hea ⊢
      rw [rv_eq x] at hJ' ⊢
      rcases K with _ | ⟨y, K⟩
      · exact absurd rfl h5
      have g1 : (K.length + 1 + 1 ≤ 2 ^ 32) = True := by simp at h4; simp; omega
      rcases rvK_cases x.ks with hK | ⟨l, hK⟩
      all_goals rw [hK] at hJ' ⊢
      all_goals (
        simp -implicitDefEqProofs only [go_sem, List.reduceReplicate, Nat.reduceAdd, Nat.reduceSub, Nat.reduceLT, Nat.reduceLeDiff, Nat.reduceMul, Nat.reduceEqDiff, reduceCtorEq, Int.reduceLE, Int.reduceLT, Int.reduceEq, Int.reduceNe, Int.reduceBEq, Int.reduceBNe, Int.reduceAdd, Int.reduceSub, exK_cons, vK_cons, gA hp, sA hp, gL0, sL0, gL1, sL1, List.length_map, g1] at hJ' ⊢
        simpa [mkE] using hJ'))

theorem PW_ans : ∀ k, k ≤ 8 → FAns 20 [I ((8 - k : Nat) : Int)] s (PW s k)
  | 0, _ => ways_ans' s _ 8 (way_ans s _ 8 (factor_ans s _ 8 (atom_ans s _ 8 (Nat.le_refl _) (fun h => absurd h (Nat.lt_irrefl _)) (fun a b => ⟨Nat.le_refl _, id⟩)) (fwd_atom s (fun a b => ⟨Nat.le_refl _, id⟩) 8))
      (fwd_factor s (fwd_atom s (fun a b => ⟨Nat.le_refl _, id⟩) 8)) (eats_factor s (eats_atom s (fun a b => ⟨Nat.le_refl _, id⟩) 8)))
      (fwd_way s (fwd_factor s (fwd_atom s (fun a b => ⟨Nat.le_refl _, id⟩) 8)))
  | k + 1, h => by
    have ih := PW_ans k (by omega)
    have hf := fwd_PW s k
    have e : 8 - (k + 1) = 7 - k := by omega
    have e2 : 8 - k = 7 - k + 1 := by omega
    rw [e2] at ih
    rw [e]
    exact ways_ans' s _ (7 - k) (way_ans s _ (7 - k) (factor_ans s _ (7 - k) (atom_ans s _ (7 - k) (by omega) (fun _ => ih) hf) (fwd_atom s hf _))
      (fwd_factor s (fwd_atom s hf _)) (eats_factor s (eats_atom s hf _)))
      (fwd_way s (fwd_factor s (fwd_atom s hf _)))

/-- What the program reads. -/
def pparse : Rex × Bool :=
  let w := PW s 8 0 (decide (40 < s.size))
  if w.2.2 || decide (w.2.1 < s.size) then (.mk 0 0 0 0 0 [], false) else (w.1, true)

theorem parse_ans (σ : St) : Ans Try.prog 9 [Sx s] σ (.tup [(pparse s).1.rv, Bo (pparse s).2]) σ := by
  have hw : ∀ b : Bool, (b = true ∨ s.size ≤ 40) → Ans Try.prog 20 [.ptr (σ.length + 1) 0, I 0] (σ ++ [box0, pob s 0 b]) (PW s 8 0 b).1.rv (σ ++ [box0, pob s (PW s 8 0 b).2.1 (PW s 8 0 b).2.2]) := by
    intro b hs
    have := PW_ans s 8 (Nat.le_refl _) (σ ++ [box0, pob s 0 b]) (σ.length + 1) 0 b (by simp) hs
    have e : ∀ o, (σ ++ [box0, pob s 0 b]).set (σ.length + 1) o = σ ++ [box0, o] := fun o => by rw [List.set_append_right _ _ (by omega)]; simp
    rwa [e, e] at this
  have hs : (decide (40 < s.size)) = true ∨ s.size ≤ 40 := by
    rcases Nat.lt_or_ge 40 s.size with h | h
    · exact .inl (by simpa using h)
    · exact .inr h
  have e40 : decide ((40 : Int) < (s.size : Int)) = decide (40 < s.size) := by rw [Bool.eq_iff_iff]; simp; omega
  have k0 : ∀ (x y : Ob) (ex : St), (σ ++ x :: y :: ex)[σ.length]? = some x := fun x y ex => by rw [List.getElem?_append_right (by simp)]; simp
  have k1 : ∀ (x y : Ob) (ex : St), (σ ++ x :: y :: ex)[σ.length + 1]? = some y := fun x y ex => by rw [List.getElem?_append_right (by simp)]; simp
  have k2 : ∀ (x y z : Ob), (σ ++ [x, y, z])[σ.length + 2]? = some z := fun x y z => by rw [List.getElem?_append_right (by simp)]; simp
  have s0 : ∀ (x z : Ob) (ex : St), (σ ++ x :: ex).set σ.length z = σ ++ z :: ex := fun x z ex => by rw [List.set_append_right _ _ (by simp)]; simp
  refine Ans.of_run' t9 (fun hbel _ => ?_)
  simp -implicitDefEqProofs only [c9, r9, go_sem, List.reduceReplicate, Nat.reduceAdd, Nat.reduceSub, Nat.reduceLT, Nat.reduceLeDiff, Nat.reduceMul, Nat.reduceEqDiff, reduceCtorEq, Int.reduceLE, Int.reduceLT, Int.reduceEq, Int.reduceNe, Int.reduceBEq, Int.reduceBNe, Int.reduceAdd, Int.reduceSub, List.append_assoc, List.length_append, e40]
  refine CO.intro (hw _ hs) ?_
  unfold pparse
  generalize PW s 8 0 (decide (40 < s.size)) = w
  obtain ⟨x, a, b⟩ := w
  simp only
  have eL : decide ((a : Int) < (s.size : Int)) = decide (a < s.size) := by rw [Bool.eq_iff_iff]; simp
  have hbx : ∀ n, Bel n x.rv := fun n => bel_rv n x
  rw [rv_eq x]
  have hrx := rv_eq x
  rcases rvK_cases x.ks with hK | ⟨l, hK⟩
  all_goals (
    rw [hK] at hrx ⊢
    cases b
    · cases hlt : decide (a < s.size)
      · simp -implicitDefEqProofs only [go_sem, List.reduceReplicate, Nat.reduceAdd, Nat.reduceSub, Nat.reduceLT, Nat.reduceLeDiff, Nat.reduceMul, Nat.reduceEqDiff, reduceCtorEq, Int.reduceLE, Int.reduceLT, Int.reduceEq, Int.reduceNe, Int.reduceBEq, Int.reduceBNe, Int.reduceAdd, Int.reduceSub, k0, k1, k2, s0, List.append_assoc, List.length_append, eL, hlt, Bool.or_self, hrx]
        rw [hrx] at hbx
        refine Fini.trim2 (σ' := σ) (ex := [_, _]) ?_ rfl (Nat.le_refl _) ?_ hbel
        · simp -implicitDefEqProofs only [go_sem, List.reduceReplicate, Nat.reduceAdd, Nat.reduceSub, Nat.reduceLT, Nat.reduceLeDiff, Nat.reduceMul, Nat.reduceEqDiff, reduceCtorEq, Int.reduceLE, Int.reduceLT, Int.reduceEq, Int.reduceNe, Int.reduceBEq, Int.reduceBNe, Int.reduceAdd, Int.reduceSub, resA, allSome, rvA, oneOf, k0]
        · exact bel_tup2 (hbx _) _
      · simp -implicitDefEqProofs only [go_sem, List.reduceReplicate, Nat.reduceAdd, Nat.reduceSub, Nat.reduceLT, Nat.reduceLeDiff, Nat.reduceMul, Nat.reduceEqDiff, reduceCtorEq, Int.reduceLE, Int.reduceLT, Int.reduceEq, Int.reduceNe, Int.reduceBEq, Int.reduceBNe, Int.reduceAdd, Int.reduceSub, k0, k1, k2, s0, List.append_assoc, List.length_append, eL, hlt, Bool.or_true]
        refine Fini.trim2 (σ' := σ) (ex := [_, _]) ?_ rfl (Nat.le_refl _) ?_ hbel
        · simp -implicitDefEqProofs only [go_sem, List.reduceReplicate, Nat.reduceAdd, Nat.reduceSub, Nat.reduceLT, Nat.reduceLeDiff, Nat.reduceMul, Nat.reduceEqDiff, reduceCtorEq, Int.reduceLE, Int.reduceLT, Int.reduceEq, Int.reduceNe, Int.reduceBEq, Int.reduceBNe, Int.reduceAdd, Int.reduceSub, resA, allSome, rvA, oneOf, k0]; rfl
        · exact bel_tup2 (bel_rv _ (.mk 0 0 0 0 0 [])) _
    · simp -implicitDefEqProofs only [go_sem, List.reduceReplicate, Nat.reduceAdd, Nat.reduceSub, Nat.reduceLT, Nat.reduceLeDiff, Nat.reduceMul, Nat.reduceEqDiff, reduceCtorEq, Int.reduceLE, Int.reduceLT, Int.reduceEq, Int.reduceNe, Int.reduceBEq, Int.reduceBNe, Int.reduceAdd, Int.reduceSub, k0, k1, k2, s0, List.append_assoc, List.length_append, Bool.true_or]
      refine Fini.trim2 (σ' := σ) (ex := [_, _]) ?_ rfl (Nat.le_refl _) ?_ hbel
      · simp -implicitDefEqProofs only [go_sem, List.reduceReplicate, Nat.reduceAdd, Nat.reduceSub, Nat.reduceLT, Nat.reduceLeDiff, Nat.reduceMul, Nat.reduceEqDiff, reduceCtorEq, Int.reduceLE, Int.reduceLT, Int.reduceEq, Int.reduceNe, Int.reduceBEq, Int.reduceBNe, Int.reduceAdd, Int.reduceSub, resA, allSome, rvA, oneOf, k0]; rfl
      · exact bel_tup2 (bel_rv _ (.mk 0 0 0 0 0 [])) _)
end
end Go.Proofs.Ytoiageeecdgleaa
