/- RuleEqual answers true at any input. No condition. -/
import Derived.Test.YtoadgajhkhejiaaRu7
import Derived.Test.YtoadgajhkhejiaaLs2
set_option linter.unusedSimpArgs false
set_option linter.unusedVariables false
namespace Go.Proofs.Ytoadgajhkhejiaa
open Go Go.Ab Go.Cod Go.ChangeShapes Go.WideShapes Go.ChangeAt Go.RowKit
set_option maxRecDepth 100000
theorem txs_take (l : List ByteArray) (k : Nat) : (txs l).take k = txs (l.take k) := by simp [txs]
theorem txs_drop (l : List ByteArray) (k : Nat) : (txs l).drop k = txs (l.drop k) := by simp [txs]
theorem txs_append (a b : List ByteArray) : txs (a ++ b) = txs a ++ txs b := by simp [txs]
theorem txs_emp (l : List ByteArray) : (txs l).isEmpty = l.isEmpty := by simp [txs]
set_option maxHeartbeats 4000000 in
theorem equal_rest (d : RuD) (xa xb : List Int) (x y : Nat) (cut : Int) :
    Ans Try.prog 9 [duV d, daV xa x, daV xb y, I cut] [] (.pl (.bool true)) [] := by
  have hru := fun σ => rule_ans σ d
  have haa := fun σ => alert_ans σ xa x
  have hab := fun σ => alert_ans σ xb y
  have hsub : ∀ e : List ByteArray, e.Sublist (drawnRu d).eq → eqB e = true := fun e h => eqB_sub d.ns h
  generalize drawnRu d = q at hru hsub
  have hxy := fun σ => dmutes_ans σ q xa x xb y
  have hqe := hsub q.eq (List.Sublist.refl _)
  have hq4 : q.eq.length ≤ 4 := by
    unfold eqB at hqe
    simp only [Bool.and_eq_true, decide_eq_true_eq] at hqe
    exact hqe.1
  have hgx := drawnLabs_get xa
  have hgy := drawnLabs_get xb
  have hlx := (drawnLabs_ok xa).1
  have hly := (drawnLabs_ok xb).1
  have hkx : ∀ r : RuM, r.eq.length ≤ 1000 → ∀ σ, Ans Try.prog 36 [ruV r, alV 0 (drawnLabs xa) x] σ (Sx ⟨(keyL (drawnLabs xa) r.eq).toArray⟩) σ := fun r hr σ => key_ans σ r 0 _ x (by omega) hgx hr
  have hky : ∀ r : RuM, r.eq.length ≤ 1000 → ∀ σ, Ans Try.prog 36 [ruV r, alV 0 (drawnLabs xb) y] σ (Sx ⟨(keyL (drawnLabs xb) r.eq).toArray⟩) σ := fun r hr σ => key_ans σ r 0 _ y (by omega) hgy hr
  have hlab := fun σ nm => getlab_ans σ (drawnLabs xa) nm (by omega)
  have hlbb := fun σ nm => getlab_ans σ (drawnLabs xb) nm (by omega)
  have hall : dmutes q xa x xb y = true → ∀ n ∈ q.eq, getL (drawnLabs xa) n = getL (drawnLabs xb) n := fun h => keyL_inj _ _ hgx hgy _ ((keyEq_iff _ _ _).1 (mutes_key h))
  have hkk : dmutes q xa x xb y = true → keyL (drawnLabs xa) q.eq = keyL (drawnLabs xb) q.eq := fun h => (keyEq_iff _ _ _).1 (mutes_key h)
  have hless : dmutes q xa x xb y = true → ∀ e : List ByteArray, e.Sublist q.eq → ∀ σ, Ans Try.prog 34 [ruV { q with eq := e }, alV 0 (drawnLabs xa) x, alV 0 (drawnLabs xb) y] σ (Bo true) σ := fun h e he σ => by
    have h1 := dmutes_ans σ { q with eq := e } xa x xb y
    rw [show dmutes { q with eq := e } xa x xb y = true from mutes_less h hqe (hsub e he) ((keyEq_iff _ _ _).2 (keyL_congr _ _ e fun n hn => hall h n (he.subset hn)))] at h1
    exact h1
  generalize drawnLabs xa = Lx at *
  generalize drawnLabs xb = Ly at *
  generalize dmutes q xa x xb y = m at *
  obtain ⟨src, tgt, any, lo, hi, e⟩ := q
  simp only at *
  have hq4' : e.length ≤ 4 := hq4
  have hkx1 := hkx ⟨src, tgt, any, lo, hi, e⟩ (show e.length ≤ 1000 by omega)
  have hky1 := hky ⟨src, tgt, any, lo, hi, e⟩ (show e.length ≤ 1000 by omega)
  clear hkx hky
  refine Ans.of_run t9 ?_
  unfold duV duC at *
  unfold ruV at *
  unfold alV at *
  simp only at *
  simp -implicitDefEqProofs only [c9, r9, go_sem, List.reduceReplicate, Nat.reduceAdd, Nat.reduceSub, Nat.reduceLT, Nat.reduceLeDiff, Nat.reduceMul, Nat.reduceEqDiff, reduceCtorEq, Int.reduceLE, Int.reduceLT, Int.reduceEq, Int.reduceNe, Int.reduceBEq, Int.reduceBNe, Int.reduceAdd, Int.reduceSub, D_callS]
  first | refine CD.intro (hru _) ?_ | refine CS.intro hru ?_
  simp -implicitDefEqProofs only [go_sem, List.reduceReplicate, Nat.reduceAdd, Nat.reduceSub, Nat.reduceLT, Nat.reduceLeDiff, Nat.reduceMul, Nat.reduceEqDiff, reduceCtorEq, Int.reduceLE, Int.reduceLT, Int.reduceEq, Int.reduceNe, Int.reduceBEq, Int.reduceBNe, Int.reduceAdd, Int.reduceSub, D_callS]
  first | refine CD.intro (haa _) ?_ | refine CS.intro haa ?_
  simp -implicitDefEqProofs only [go_sem, List.reduceReplicate, Nat.reduceAdd, Nat.reduceSub, Nat.reduceLT, Nat.reduceLeDiff, Nat.reduceMul, Nat.reduceEqDiff, reduceCtorEq, Int.reduceLE, Int.reduceLT, Int.reduceEq, Int.reduceNe, Int.reduceBEq, Int.reduceBNe, Int.reduceAdd, Int.reduceSub, D_callS]
  first | refine CD.intro (hab _) ?_ | refine CS.intro hab ?_
  simp -implicitDefEqProofs only [go_sem, List.reduceReplicate, Nat.reduceAdd, Nat.reduceSub, Nat.reduceLT, Nat.reduceLeDiff, Nat.reduceMul, Nat.reduceEqDiff, reduceCtorEq, Int.reduceLE, Int.reduceLT, Int.reduceEq, Int.reduceNe, Int.reduceBEq, Int.reduceBNe, Int.reduceAdd, Int.reduceSub]
  refine CO.intro (hxy _) ?_
  simp -implicitDefEqProofs only [go_sem, List.reduceReplicate, Nat.reduceAdd, Nat.reduceSub, Nat.reduceLT, Nat.reduceLeDiff, Nat.reduceMul, Nat.reduceEqDiff, reduceCtorEq, Int.reduceLE, Int.reduceLT, Int.reduceEq, Int.reduceNe, Int.reduceBEq, Int.reduceBNe, Int.reduceAdd, Int.reduceSub]
  refine Go.Ab.L.count e.length (fun i => mkE 100 [(3, I cut), (9, .ptr 0 0), (10, .rp [I 0, .sl 2 (lvs Lx), Fl x]), (11, .rp [I 0, .sl 2 (lvs Ly), Fl y]), (12, Bo m), (13, I i)])
    (fun _ => [.box [.sl 3 (mvs3 src), .sl 3 (mvs3 tgt), Bo any, Fl lo, Fl hi, .sl 1 (txs e)]]) ?_ ?_ rfl rfl
  · intro i hi J hJ
    have hx := txs_get e i hi
    have hin := wrap_succ (i := i) (by omega)
    have ha := fun h => hall h e[i] (List.getElem_mem hi)
    clear hall hless hkk hkx1 hky1 hsub
    generalize e[i] = s at hx ha
    have h1 := fun σ => hlab σ s
    have h2 := fun σ => hlbb σ s
    cases m with
    | false =>
      simp -implicitDefEqProofs only [mkE, List.foldl_cons, List.foldl_nil, go_sem, List.reduceReplicate, Nat.reduceAdd, Nat.reduceSub, Nat.reduceLT, Nat.reduceLeDiff, Nat.reduceMul, Nat.reduceEqDiff, reduceCtorEq, Int.reduceLE, Int.reduceLT, Int.reduceEq, Int.reduceNe, Int.reduceBEq, Int.reduceBNe, Int.reduceAdd, Int.reduceSub, txs_len, nat_lt hi, dec_lt hi, hx, hin]
      exact hJ
    | true =>
      rw [← ha rfl] at h2
      generalize getL Lx s = w at h1 h2
      simp -implicitDefEqProofs only [mkE, List.foldl_cons, List.foldl_nil, go_sem, List.reduceReplicate, Nat.reduceAdd, Nat.reduceSub, Nat.reduceLT, Nat.reduceLeDiff, Nat.reduceMul, Nat.reduceEqDiff, reduceCtorEq, Int.reduceLE, Int.reduceLT, Int.reduceEq, Int.reduceNe, Int.reduceBEq, Int.reduceBNe, Int.reduceAdd, Int.reduceSub, D_callS, txs_len, nat_lt hi, dec_lt hi, hx, hin]
      first | refine CD.intro (h1 _) ?_ | refine CS.intro h1 ?_
      simp -implicitDefEqProofs only [go_sem, List.reduceReplicate, Nat.reduceAdd, Nat.reduceSub, Nat.reduceLT, Nat.reduceLeDiff, Nat.reduceMul, Nat.reduceEqDiff, reduceCtorEq, Int.reduceLE, Int.reduceLT, Int.reduceEq, Int.reduceNe, Int.reduceBEq, Int.reduceBNe, Int.reduceAdd, Int.reduceSub, D_callS, txs_len, nat_lt hi, hx]
      first | refine CD.intro (h2 _) ?_ | refine CS.intro h2 ?_
      have hn : (w.toList != w.toList) = false := by simp
      simp -implicitDefEqProofs only [go_sem, List.reduceReplicate, Nat.reduceAdd, Nat.reduceSub, Nat.reduceLT, Nat.reduceLeDiff, Nat.reduceMul, Nat.reduceEqDiff, reduceCtorEq, Int.reduceLE, Int.reduceLT, Int.reduceEq, Int.reduceNe, Int.reduceBEq, Int.reduceBNe, Int.reduceAdd, Int.reduceSub, hn, hin]
      exact hJ
  · intro J
    have hd : decide ((e.length : Int) < e.length) = false := by simp
    simp -implicitDefEqProofs only [mkE, List.foldl_cons, List.foldl_nil, go_sem, List.reduceReplicate, Nat.reduceAdd, Nat.reduceSub, Nat.reduceLT, Nat.reduceLeDiff, Nat.reduceMul, Nat.reduceEqDiff, reduceCtorEq, Int.reduceLE, Int.reduceLT, Int.reduceEq, Int.reduceNe, Int.reduceBEq, Int.reduceBNe, Int.reduceAdd, Int.reduceSub, hd, txs_len]
    by_cases hz0 : e.length = 0
    · have d0 : decide ((0 : Int) < e.length) = false := decide_eq_false (by omega)
      simp -implicitDefEqProofs only [go_sem, List.reduceReplicate, Nat.reduceAdd, Nat.reduceSub, Nat.reduceLT, Nat.reduceLeDiff, Nat.reduceMul, Nat.reduceEqDiff, reduceCtorEq, Int.reduceLE, Int.reduceLT, Int.reduceEq, Int.reduceNe, Int.reduceBEq, Int.reduceBNe, Int.reduceAdd, Int.reduceSub, d0]
      cases m with
      | false =>
        simp -implicitDefEqProofs only [go_sem, List.reduceReplicate, Nat.reduceAdd, Nat.reduceSub, Nat.reduceLT, Nat.reduceLeDiff, Nat.reduceMul, Nat.reduceEqDiff, reduceCtorEq, Int.reduceLE, Int.reduceLT, Int.reduceEq, Int.reduceNe, Int.reduceBEq, Int.reduceBNe, Int.reduceAdd, Int.reduceSub, D_callS]
        first | refine CD.intro (hkx1 _) ?_ | refine CS.intro hkx1 ?_
        simp -implicitDefEqProofs only [go_sem, List.reduceReplicate, Nat.reduceAdd, Nat.reduceSub, Nat.reduceLT, Nat.reduceLeDiff, Nat.reduceMul, Nat.reduceEqDiff, reduceCtorEq, Int.reduceLE, Int.reduceLT, Int.reduceEq, Int.reduceNe, Int.reduceBEq, Int.reduceBNe, Int.reduceAdd, Int.reduceSub, D_callS]
        first | refine CD.intro (hky1 _) ?_ | refine CS.intro hky1 ?_
        generalize (⟨(keyL Lx e).toArray⟩ : ByteArray) = kx
        generalize (⟨(keyL Ly e).toArray⟩ : ByteArray) = ky
        cases hb : (kx.toList == ky.toList) with
        | true =>
          simp -implicitDefEqProofs only [go_sem, List.reduceReplicate, Nat.reduceAdd, Nat.reduceSub, Nat.reduceLT, Nat.reduceLeDiff, Nat.reduceMul, Nat.reduceEqDiff, reduceCtorEq, Int.reduceLE, Int.reduceLT, Int.reduceEq, Int.reduceNe, Int.reduceBEq, Int.reduceBNe, Int.reduceAdd, Int.reduceSub, hb, D_callS]
          first | refine CD.intro (rr_a _) ?_ | refine CS.intro rr_a ?_
          simp -implicitDefEqProofs only [go_sem, List.reduceReplicate, Nat.reduceAdd, Nat.reduceSub, Nat.reduceLT, Nat.reduceLeDiff, Nat.reduceMul, Nat.reduceEqDiff, reduceCtorEq, Int.reduceLE, Int.reduceLT, Int.reduceEq, Int.reduceNe, Int.reduceBEq, Int.reduceBNe, Int.reduceAdd, Int.reduceSub]
          exact Fini.trim2 (σ' := []) rfl rfl (Nat.le_refl _) (.pl _) (fun o ho => by cases ho)
        | false =>
          simp -implicitDefEqProofs only [go_sem, List.reduceReplicate, Nat.reduceAdd, Nat.reduceSub, Nat.reduceLT, Nat.reduceLeDiff, Nat.reduceMul, Nat.reduceEqDiff, reduceCtorEq, Int.reduceLE, Int.reduceLT, Int.reduceEq, Int.reduceNe, Int.reduceBEq, Int.reduceBNe, Int.reduceAdd, Int.reduceSub, hb, D_callS]
          first | refine CD.intro (rr_a _) ?_ | refine CS.intro rr_a ?_
          simp -implicitDefEqProofs only [go_sem, List.reduceReplicate, Nat.reduceAdd, Nat.reduceSub, Nat.reduceLT, Nat.reduceLeDiff, Nat.reduceMul, Nat.reduceEqDiff, reduceCtorEq, Int.reduceLE, Int.reduceLT, Int.reduceEq, Int.reduceNe, Int.reduceBEq, Int.reduceBNe, Int.reduceAdd, Int.reduceSub]
          exact Fini.trim2 (σ' := []) rfl rfl (Nat.le_refl _) (.pl _) (fun o ho => by cases ho)
      | true =>
        have hkk := hkk rfl
        have hless := hless rfl e (List.Sublist.refl _)
        try simp only at hless
        rw [hkk] at hkx1
        generalize (⟨(keyL Ly e).toArray⟩ : ByteArray) = ky at hkx1 hky1
        have hb : (ky.toList == ky.toList) = true := by simp
        simp -implicitDefEqProofs only [go_sem, List.reduceReplicate, Nat.reduceAdd, Nat.reduceSub, Nat.reduceLT, Nat.reduceLeDiff, Nat.reduceMul, Nat.reduceEqDiff, reduceCtorEq, Int.reduceLE, Int.reduceLT, Int.reduceEq, Int.reduceNe, Int.reduceBEq, Int.reduceBNe, Int.reduceAdd, Int.reduceSub, D_callS]
        first | refine CD.intro (hless _) ?_ | refine CS.intro hless ?_
        simp -implicitDefEqProofs only [go_sem, List.reduceReplicate, Nat.reduceAdd, Nat.reduceSub, Nat.reduceLT, Nat.reduceLeDiff, Nat.reduceMul, Nat.reduceEqDiff, reduceCtorEq, Int.reduceLE, Int.reduceLT, Int.reduceEq, Int.reduceNe, Int.reduceBEq, Int.reduceBNe, Int.reduceAdd, Int.reduceSub, D_callS]
        first | refine CD.intro (hkx1 _) ?_ | refine CS.intro hkx1 ?_
        simp -implicitDefEqProofs only [go_sem, List.reduceReplicate, Nat.reduceAdd, Nat.reduceSub, Nat.reduceLT, Nat.reduceLeDiff, Nat.reduceMul, Nat.reduceEqDiff, reduceCtorEq, Int.reduceLE, Int.reduceLT, Int.reduceEq, Int.reduceNe, Int.reduceBEq, Int.reduceBNe, Int.reduceAdd, Int.reduceSub, D_callS]
        first | refine CD.intro (hky1 _) ?_ | refine CS.intro hky1 ?_
        simp -implicitDefEqProofs only [go_sem, List.reduceReplicate, Nat.reduceAdd, Nat.reduceSub, Nat.reduceLT, Nat.reduceLeDiff, Nat.reduceMul, Nat.reduceEqDiff, reduceCtorEq, Int.reduceLE, Int.reduceLT, Int.reduceEq, Int.reduceNe, Int.reduceBEq, Int.reduceBNe, Int.reduceAdd, Int.reduceSub, hb, D_callS]
        first | refine CD.intro (rr_a _) ?_ | refine CS.intro rr_a ?_
        simp -implicitDefEqProofs only [go_sem, List.reduceReplicate, Nat.reduceAdd, Nat.reduceSub, Nat.reduceLT, Nat.reduceLeDiff, Nat.reduceMul, Nat.reduceEqDiff, reduceCtorEq, Int.reduceLE, Int.reduceLT, Int.reduceEq, Int.reduceNe, Int.reduceBEq, Int.reduceBNe, Int.reduceAdd, Int.reduceSub]
        exact Fini.trim2 (σ' := []) rfl rfl (Nat.le_refl _) (.pl _) (fun o ho => by cases ho)
    · have d0 : decide ((0 : Int) < e.length) = true := decide_eq_true (by omega)
      have hz : ((e.length : Int) = 0) = False := eq_false (by omega)
      obtain ⟨k0, hk⟩ : ∃ k0 : Nat, (cut < 0 ∧ k0 = 0) ∨ (cut = k0) := by
        by_cases hc : cut < 0
        · exact ⟨0, .inl ⟨hc, rfl⟩⟩
        · exact ⟨cut.toNat, .inr (by omega)⟩
      have hlt : k0 % e.length < e.length := Nat.mod_lt _ (by omega)
      have e2 : ((k0 : Int).tmod e.length) = ((k0 % e.length : Nat) : Int) := rfl
      have e4 : ((0 : Int).tmod e.length) = ((0 % e.length : Nat) : Int) := by simp
      have hsl := cut_sub e (k0 % e.length)
      rcases hk with ⟨hc, rfl⟩ | rfl
      · have dc : decide (cut < 0) = true := by simpa using hc
        generalize 0 % e.length = k at *
        have e3 : ((k : Int) ≤ (e.length : Nat)) = True := eq_true (by omega)
        have e5 : IntKind.i64.wrap ((k : Int) + 1) = ((k + 1 : Nat) : Int) := by rw [wrapN (by omega) (by omega)]; rfl
        have e6 : (((k + 1 : Nat) : Int) ≤ (e.length : Nat)) = True := eq_true (by omega)
        have t1 : (txs e).take k = txs (e.take k) := txs_take e k
        have t2 : (txs e).drop (k + 1) = txs (e.drop (k + 1)) := txs_drop e (k + 1)
        have t3 : (txs e).take e.length = txs e := List.take_of_length_le (by rw [txs_len]; omega)
        have t4 : (e.take k ++ e.drop (k + 1)).length ≤ 4 := by have := hsl.length_le; omega
        rw [List.length_append] at t4
        generalize e.take k = A at hsl t1 t4
        generalize e.drop (k + 1) = B at hsl t2 t4
        have l1 : (A.length ≤ 2 ^ 32) = True := eq_true (by have : A.length ≤ 4 := by omega
                                                            exact Nat.le_trans this (by decide))
        have l2 : (B.length ≤ 2 ^ 32) = True := eq_true (by have : B.length ≤ 4 := by omega
                                                            exact Nat.le_trans this (by decide))
        have l3 : (A.length + B.length ≤ 2 ^ 32) = True := eq_true (Nat.le_trans t4 (by decide))
        have n1 : ((2 : Nat) ≠ 1) = True := eq_true (by decide)
        cases hA : A.isEmpty with
        | true =>
          cases hB : B.isEmpty with
          | true =>
            have hA0 : A = [] := List.isEmpty_iff.1 hA
            subst hA0
            have hB0 : B = [] := List.isEmpty_iff.1 hB
            subst hB0
            simp -implicitDefEqProofs only [go_sem, List.reduceReplicate, Nat.reduceAdd, Nat.reduceSub, Nat.reduceLT, Nat.reduceLeDiff, Nat.reduceMul, Nat.reduceEqDiff, reduceCtorEq, Int.reduceLE, Int.reduceLT, Int.reduceEq, Int.reduceNe, Int.reduceBEq, Int.reduceBNe, Int.reduceAdd, Int.reduceSub, d0, hz, dc, e4, e3, e5, e6, txs_len, t1, t2, t3, Int.toNat_zero, List.drop_zero, txs_all, txs_emp, hA, hB, txs_nil, l1, l2, l3, n1, Int.le_refl, List.length_append]
            cases m with
            | false =>
              simp -implicitDefEqProofs only [go_sem, List.reduceReplicate, Nat.reduceAdd, Nat.reduceSub, Nat.reduceLT, Nat.reduceLeDiff, Nat.reduceMul, Nat.reduceEqDiff, reduceCtorEq, Int.reduceLE, Int.reduceLT, Int.reduceEq, Int.reduceNe, Int.reduceBEq, Int.reduceBNe, Int.reduceAdd, Int.reduceSub, D_callS]
              first | refine CD.intro (hkx1 _) ?_ | refine CS.intro hkx1 ?_
              simp -implicitDefEqProofs only [go_sem, List.reduceReplicate, Nat.reduceAdd, Nat.reduceSub, Nat.reduceLT, Nat.reduceLeDiff, Nat.reduceMul, Nat.reduceEqDiff, reduceCtorEq, Int.reduceLE, Int.reduceLT, Int.reduceEq, Int.reduceNe, Int.reduceBEq, Int.reduceBNe, Int.reduceAdd, Int.reduceSub, D_callS]
              first | refine CD.intro (hky1 _) ?_ | refine CS.intro hky1 ?_
              generalize (⟨(keyL Lx e).toArray⟩ : ByteArray) = kx
              generalize (⟨(keyL Ly e).toArray⟩ : ByteArray) = ky
              cases hb : (kx.toList == ky.toList) with
              | true =>
                simp -implicitDefEqProofs only [go_sem, List.reduceReplicate, Nat.reduceAdd, Nat.reduceSub, Nat.reduceLT, Nat.reduceLeDiff, Nat.reduceMul, Nat.reduceEqDiff, reduceCtorEq, Int.reduceLE, Int.reduceLT, Int.reduceEq, Int.reduceNe, Int.reduceBEq, Int.reduceBNe, Int.reduceAdd, Int.reduceSub, hb, D_callS]
                first | refine CD.intro (rr_a _) ?_ | refine CS.intro rr_a ?_
                simp -implicitDefEqProofs only [go_sem, List.reduceReplicate, Nat.reduceAdd, Nat.reduceSub, Nat.reduceLT, Nat.reduceLeDiff, Nat.reduceMul, Nat.reduceEqDiff, reduceCtorEq, Int.reduceLE, Int.reduceLT, Int.reduceEq, Int.reduceNe, Int.reduceBEq, Int.reduceBNe, Int.reduceAdd, Int.reduceSub]
                exact Fini.trim2 (σ' := []) rfl rfl (Nat.le_refl _) (.pl _) (fun o ho => by cases ho)
              | false =>
                simp -implicitDefEqProofs only [go_sem, List.reduceReplicate, Nat.reduceAdd, Nat.reduceSub, Nat.reduceLT, Nat.reduceLeDiff, Nat.reduceMul, Nat.reduceEqDiff, reduceCtorEq, Int.reduceLE, Int.reduceLT, Int.reduceEq, Int.reduceNe, Int.reduceBEq, Int.reduceBNe, Int.reduceAdd, Int.reduceSub, hb, D_callS]
                first | refine CD.intro (rr_a _) ?_ | refine CS.intro rr_a ?_
                simp -implicitDefEqProofs only [go_sem, List.reduceReplicate, Nat.reduceAdd, Nat.reduceSub, Nat.reduceLT, Nat.reduceLeDiff, Nat.reduceMul, Nat.reduceEqDiff, reduceCtorEq, Int.reduceLE, Int.reduceLT, Int.reduceEq, Int.reduceNe, Int.reduceBEq, Int.reduceBNe, Int.reduceAdd, Int.reduceSub]
                exact Fini.trim2 (σ' := []) rfl rfl (Nat.le_refl _) (.pl _) (fun o ho => by cases ho)
            | true =>
              have hkk := hkk rfl
              have hless := hless rfl _ hsl
              simp only [txs_append, txs_nil, List.nil_append, List.append_nil] at hless
              rw [hkk] at hkx1
              generalize (⟨(keyL Ly e).toArray⟩ : ByteArray) = ky at hkx1 hky1
              have hb : (ky.toList == ky.toList) = true := by simp
              simp -implicitDefEqProofs only [go_sem, List.reduceReplicate, Nat.reduceAdd, Nat.reduceSub, Nat.reduceLT, Nat.reduceLeDiff, Nat.reduceMul, Nat.reduceEqDiff, reduceCtorEq, Int.reduceLE, Int.reduceLT, Int.reduceEq, Int.reduceNe, Int.reduceBEq, Int.reduceBNe, Int.reduceAdd, Int.reduceSub, D_callS]
              first | refine CD.intro (hless _) ?_ | refine CS.intro hless ?_
              simp -implicitDefEqProofs only [go_sem, List.reduceReplicate, Nat.reduceAdd, Nat.reduceSub, Nat.reduceLT, Nat.reduceLeDiff, Nat.reduceMul, Nat.reduceEqDiff, reduceCtorEq, Int.reduceLE, Int.reduceLT, Int.reduceEq, Int.reduceNe, Int.reduceBEq, Int.reduceBNe, Int.reduceAdd, Int.reduceSub, D_callS]
              first | refine CD.intro (hkx1 _) ?_ | refine CS.intro hkx1 ?_
              simp -implicitDefEqProofs only [go_sem, List.reduceReplicate, Nat.reduceAdd, Nat.reduceSub, Nat.reduceLT, Nat.reduceLeDiff, Nat.reduceMul, Nat.reduceEqDiff, reduceCtorEq, Int.reduceLE, Int.reduceLT, Int.reduceEq, Int.reduceNe, Int.reduceBEq, Int.reduceBNe, Int.reduceAdd, Int.reduceSub, D_callS]
              first | refine CD.intro (hky1 _) ?_ | refine CS.intro hky1 ?_
              simp -implicitDefEqProofs only [go_sem, List.reduceReplicate, Nat.reduceAdd, Nat.reduceSub, Nat.reduceLT, Nat.reduceLeDiff, Nat.reduceMul, Nat.reduceEqDiff, reduceCtorEq, Int.reduceLE, Int.reduceLT, Int.reduceEq, Int.reduceNe, Int.reduceBEq, Int.reduceBNe, Int.reduceAdd, Int.reduceSub, hb, D_callS]
              first | refine CD.intro (rr_a _) ?_ | refine CS.intro rr_a ?_
              simp -implicitDefEqProofs only [go_sem, List.reduceReplicate, Nat.reduceAdd, Nat.reduceSub, Nat.reduceLT, Nat.reduceLeDiff, Nat.reduceMul, Nat.reduceEqDiff, reduceCtorEq, Int.reduceLE, Int.reduceLT, Int.reduceEq, Int.reduceNe, Int.reduceBEq, Int.reduceBNe, Int.reduceAdd, Int.reduceSub]
              exact Fini.trim2 (σ' := []) rfl rfl (Nat.le_refl _) (.pl _) (fun o ho => by cases ho)
          | false =>
            have hA0 : A = [] := List.isEmpty_iff.1 hA
            subst hA0
            simp -implicitDefEqProofs only [go_sem, List.reduceReplicate, Nat.reduceAdd, Nat.reduceSub, Nat.reduceLT, Nat.reduceLeDiff, Nat.reduceMul, Nat.reduceEqDiff, reduceCtorEq, Int.reduceLE, Int.reduceLT, Int.reduceEq, Int.reduceNe, Int.reduceBEq, Int.reduceBNe, Int.reduceAdd, Int.reduceSub, d0, hz, dc, e4, e3, e5, e6, txs_len, t1, t2, t3, Int.toNat_zero, List.drop_zero, txs_all, txs_emp, hA, hB, txs_nil, l1, l2, l3, n1, Int.le_refl, List.length_append]
            cases m with
            | false =>
              simp -implicitDefEqProofs only [go_sem, List.reduceReplicate, Nat.reduceAdd, Nat.reduceSub, Nat.reduceLT, Nat.reduceLeDiff, Nat.reduceMul, Nat.reduceEqDiff, reduceCtorEq, Int.reduceLE, Int.reduceLT, Int.reduceEq, Int.reduceNe, Int.reduceBEq, Int.reduceBNe, Int.reduceAdd, Int.reduceSub, D_callS]
              first | refine CD.intro (hkx1 _) ?_ | refine CS.intro hkx1 ?_
              simp -implicitDefEqProofs only [go_sem, List.reduceReplicate, Nat.reduceAdd, Nat.reduceSub, Nat.reduceLT, Nat.reduceLeDiff, Nat.reduceMul, Nat.reduceEqDiff, reduceCtorEq, Int.reduceLE, Int.reduceLT, Int.reduceEq, Int.reduceNe, Int.reduceBEq, Int.reduceBNe, Int.reduceAdd, Int.reduceSub, D_callS]
              first | refine CD.intro (hky1 _) ?_ | refine CS.intro hky1 ?_
              generalize (⟨(keyL Lx e).toArray⟩ : ByteArray) = kx
              generalize (⟨(keyL Ly e).toArray⟩ : ByteArray) = ky
              cases hb : (kx.toList == ky.toList) with
              | true =>
                simp -implicitDefEqProofs only [go_sem, List.reduceReplicate, Nat.reduceAdd, Nat.reduceSub, Nat.reduceLT, Nat.reduceLeDiff, Nat.reduceMul, Nat.reduceEqDiff, reduceCtorEq, Int.reduceLE, Int.reduceLT, Int.reduceEq, Int.reduceNe, Int.reduceBEq, Int.reduceBNe, Int.reduceAdd, Int.reduceSub, hb, D_callS]
                first | refine CD.intro (rr_a _) ?_ | refine CS.intro rr_a ?_
                simp -implicitDefEqProofs only [go_sem, List.reduceReplicate, Nat.reduceAdd, Nat.reduceSub, Nat.reduceLT, Nat.reduceLeDiff, Nat.reduceMul, Nat.reduceEqDiff, reduceCtorEq, Int.reduceLE, Int.reduceLT, Int.reduceEq, Int.reduceNe, Int.reduceBEq, Int.reduceBNe, Int.reduceAdd, Int.reduceSub]
                exact Fini.trim2 (σ' := []) rfl rfl (Nat.le_refl _) (.pl _) (fun o ho => by cases ho)
              | false =>
                simp -implicitDefEqProofs only [go_sem, List.reduceReplicate, Nat.reduceAdd, Nat.reduceSub, Nat.reduceLT, Nat.reduceLeDiff, Nat.reduceMul, Nat.reduceEqDiff, reduceCtorEq, Int.reduceLE, Int.reduceLT, Int.reduceEq, Int.reduceNe, Int.reduceBEq, Int.reduceBNe, Int.reduceAdd, Int.reduceSub, hb, D_callS]
                first | refine CD.intro (rr_a _) ?_ | refine CS.intro rr_a ?_
                simp -implicitDefEqProofs only [go_sem, List.reduceReplicate, Nat.reduceAdd, Nat.reduceSub, Nat.reduceLT, Nat.reduceLeDiff, Nat.reduceMul, Nat.reduceEqDiff, reduceCtorEq, Int.reduceLE, Int.reduceLT, Int.reduceEq, Int.reduceNe, Int.reduceBEq, Int.reduceBNe, Int.reduceAdd, Int.reduceSub]
                exact Fini.trim2 (σ' := []) rfl rfl (Nat.le_refl _) (.pl _) (fun o ho => by cases ho)
            | true =>
              have hkk := hkk rfl
              have hless := hless rfl _ hsl
              simp only [txs_append, txs_nil, List.nil_append, List.append_nil] at hless
              rw [hkk] at hkx1
              generalize (⟨(keyL Ly e).toArray⟩ : ByteArray) = ky at hkx1 hky1
              have hb : (ky.toList == ky.toList) = true := by simp
              simp -implicitDefEqProofs only [go_sem, List.reduceReplicate, Nat.reduceAdd, Nat.reduceSub, Nat.reduceLT, Nat.reduceLeDiff, Nat.reduceMul, Nat.reduceEqDiff, reduceCtorEq, Int.reduceLE, Int.reduceLT, Int.reduceEq, Int.reduceNe, Int.reduceBEq, Int.reduceBNe, Int.reduceAdd, Int.reduceSub, D_callS]
              first | refine CD.intro (hless _) ?_ | refine CS.intro hless ?_
              simp -implicitDefEqProofs only [go_sem, List.reduceReplicate, Nat.reduceAdd, Nat.reduceSub, Nat.reduceLT, Nat.reduceLeDiff, Nat.reduceMul, Nat.reduceEqDiff, reduceCtorEq, Int.reduceLE, Int.reduceLT, Int.reduceEq, Int.reduceNe, Int.reduceBEq, Int.reduceBNe, Int.reduceAdd, Int.reduceSub, D_callS]
              first | refine CD.intro (hkx1 _) ?_ | refine CS.intro hkx1 ?_
              simp -implicitDefEqProofs only [go_sem, List.reduceReplicate, Nat.reduceAdd, Nat.reduceSub, Nat.reduceLT, Nat.reduceLeDiff, Nat.reduceMul, Nat.reduceEqDiff, reduceCtorEq, Int.reduceLE, Int.reduceLT, Int.reduceEq, Int.reduceNe, Int.reduceBEq, Int.reduceBNe, Int.reduceAdd, Int.reduceSub, D_callS]
              first | refine CD.intro (hky1 _) ?_ | refine CS.intro hky1 ?_
              simp -implicitDefEqProofs only [go_sem, List.reduceReplicate, Nat.reduceAdd, Nat.reduceSub, Nat.reduceLT, Nat.reduceLeDiff, Nat.reduceMul, Nat.reduceEqDiff, reduceCtorEq, Int.reduceLE, Int.reduceLT, Int.reduceEq, Int.reduceNe, Int.reduceBEq, Int.reduceBNe, Int.reduceAdd, Int.reduceSub, hb, D_callS]
              first | refine CD.intro (rr_a _) ?_ | refine CS.intro rr_a ?_
              simp -implicitDefEqProofs only [go_sem, List.reduceReplicate, Nat.reduceAdd, Nat.reduceSub, Nat.reduceLT, Nat.reduceLeDiff, Nat.reduceMul, Nat.reduceEqDiff, reduceCtorEq, Int.reduceLE, Int.reduceLT, Int.reduceEq, Int.reduceNe, Int.reduceBEq, Int.reduceBNe, Int.reduceAdd, Int.reduceSub]
              exact Fini.trim2 (σ' := []) rfl rfl (Nat.le_refl _) (.pl _) (fun o ho => by cases ho)
        | false =>
          cases hB : B.isEmpty with
          | true =>
            have hB0 : B = [] := List.isEmpty_iff.1 hB
            subst hB0
            simp -implicitDefEqProofs only [go_sem, List.reduceReplicate, Nat.reduceAdd, Nat.reduceSub, Nat.reduceLT, Nat.reduceLeDiff, Nat.reduceMul, Nat.reduceEqDiff, reduceCtorEq, Int.reduceLE, Int.reduceLT, Int.reduceEq, Int.reduceNe, Int.reduceBEq, Int.reduceBNe, Int.reduceAdd, Int.reduceSub, d0, hz, dc, e4, e3, e5, e6, txs_len, t1, t2, t3, Int.toNat_zero, List.drop_zero, txs_all, txs_emp, hA, hB, txs_nil, l1, l2, l3, n1, Int.le_refl, List.length_append]
            cases m with
            | false =>
              simp -implicitDefEqProofs only [go_sem, List.reduceReplicate, Nat.reduceAdd, Nat.reduceSub, Nat.reduceLT, Nat.reduceLeDiff, Nat.reduceMul, Nat.reduceEqDiff, reduceCtorEq, Int.reduceLE, Int.reduceLT, Int.reduceEq, Int.reduceNe, Int.reduceBEq, Int.reduceBNe, Int.reduceAdd, Int.reduceSub, D_callS]
              first | refine CD.intro (hkx1 _) ?_ | refine CS.intro hkx1 ?_
              simp -implicitDefEqProofs only [go_sem, List.reduceReplicate, Nat.reduceAdd, Nat.reduceSub, Nat.reduceLT, Nat.reduceLeDiff, Nat.reduceMul, Nat.reduceEqDiff, reduceCtorEq, Int.reduceLE, Int.reduceLT, Int.reduceEq, Int.reduceNe, Int.reduceBEq, Int.reduceBNe, Int.reduceAdd, Int.reduceSub, D_callS]
              first | refine CD.intro (hky1 _) ?_ | refine CS.intro hky1 ?_
              generalize (⟨(keyL Lx e).toArray⟩ : ByteArray) = kx
              generalize (⟨(keyL Ly e).toArray⟩ : ByteArray) = ky
              cases hb : (kx.toList == ky.toList) with
              | true =>
                simp -implicitDefEqProofs only [go_sem, List.reduceReplicate, Nat.reduceAdd, Nat.reduceSub, Nat.reduceLT, Nat.reduceLeDiff, Nat.reduceMul, Nat.reduceEqDiff, reduceCtorEq, Int.reduceLE, Int.reduceLT, Int.reduceEq, Int.reduceNe, Int.reduceBEq, Int.reduceBNe, Int.reduceAdd, Int.reduceSub, hb, D_callS]
                first | refine CD.intro (rr_a _) ?_ | refine CS.intro rr_a ?_
                simp -implicitDefEqProofs only [go_sem, List.reduceReplicate, Nat.reduceAdd, Nat.reduceSub, Nat.reduceLT, Nat.reduceLeDiff, Nat.reduceMul, Nat.reduceEqDiff, reduceCtorEq, Int.reduceLE, Int.reduceLT, Int.reduceEq, Int.reduceNe, Int.reduceBEq, Int.reduceBNe, Int.reduceAdd, Int.reduceSub]
                exact Fini.trim2 (σ' := []) rfl rfl (Nat.le_refl _) (.pl _) (fun o ho => by cases ho)
              | false =>
                simp -implicitDefEqProofs only [go_sem, List.reduceReplicate, Nat.reduceAdd, Nat.reduceSub, Nat.reduceLT, Nat.reduceLeDiff, Nat.reduceMul, Nat.reduceEqDiff, reduceCtorEq, Int.reduceLE, Int.reduceLT, Int.reduceEq, Int.reduceNe, Int.reduceBEq, Int.reduceBNe, Int.reduceAdd, Int.reduceSub, hb, D_callS]
                first | refine CD.intro (rr_a _) ?_ | refine CS.intro rr_a ?_
                simp -implicitDefEqProofs only [go_sem, List.reduceReplicate, Nat.reduceAdd, Nat.reduceSub, Nat.reduceLT, Nat.reduceLeDiff, Nat.reduceMul, Nat.reduceEqDiff, reduceCtorEq, Int.reduceLE, Int.reduceLT, Int.reduceEq, Int.reduceNe, Int.reduceBEq, Int.reduceBNe, Int.reduceAdd, Int.reduceSub]
                exact Fini.trim2 (σ' := []) rfl rfl (Nat.le_refl _) (.pl _) (fun o ho => by cases ho)
            | true =>
              have hkk := hkk rfl
              have hless := hless rfl _ hsl
              simp only [txs_append, txs_nil, List.nil_append, List.append_nil] at hless
              rw [hkk] at hkx1
              generalize (⟨(keyL Ly e).toArray⟩ : ByteArray) = ky at hkx1 hky1
              have hb : (ky.toList == ky.toList) = true := by simp
              simp -implicitDefEqProofs only [go_sem, List.reduceReplicate, Nat.reduceAdd, Nat.reduceSub, Nat.reduceLT, Nat.reduceLeDiff, Nat.reduceMul, Nat.reduceEqDiff, reduceCtorEq, Int.reduceLE, Int.reduceLT, Int.reduceEq, Int.reduceNe, Int.reduceBEq, Int.reduceBNe, Int.reduceAdd, Int.reduceSub, D_callS]
              first | refine CD.intro (hless _) ?_ | refine CS.intro hless ?_
              simp -implicitDefEqProofs only [go_sem, List.reduceReplicate, Nat.reduceAdd, Nat.reduceSub, Nat.reduceLT, Nat.reduceLeDiff, Nat.reduceMul, Nat.reduceEqDiff, reduceCtorEq, Int.reduceLE, Int.reduceLT, Int.reduceEq, Int.reduceNe, Int.reduceBEq, Int.reduceBNe, Int.reduceAdd, Int.reduceSub, D_callS]
              first | refine CD.intro (hkx1 _) ?_ | refine CS.intro hkx1 ?_
              simp -implicitDefEqProofs only [go_sem, List.reduceReplicate, Nat.reduceAdd, Nat.reduceSub, Nat.reduceLT, Nat.reduceLeDiff, Nat.reduceMul, Nat.reduceEqDiff, reduceCtorEq, Int.reduceLE, Int.reduceLT, Int.reduceEq, Int.reduceNe, Int.reduceBEq, Int.reduceBNe, Int.reduceAdd, Int.reduceSub, D_callS]
              first | refine CD.intro (hky1 _) ?_ | refine CS.intro hky1 ?_
              simp -implicitDefEqProofs only [go_sem, List.reduceReplicate, Nat.reduceAdd, Nat.reduceSub, Nat.reduceLT, Nat.reduceLeDiff, Nat.reduceMul, Nat.reduceEqDiff, reduceCtorEq, Int.reduceLE, Int.reduceLT, Int.reduceEq, Int.reduceNe, Int.reduceBEq, Int.reduceBNe, Int.reduceAdd, Int.reduceSub, hb, D_callS]
              first | refine CD.intro (rr_a _) ?_ | refine CS.intro rr_a ?_
              simp -implicitDefEqProofs only [go_sem, List.reduceReplicate, Nat.reduceAdd, Nat.reduceSub, Nat.reduceLT, Nat.reduceLeDiff, Nat.reduceMul, Nat.reduceEqDiff, reduceCtorEq, Int.reduceLE, Int.reduceLT, Int.reduceEq, Int.reduceNe, Int.reduceBEq, Int.reduceBNe, Int.reduceAdd, Int.reduceSub]
              exact Fini.trim2 (σ' := []) rfl rfl (Nat.le_refl _) (.pl _) (fun o ho => by cases ho)
          | false =>
            simp -implicitDefEqProofs only [go_sem, List.reduceReplicate, Nat.reduceAdd, Nat.reduceSub, Nat.reduceLT, Nat.reduceLeDiff, Nat.reduceMul, Nat.reduceEqDiff, reduceCtorEq, Int.reduceLE, Int.reduceLT, Int.reduceEq, Int.reduceNe, Int.reduceBEq, Int.reduceBNe, Int.reduceAdd, Int.reduceSub, d0, hz, dc, e4, e3, e5, e6, txs_len, t1, t2, t3, Int.toNat_zero, List.drop_zero, txs_all, txs_emp, hA, hB, txs_nil, l1, l2, l3, n1, Int.le_refl, List.length_append]
            cases m with
            | false =>
              simp -implicitDefEqProofs only [go_sem, List.reduceReplicate, Nat.reduceAdd, Nat.reduceSub, Nat.reduceLT, Nat.reduceLeDiff, Nat.reduceMul, Nat.reduceEqDiff, reduceCtorEq, Int.reduceLE, Int.reduceLT, Int.reduceEq, Int.reduceNe, Int.reduceBEq, Int.reduceBNe, Int.reduceAdd, Int.reduceSub, D_callS]
              first | refine CD.intro (hkx1 _) ?_ | refine CS.intro hkx1 ?_
              simp -implicitDefEqProofs only [go_sem, List.reduceReplicate, Nat.reduceAdd, Nat.reduceSub, Nat.reduceLT, Nat.reduceLeDiff, Nat.reduceMul, Nat.reduceEqDiff, reduceCtorEq, Int.reduceLE, Int.reduceLT, Int.reduceEq, Int.reduceNe, Int.reduceBEq, Int.reduceBNe, Int.reduceAdd, Int.reduceSub, D_callS]
              first | refine CD.intro (hky1 _) ?_ | refine CS.intro hky1 ?_
              generalize (⟨(keyL Lx e).toArray⟩ : ByteArray) = kx
              generalize (⟨(keyL Ly e).toArray⟩ : ByteArray) = ky
              cases hb : (kx.toList == ky.toList) with
              | true =>
                simp -implicitDefEqProofs only [go_sem, List.reduceReplicate, Nat.reduceAdd, Nat.reduceSub, Nat.reduceLT, Nat.reduceLeDiff, Nat.reduceMul, Nat.reduceEqDiff, reduceCtorEq, Int.reduceLE, Int.reduceLT, Int.reduceEq, Int.reduceNe, Int.reduceBEq, Int.reduceBNe, Int.reduceAdd, Int.reduceSub, hb, D_callS]
                first | refine CD.intro (rr_a _) ?_ | refine CS.intro rr_a ?_
                simp -implicitDefEqProofs only [go_sem, List.reduceReplicate, Nat.reduceAdd, Nat.reduceSub, Nat.reduceLT, Nat.reduceLeDiff, Nat.reduceMul, Nat.reduceEqDiff, reduceCtorEq, Int.reduceLE, Int.reduceLT, Int.reduceEq, Int.reduceNe, Int.reduceBEq, Int.reduceBNe, Int.reduceAdd, Int.reduceSub]
                exact Fini.trim2 (σ' := []) rfl rfl (Nat.le_refl _) (.pl _) (fun o ho => by cases ho)
              | false =>
                simp -implicitDefEqProofs only [go_sem, List.reduceReplicate, Nat.reduceAdd, Nat.reduceSub, Nat.reduceLT, Nat.reduceLeDiff, Nat.reduceMul, Nat.reduceEqDiff, reduceCtorEq, Int.reduceLE, Int.reduceLT, Int.reduceEq, Int.reduceNe, Int.reduceBEq, Int.reduceBNe, Int.reduceAdd, Int.reduceSub, hb, D_callS]
                first | refine CD.intro (rr_a _) ?_ | refine CS.intro rr_a ?_
                simp -implicitDefEqProofs only [go_sem, List.reduceReplicate, Nat.reduceAdd, Nat.reduceSub, Nat.reduceLT, Nat.reduceLeDiff, Nat.reduceMul, Nat.reduceEqDiff, reduceCtorEq, Int.reduceLE, Int.reduceLT, Int.reduceEq, Int.reduceNe, Int.reduceBEq, Int.reduceBNe, Int.reduceAdd, Int.reduceSub]
                exact Fini.trim2 (σ' := []) rfl rfl (Nat.le_refl _) (.pl _) (fun o ho => by cases ho)
            | true =>
              have hkk := hkk rfl
              have hless := hless rfl _ hsl
              simp only [txs_append, txs_nil, List.nil_append, List.append_nil] at hless
              rw [hkk] at hkx1
              generalize (⟨(keyL Ly e).toArray⟩ : ByteArray) = ky at hkx1 hky1
              have hb : (ky.toList == ky.toList) = true := by simp
              simp -implicitDefEqProofs only [go_sem, List.reduceReplicate, Nat.reduceAdd, Nat.reduceSub, Nat.reduceLT, Nat.reduceLeDiff, Nat.reduceMul, Nat.reduceEqDiff, reduceCtorEq, Int.reduceLE, Int.reduceLT, Int.reduceEq, Int.reduceNe, Int.reduceBEq, Int.reduceBNe, Int.reduceAdd, Int.reduceSub, D_callS]
              first | refine CD.intro (hless _) ?_ | refine CS.intro hless ?_
              simp -implicitDefEqProofs only [go_sem, List.reduceReplicate, Nat.reduceAdd, Nat.reduceSub, Nat.reduceLT, Nat.reduceLeDiff, Nat.reduceMul, Nat.reduceEqDiff, reduceCtorEq, Int.reduceLE, Int.reduceLT, Int.reduceEq, Int.reduceNe, Int.reduceBEq, Int.reduceBNe, Int.reduceAdd, Int.reduceSub, D_callS]
              first | refine CD.intro (hkx1 _) ?_ | refine CS.intro hkx1 ?_
              simp -implicitDefEqProofs only [go_sem, List.reduceReplicate, Nat.reduceAdd, Nat.reduceSub, Nat.reduceLT, Nat.reduceLeDiff, Nat.reduceMul, Nat.reduceEqDiff, reduceCtorEq, Int.reduceLE, Int.reduceLT, Int.reduceEq, Int.reduceNe, Int.reduceBEq, Int.reduceBNe, Int.reduceAdd, Int.reduceSub, D_callS]
              first | refine CD.intro (hky1 _) ?_ | refine CS.intro hky1 ?_
              simp -implicitDefEqProofs only [go_sem, List.reduceReplicate, Nat.reduceAdd, Nat.reduceSub, Nat.reduceLT, Nat.reduceLeDiff, Nat.reduceMul, Nat.reduceEqDiff, reduceCtorEq, Int.reduceLE, Int.reduceLT, Int.reduceEq, Int.reduceNe, Int.reduceBEq, Int.reduceBNe, Int.reduceAdd, Int.reduceSub, hb, D_callS]
              first | refine CD.intro (rr_a _) ?_ | refine CS.intro rr_a ?_
              simp -implicitDefEqProofs only [go_sem, List.reduceReplicate, Nat.reduceAdd, Nat.reduceSub, Nat.reduceLT, Nat.reduceLeDiff, Nat.reduceMul, Nat.reduceEqDiff, reduceCtorEq, Int.reduceLE, Int.reduceLT, Int.reduceEq, Int.reduceNe, Int.reduceBEq, Int.reduceBNe, Int.reduceAdd, Int.reduceSub]
              exact Fini.trim2 (σ' := []) rfl rfl (Nat.le_refl _) (.pl _) (fun o ho => by cases ho)
      · have dc : decide ((k0 : Int) < 0) = false := by simp
        generalize k0 % e.length = k at *
        have e3 : ((k : Int) ≤ (e.length : Nat)) = True := eq_true (by omega)
        have e5 : IntKind.i64.wrap ((k : Int) + 1) = ((k + 1 : Nat) : Int) := by rw [wrapN (by omega) (by omega)]; rfl
        have e6 : (((k + 1 : Nat) : Int) ≤ (e.length : Nat)) = True := eq_true (by omega)
        have t1 : (txs e).take k = txs (e.take k) := txs_take e k
        have t2 : (txs e).drop (k + 1) = txs (e.drop (k + 1)) := txs_drop e (k + 1)
        have t3 : (txs e).take e.length = txs e := List.take_of_length_le (by rw [txs_len]; omega)
        have t4 : (e.take k ++ e.drop (k + 1)).length ≤ 4 := by have := hsl.length_le; omega
        rw [List.length_append] at t4
        generalize e.take k = A at hsl t1 t4
        generalize e.drop (k + 1) = B at hsl t2 t4
        have l1 : (A.length ≤ 2 ^ 32) = True := eq_true (by have : A.length ≤ 4 := by omega
                                                            exact Nat.le_trans this (by decide))
        have l2 : (B.length ≤ 2 ^ 32) = True := eq_true (by have : B.length ≤ 4 := by omega
                                                            exact Nat.le_trans this (by decide))
        have l3 : (A.length + B.length ≤ 2 ^ 32) = True := eq_true (Nat.le_trans t4 (by decide))
        have n1 : ((2 : Nat) ≠ 1) = True := eq_true (by decide)
        cases hA : A.isEmpty with
        | true =>
          cases hB : B.isEmpty with
          | true =>
            have hA0 : A = [] := List.isEmpty_iff.1 hA
            subst hA0
            have hB0 : B = [] := List.isEmpty_iff.1 hB
            subst hB0
            simp -implicitDefEqProofs only [go_sem, List.reduceReplicate, Nat.reduceAdd, Nat.reduceSub, Nat.reduceLT, Nat.reduceLeDiff, Nat.reduceMul, Nat.reduceEqDiff, reduceCtorEq, Int.reduceLE, Int.reduceLT, Int.reduceEq, Int.reduceNe, Int.reduceBEq, Int.reduceBNe, Int.reduceAdd, Int.reduceSub, d0, hz, dc, e2, e3, e5, e6, txs_len, t1, t2, t3, Int.toNat_zero, List.drop_zero, txs_all, txs_emp, hA, hB, txs_nil, l1, l2, l3, n1, Int.le_refl, List.length_append]
            cases m with
            | false =>
              simp -implicitDefEqProofs only [go_sem, List.reduceReplicate, Nat.reduceAdd, Nat.reduceSub, Nat.reduceLT, Nat.reduceLeDiff, Nat.reduceMul, Nat.reduceEqDiff, reduceCtorEq, Int.reduceLE, Int.reduceLT, Int.reduceEq, Int.reduceNe, Int.reduceBEq, Int.reduceBNe, Int.reduceAdd, Int.reduceSub, D_callS]
              first | refine CD.intro (hkx1 _) ?_ | refine CS.intro hkx1 ?_
              simp -implicitDefEqProofs only [go_sem, List.reduceReplicate, Nat.reduceAdd, Nat.reduceSub, Nat.reduceLT, Nat.reduceLeDiff, Nat.reduceMul, Nat.reduceEqDiff, reduceCtorEq, Int.reduceLE, Int.reduceLT, Int.reduceEq, Int.reduceNe, Int.reduceBEq, Int.reduceBNe, Int.reduceAdd, Int.reduceSub, D_callS]
              first | refine CD.intro (hky1 _) ?_ | refine CS.intro hky1 ?_
              generalize (⟨(keyL Lx e).toArray⟩ : ByteArray) = kx
              generalize (⟨(keyL Ly e).toArray⟩ : ByteArray) = ky
              cases hb : (kx.toList == ky.toList) with
              | true =>
                simp -implicitDefEqProofs only [go_sem, List.reduceReplicate, Nat.reduceAdd, Nat.reduceSub, Nat.reduceLT, Nat.reduceLeDiff, Nat.reduceMul, Nat.reduceEqDiff, reduceCtorEq, Int.reduceLE, Int.reduceLT, Int.reduceEq, Int.reduceNe, Int.reduceBEq, Int.reduceBNe, Int.reduceAdd, Int.reduceSub, hb, D_callS]
                first | refine CD.intro (rr_a _) ?_ | refine CS.intro rr_a ?_
                simp -implicitDefEqProofs only [go_sem, List.reduceReplicate, Nat.reduceAdd, Nat.reduceSub, Nat.reduceLT, Nat.reduceLeDiff, Nat.reduceMul, Nat.reduceEqDiff, reduceCtorEq, Int.reduceLE, Int.reduceLT, Int.reduceEq, Int.reduceNe, Int.reduceBEq, Int.reduceBNe, Int.reduceAdd, Int.reduceSub]
                exact Fini.trim2 (σ' := []) rfl rfl (Nat.le_refl _) (.pl _) (fun o ho => by cases ho)
              | false =>
                simp -implicitDefEqProofs only [go_sem, List.reduceReplicate, Nat.reduceAdd, Nat.reduceSub, Nat.reduceLT, Nat.reduceLeDiff, Nat.reduceMul, Nat.reduceEqDiff, reduceCtorEq, Int.reduceLE, Int.reduceLT, Int.reduceEq, Int.reduceNe, Int.reduceBEq, Int.reduceBNe, Int.reduceAdd, Int.reduceSub, hb, D_callS]
                first | refine CD.intro (rr_a _) ?_ | refine CS.intro rr_a ?_
                simp -implicitDefEqProofs only [go_sem, List.reduceReplicate, Nat.reduceAdd, Nat.reduceSub, Nat.reduceLT, Nat.reduceLeDiff, Nat.reduceMul, Nat.reduceEqDiff, reduceCtorEq, Int.reduceLE, Int.reduceLT, Int.reduceEq, Int.reduceNe, Int.reduceBEq, Int.reduceBNe, Int.reduceAdd, Int.reduceSub]
                exact Fini.trim2 (σ' := []) rfl rfl (Nat.le_refl _) (.pl _) (fun o ho => by cases ho)
            | true =>
              have hkk := hkk rfl
              have hless := hless rfl _ hsl
              simp only [txs_append, txs_nil, List.nil_append, List.append_nil] at hless
              rw [hkk] at hkx1
              generalize (⟨(keyL Ly e).toArray⟩ : ByteArray) = ky at hkx1 hky1
              have hb : (ky.toList == ky.toList) = true := by simp
              simp -implicitDefEqProofs only [go_sem, List.reduceReplicate, Nat.reduceAdd, Nat.reduceSub, Nat.reduceLT, Nat.reduceLeDiff, Nat.reduceMul, Nat.reduceEqDiff, reduceCtorEq, Int.reduceLE, Int.reduceLT, Int.reduceEq, Int.reduceNe, Int.reduceBEq, Int.reduceBNe, Int.reduceAdd, Int.reduceSub, D_callS]
              first | refine CD.intro (hless _) ?_ | refine CS.intro hless ?_
              simp -implicitDefEqProofs only [go_sem, List.reduceReplicate, Nat.reduceAdd, Nat.reduceSub, Nat.reduceLT, Nat.reduceLeDiff, Nat.reduceMul, Nat.reduceEqDiff, reduceCtorEq, Int.reduceLE, Int.reduceLT, Int.reduceEq, Int.reduceNe, Int.reduceBEq, Int.reduceBNe, Int.reduceAdd, Int.reduceSub, D_callS]
              first | refine CD.intro (hkx1 _) ?_ | refine CS.intro hkx1 ?_
              simp -implicitDefEqProofs only [go_sem, List.reduceReplicate, Nat.reduceAdd, Nat.reduceSub, Nat.reduceLT, Nat.reduceLeDiff, Nat.reduceMul, Nat.reduceEqDiff, reduceCtorEq, Int.reduceLE, Int.reduceLT, Int.reduceEq, Int.reduceNe, Int.reduceBEq, Int.reduceBNe, Int.reduceAdd, Int.reduceSub, D_callS]
              first | refine CD.intro (hky1 _) ?_ | refine CS.intro hky1 ?_
              simp -implicitDefEqProofs only [go_sem, List.reduceReplicate, Nat.reduceAdd, Nat.reduceSub, Nat.reduceLT, Nat.reduceLeDiff, Nat.reduceMul, Nat.reduceEqDiff, reduceCtorEq, Int.reduceLE, Int.reduceLT, Int.reduceEq, Int.reduceNe, Int.reduceBEq, Int.reduceBNe, Int.reduceAdd, Int.reduceSub, hb, D_callS]
              first | refine CD.intro (rr_a _) ?_ | refine CS.intro rr_a ?_
              simp -implicitDefEqProofs only [go_sem, List.reduceReplicate, Nat.reduceAdd, Nat.reduceSub, Nat.reduceLT, Nat.reduceLeDiff, Nat.reduceMul, Nat.reduceEqDiff, reduceCtorEq, Int.reduceLE, Int.reduceLT, Int.reduceEq, Int.reduceNe, Int.reduceBEq, Int.reduceBNe, Int.reduceAdd, Int.reduceSub]
              exact Fini.trim2 (σ' := []) rfl rfl (Nat.le_refl _) (.pl _) (fun o ho => by cases ho)
          | false =>
            have hA0 : A = [] := List.isEmpty_iff.1 hA
            subst hA0
            simp -implicitDefEqProofs only [go_sem, List.reduceReplicate, Nat.reduceAdd, Nat.reduceSub, Nat.reduceLT, Nat.reduceLeDiff, Nat.reduceMul, Nat.reduceEqDiff, reduceCtorEq, Int.reduceLE, Int.reduceLT, Int.reduceEq, Int.reduceNe, Int.reduceBEq, Int.reduceBNe, Int.reduceAdd, Int.reduceSub, d0, hz, dc, e2, e3, e5, e6, txs_len, t1, t2, t3, Int.toNat_zero, List.drop_zero, txs_all, txs_emp, hA, hB, txs_nil, l1, l2, l3, n1, Int.le_refl, List.length_append]
            cases m with
            | false =>
              simp -implicitDefEqProofs only [go_sem, List.reduceReplicate, Nat.reduceAdd, Nat.reduceSub, Nat.reduceLT, Nat.reduceLeDiff, Nat.reduceMul, Nat.reduceEqDiff, reduceCtorEq, Int.reduceLE, Int.reduceLT, Int.reduceEq, Int.reduceNe, Int.reduceBEq, Int.reduceBNe, Int.reduceAdd, Int.reduceSub, D_callS]
              first | refine CD.intro (hkx1 _) ?_ | refine CS.intro hkx1 ?_
              simp -implicitDefEqProofs only [go_sem, List.reduceReplicate, Nat.reduceAdd, Nat.reduceSub, Nat.reduceLT, Nat.reduceLeDiff, Nat.reduceMul, Nat.reduceEqDiff, reduceCtorEq, Int.reduceLE, Int.reduceLT, Int.reduceEq, Int.reduceNe, Int.reduceBEq, Int.reduceBNe, Int.reduceAdd, Int.reduceSub, D_callS]
              first | refine CD.intro (hky1 _) ?_ | refine CS.intro hky1 ?_
              generalize (⟨(keyL Lx e).toArray⟩ : ByteArray) = kx
              generalize (⟨(keyL Ly e).toArray⟩ : ByteArray) = ky
              cases hb : (kx.toList == ky.toList) with
              | true =>
                simp -implicitDefEqProofs only [go_sem, List.reduceReplicate, Nat.reduceAdd, Nat.reduceSub, Nat.reduceLT, Nat.reduceLeDiff, Nat.reduceMul, Nat.reduceEqDiff, reduceCtorEq, Int.reduceLE, Int.reduceLT, Int.reduceEq, Int.reduceNe, Int.reduceBEq, Int.reduceBNe, Int.reduceAdd, Int.reduceSub, hb, D_callS]
                first | refine CD.intro (rr_a _) ?_ | refine CS.intro rr_a ?_
                simp -implicitDefEqProofs only [go_sem, List.reduceReplicate, Nat.reduceAdd, Nat.reduceSub, Nat.reduceLT, Nat.reduceLeDiff, Nat.reduceMul, Nat.reduceEqDiff, reduceCtorEq, Int.reduceLE, Int.reduceLT, Int.reduceEq, Int.reduceNe, Int.reduceBEq, Int.reduceBNe, Int.reduceAdd, Int.reduceSub]
                exact Fini.trim2 (σ' := []) rfl rfl (Nat.le_refl _) (.pl _) (fun o ho => by cases ho)
              | false =>
                simp -implicitDefEqProofs only [go_sem, List.reduceReplicate, Nat.reduceAdd, Nat.reduceSub, Nat.reduceLT, Nat.reduceLeDiff, Nat.reduceMul, Nat.reduceEqDiff, reduceCtorEq, Int.reduceLE, Int.reduceLT, Int.reduceEq, Int.reduceNe, Int.reduceBEq, Int.reduceBNe, Int.reduceAdd, Int.reduceSub, hb, D_callS]
                first | refine CD.intro (rr_a _) ?_ | refine CS.intro rr_a ?_
                simp -implicitDefEqProofs only [go_sem, List.reduceReplicate, Nat.reduceAdd, Nat.reduceSub, Nat.reduceLT, Nat.reduceLeDiff, Nat.reduceMul, Nat.reduceEqDiff, reduceCtorEq, Int.reduceLE, Int.reduceLT, Int.reduceEq, Int.reduceNe, Int.reduceBEq, Int.reduceBNe, Int.reduceAdd, Int.reduceSub]
                exact Fini.trim2 (σ' := []) rfl rfl (Nat.le_refl _) (.pl _) (fun o ho => by cases ho)
            | true =>
              have hkk := hkk rfl
              have hless := hless rfl _ hsl
              simp only [txs_append, txs_nil, List.nil_append, List.append_nil] at hless
              rw [hkk] at hkx1
              generalize (⟨(keyL Ly e).toArray⟩ : ByteArray) = ky at hkx1 hky1
              have hb : (ky.toList == ky.toList) = true := by simp
              simp -implicitDefEqProofs only [go_sem, List.reduceReplicate, Nat.reduceAdd, Nat.reduceSub, Nat.reduceLT, Nat.reduceLeDiff, Nat.reduceMul, Nat.reduceEqDiff, reduceCtorEq, Int.reduceLE, Int.reduceLT, Int.reduceEq, Int.reduceNe, Int.reduceBEq, Int.reduceBNe, Int.reduceAdd, Int.reduceSub, D_callS]
              first | refine CD.intro (hless _) ?_ | refine CS.intro hless ?_
              simp -implicitDefEqProofs only [go_sem, List.reduceReplicate, Nat.reduceAdd, Nat.reduceSub, Nat.reduceLT, Nat.reduceLeDiff, Nat.reduceMul, Nat.reduceEqDiff, reduceCtorEq, Int.reduceLE, Int.reduceLT, Int.reduceEq, Int.reduceNe, Int.reduceBEq, Int.reduceBNe, Int.reduceAdd, Int.reduceSub, D_callS]
              first | refine CD.intro (hkx1 _) ?_ | refine CS.intro hkx1 ?_
              simp -implicitDefEqProofs only [go_sem, List.reduceReplicate, Nat.reduceAdd, Nat.reduceSub, Nat.reduceLT, Nat.reduceLeDiff, Nat.reduceMul, Nat.reduceEqDiff, reduceCtorEq, Int.reduceLE, Int.reduceLT, Int.reduceEq, Int.reduceNe, Int.reduceBEq, Int.reduceBNe, Int.reduceAdd, Int.reduceSub, D_callS]
              first | refine CD.intro (hky1 _) ?_ | refine CS.intro hky1 ?_
              simp -implicitDefEqProofs only [go_sem, List.reduceReplicate, Nat.reduceAdd, Nat.reduceSub, Nat.reduceLT, Nat.reduceLeDiff, Nat.reduceMul, Nat.reduceEqDiff, reduceCtorEq, Int.reduceLE, Int.reduceLT, Int.reduceEq, Int.reduceNe, Int.reduceBEq, Int.reduceBNe, Int.reduceAdd, Int.reduceSub, hb, D_callS]
              first | refine CD.intro (rr_a _) ?_ | refine CS.intro rr_a ?_
              simp -implicitDefEqProofs only [go_sem, List.reduceReplicate, Nat.reduceAdd, Nat.reduceSub, Nat.reduceLT, Nat.reduceLeDiff, Nat.reduceMul, Nat.reduceEqDiff, reduceCtorEq, Int.reduceLE, Int.reduceLT, Int.reduceEq, Int.reduceNe, Int.reduceBEq, Int.reduceBNe, Int.reduceAdd, Int.reduceSub]
              exact Fini.trim2 (σ' := []) rfl rfl (Nat.le_refl _) (.pl _) (fun o ho => by cases ho)
        | false =>
          cases hB : B.isEmpty with
          | true =>
            have hB0 : B = [] := List.isEmpty_iff.1 hB
            subst hB0
            simp -implicitDefEqProofs only [go_sem, List.reduceReplicate, Nat.reduceAdd, Nat.reduceSub, Nat.reduceLT, Nat.reduceLeDiff, Nat.reduceMul, Nat.reduceEqDiff, reduceCtorEq, Int.reduceLE, Int.reduceLT, Int.reduceEq, Int.reduceNe, Int.reduceBEq, Int.reduceBNe, Int.reduceAdd, Int.reduceSub, d0, hz, dc, e2, e3, e5, e6, txs_len, t1, t2, t3, Int.toNat_zero, List.drop_zero, txs_all, txs_emp, hA, hB, txs_nil, l1, l2, l3, n1, Int.le_refl, List.length_append]
            cases m with
            | false =>
              simp -implicitDefEqProofs only [go_sem, List.reduceReplicate, Nat.reduceAdd, Nat.reduceSub, Nat.reduceLT, Nat.reduceLeDiff, Nat.reduceMul, Nat.reduceEqDiff, reduceCtorEq, Int.reduceLE, Int.reduceLT, Int.reduceEq, Int.reduceNe, Int.reduceBEq, Int.reduceBNe, Int.reduceAdd, Int.reduceSub, D_callS]
              first | refine CD.intro (hkx1 _) ?_ | refine CS.intro hkx1 ?_
              simp -implicitDefEqProofs only [go_sem, List.reduceReplicate, Nat.reduceAdd, Nat.reduceSub, Nat.reduceLT, Nat.reduceLeDiff, Nat.reduceMul, Nat.reduceEqDiff, reduceCtorEq, Int.reduceLE, Int.reduceLT, Int.reduceEq, Int.reduceNe, Int.reduceBEq, Int.reduceBNe, Int.reduceAdd, Int.reduceSub, D_callS]
              first | refine CD.intro (hky1 _) ?_ | refine CS.intro hky1 ?_
              generalize (⟨(keyL Lx e).toArray⟩ : ByteArray) = kx
              generalize (⟨(keyL Ly e).toArray⟩ : ByteArray) = ky
              cases hb : (kx.toList == ky.toList) with
              | true =>
                simp -implicitDefEqProofs only [go_sem, List.reduceReplicate, Nat.reduceAdd, Nat.reduceSub, Nat.reduceLT, Nat.reduceLeDiff, Nat.reduceMul, Nat.reduceEqDiff, reduceCtorEq, Int.reduceLE, Int.reduceLT, Int.reduceEq, Int.reduceNe, Int.reduceBEq, Int.reduceBNe, Int.reduceAdd, Int.reduceSub, hb, D_callS]
                first | refine CD.intro (rr_a _) ?_ | refine CS.intro rr_a ?_
                simp -implicitDefEqProofs only [go_sem, List.reduceReplicate, Nat.reduceAdd, Nat.reduceSub, Nat.reduceLT, Nat.reduceLeDiff, Nat.reduceMul, Nat.reduceEqDiff, reduceCtorEq, Int.reduceLE, Int.reduceLT, Int.reduceEq, Int.reduceNe, Int.reduceBEq, Int.reduceBNe, Int.reduceAdd, Int.reduceSub]
                exact Fini.trim2 (σ' := []) rfl rfl (Nat.le_refl _) (.pl _) (fun o ho => by cases ho)
              | false =>
                simp -implicitDefEqProofs only [go_sem, List.reduceReplicate, Nat.reduceAdd, Nat.reduceSub, Nat.reduceLT, Nat.reduceLeDiff, Nat.reduceMul, Nat.reduceEqDiff, reduceCtorEq, Int.reduceLE, Int.reduceLT, Int.reduceEq, Int.reduceNe, Int.reduceBEq, Int.reduceBNe, Int.reduceAdd, Int.reduceSub, hb, D_callS]
                first | refine CD.intro (rr_a _) ?_ | refine CS.intro rr_a ?_
                simp -implicitDefEqProofs only [go_sem, List.reduceReplicate, Nat.reduceAdd, Nat.reduceSub, Nat.reduceLT, Nat.reduceLeDiff, Nat.reduceMul, Nat.reduceEqDiff, reduceCtorEq, Int.reduceLE, Int.reduceLT, Int.reduceEq, Int.reduceNe, Int.reduceBEq, Int.reduceBNe, Int.reduceAdd, Int.reduceSub]
                exact Fini.trim2 (σ' := []) rfl rfl (Nat.le_refl _) (.pl _) (fun o ho => by cases ho)
            | true =>
              have hkk := hkk rfl
              have hless := hless rfl _ hsl
              simp only [txs_append, txs_nil, List.nil_append, List.append_nil] at hless
              rw [hkk] at hkx1
              generalize (⟨(keyL Ly e).toArray⟩ : ByteArray) = ky at hkx1 hky1
              have hb : (ky.toList == ky.toList) = true := by simp
              simp -implicitDefEqProofs only [go_sem, List.reduceReplicate, Nat.reduceAdd, Nat.reduceSub, Nat.reduceLT, Nat.reduceLeDiff, Nat.reduceMul, Nat.reduceEqDiff, reduceCtorEq, Int.reduceLE, Int.reduceLT, Int.reduceEq, Int.reduceNe, Int.reduceBEq, Int.reduceBNe, Int.reduceAdd, Int.reduceSub, D_callS]
              first | refine CD.intro (hless _) ?_ | refine CS.intro hless ?_
              simp -implicitDefEqProofs only [go_sem, List.reduceReplicate, Nat.reduceAdd, Nat.reduceSub, Nat.reduceLT, Nat.reduceLeDiff, Nat.reduceMul, Nat.reduceEqDiff, reduceCtorEq, Int.reduceLE, Int.reduceLT, Int.reduceEq, Int.reduceNe, Int.reduceBEq, Int.reduceBNe, Int.reduceAdd, Int.reduceSub, D_callS]
              first | refine CD.intro (hkx1 _) ?_ | refine CS.intro hkx1 ?_
              simp -implicitDefEqProofs only [go_sem, List.reduceReplicate, Nat.reduceAdd, Nat.reduceSub, Nat.reduceLT, Nat.reduceLeDiff, Nat.reduceMul, Nat.reduceEqDiff, reduceCtorEq, Int.reduceLE, Int.reduceLT, Int.reduceEq, Int.reduceNe, Int.reduceBEq, Int.reduceBNe, Int.reduceAdd, Int.reduceSub, D_callS]
              first | refine CD.intro (hky1 _) ?_ | refine CS.intro hky1 ?_
              simp -implicitDefEqProofs only [go_sem, List.reduceReplicate, Nat.reduceAdd, Nat.reduceSub, Nat.reduceLT, Nat.reduceLeDiff, Nat.reduceMul, Nat.reduceEqDiff, reduceCtorEq, Int.reduceLE, Int.reduceLT, Int.reduceEq, Int.reduceNe, Int.reduceBEq, Int.reduceBNe, Int.reduceAdd, Int.reduceSub, hb, D_callS]
              first | refine CD.intro (rr_a _) ?_ | refine CS.intro rr_a ?_
              simp -implicitDefEqProofs only [go_sem, List.reduceReplicate, Nat.reduceAdd, Nat.reduceSub, Nat.reduceLT, Nat.reduceLeDiff, Nat.reduceMul, Nat.reduceEqDiff, reduceCtorEq, Int.reduceLE, Int.reduceLT, Int.reduceEq, Int.reduceNe, Int.reduceBEq, Int.reduceBNe, Int.reduceAdd, Int.reduceSub]
              exact Fini.trim2 (σ' := []) rfl rfl (Nat.le_refl _) (.pl _) (fun o ho => by cases ho)
          | false =>
            simp -implicitDefEqProofs only [go_sem, List.reduceReplicate, Nat.reduceAdd, Nat.reduceSub, Nat.reduceLT, Nat.reduceLeDiff, Nat.reduceMul, Nat.reduceEqDiff, reduceCtorEq, Int.reduceLE, Int.reduceLT, Int.reduceEq, Int.reduceNe, Int.reduceBEq, Int.reduceBNe, Int.reduceAdd, Int.reduceSub, d0, hz, dc, e2, e3, e5, e6, txs_len, t1, t2, t3, Int.toNat_zero, List.drop_zero, txs_all, txs_emp, hA, hB, txs_nil, l1, l2, l3, n1, Int.le_refl, List.length_append]
            cases m with
            | false =>
              simp -implicitDefEqProofs only [go_sem, List.reduceReplicate, Nat.reduceAdd, Nat.reduceSub, Nat.reduceLT, Nat.reduceLeDiff, Nat.reduceMul, Nat.reduceEqDiff, reduceCtorEq, Int.reduceLE, Int.reduceLT, Int.reduceEq, Int.reduceNe, Int.reduceBEq, Int.reduceBNe, Int.reduceAdd, Int.reduceSub, D_callS]
              first | refine CD.intro (hkx1 _) ?_ | refine CS.intro hkx1 ?_
              simp -implicitDefEqProofs only [go_sem, List.reduceReplicate, Nat.reduceAdd, Nat.reduceSub, Nat.reduceLT, Nat.reduceLeDiff, Nat.reduceMul, Nat.reduceEqDiff, reduceCtorEq, Int.reduceLE, Int.reduceLT, Int.reduceEq, Int.reduceNe, Int.reduceBEq, Int.reduceBNe, Int.reduceAdd, Int.reduceSub, D_callS]
              first | refine CD.intro (hky1 _) ?_ | refine CS.intro hky1 ?_
              generalize (⟨(keyL Lx e).toArray⟩ : ByteArray) = kx
              generalize (⟨(keyL Ly e).toArray⟩ : ByteArray) = ky
              cases hb : (kx.toList == ky.toList) with
              | true =>
                simp -implicitDefEqProofs only [go_sem, List.reduceReplicate, Nat.reduceAdd, Nat.reduceSub, Nat.reduceLT, Nat.reduceLeDiff, Nat.reduceMul, Nat.reduceEqDiff, reduceCtorEq, Int.reduceLE, Int.reduceLT, Int.reduceEq, Int.reduceNe, Int.reduceBEq, Int.reduceBNe, Int.reduceAdd, Int.reduceSub, hb, D_callS]
                first | refine CD.intro (rr_a _) ?_ | refine CS.intro rr_a ?_
                simp -implicitDefEqProofs only [go_sem, List.reduceReplicate, Nat.reduceAdd, Nat.reduceSub, Nat.reduceLT, Nat.reduceLeDiff, Nat.reduceMul, Nat.reduceEqDiff, reduceCtorEq, Int.reduceLE, Int.reduceLT, Int.reduceEq, Int.reduceNe, Int.reduceBEq, Int.reduceBNe, Int.reduceAdd, Int.reduceSub]
                exact Fini.trim2 (σ' := []) rfl rfl (Nat.le_refl _) (.pl _) (fun o ho => by cases ho)
              | false =>
                simp -implicitDefEqProofs only [go_sem, List.reduceReplicate, Nat.reduceAdd, Nat.reduceSub, Nat.reduceLT, Nat.reduceLeDiff, Nat.reduceMul, Nat.reduceEqDiff, reduceCtorEq, Int.reduceLE, Int.reduceLT, Int.reduceEq, Int.reduceNe, Int.reduceBEq, Int.reduceBNe, Int.reduceAdd, Int.reduceSub, hb, D_callS]
                first | refine CD.intro (rr_a _) ?_ | refine CS.intro rr_a ?_
                simp -implicitDefEqProofs only [go_sem, List.reduceReplicate, Nat.reduceAdd, Nat.reduceSub, Nat.reduceLT, Nat.reduceLeDiff, Nat.reduceMul, Nat.reduceEqDiff, reduceCtorEq, Int.reduceLE, Int.reduceLT, Int.reduceEq, Int.reduceNe, Int.reduceBEq, Int.reduceBNe, Int.reduceAdd, Int.reduceSub]
                exact Fini.trim2 (σ' := []) rfl rfl (Nat.le_refl _) (.pl _) (fun o ho => by cases ho)
            | true =>
              have hkk := hkk rfl
              have hless := hless rfl _ hsl
              simp only [txs_append, txs_nil, List.nil_append, List.append_nil] at hless
              rw [hkk] at hkx1
              generalize (⟨(keyL Ly e).toArray⟩ : ByteArray) = ky at hkx1 hky1
              have hb : (ky.toList == ky.toList) = true := by simp
              simp -implicitDefEqProofs only [go_sem, List.reduceReplicate, Nat.reduceAdd, Nat.reduceSub, Nat.reduceLT, Nat.reduceLeDiff, Nat.reduceMul, Nat.reduceEqDiff, reduceCtorEq, Int.reduceLE, Int.reduceLT, Int.reduceEq, Int.reduceNe, Int.reduceBEq, Int.reduceBNe, Int.reduceAdd, Int.reduceSub, D_callS]
              first | refine CD.intro (hless _) ?_ | refine CS.intro hless ?_
              simp -implicitDefEqProofs only [go_sem, List.reduceReplicate, Nat.reduceAdd, Nat.reduceSub, Nat.reduceLT, Nat.reduceLeDiff, Nat.reduceMul, Nat.reduceEqDiff, reduceCtorEq, Int.reduceLE, Int.reduceLT, Int.reduceEq, Int.reduceNe, Int.reduceBEq, Int.reduceBNe, Int.reduceAdd, Int.reduceSub, D_callS]
              first | refine CD.intro (hkx1 _) ?_ | refine CS.intro hkx1 ?_
              simp -implicitDefEqProofs only [go_sem, List.reduceReplicate, Nat.reduceAdd, Nat.reduceSub, Nat.reduceLT, Nat.reduceLeDiff, Nat.reduceMul, Nat.reduceEqDiff, reduceCtorEq, Int.reduceLE, Int.reduceLT, Int.reduceEq, Int.reduceNe, Int.reduceBEq, Int.reduceBNe, Int.reduceAdd, Int.reduceSub, D_callS]
              first | refine CD.intro (hky1 _) ?_ | refine CS.intro hky1 ?_
              simp -implicitDefEqProofs only [go_sem, List.reduceReplicate, Nat.reduceAdd, Nat.reduceSub, Nat.reduceLT, Nat.reduceLeDiff, Nat.reduceMul, Nat.reduceEqDiff, reduceCtorEq, Int.reduceLE, Int.reduceLT, Int.reduceEq, Int.reduceNe, Int.reduceBEq, Int.reduceBNe, Int.reduceAdd, Int.reduceSub, hb, D_callS]
              first | refine CD.intro (rr_a _) ?_ | refine CS.intro rr_a ?_
              simp -implicitDefEqProofs only [go_sem, List.reduceReplicate, Nat.reduceAdd, Nat.reduceSub, Nat.reduceLT, Nat.reduceLeDiff, Nat.reduceMul, Nat.reduceEqDiff, reduceCtorEq, Int.reduceLE, Int.reduceLT, Int.reduceEq, Int.reduceNe, Int.reduceBEq, Int.reduceBNe, Int.reduceAdd, Int.reduceSub]
              exact Fini.trim2 (σ' := []) rfl rfl (Nat.le_refl _) (.pl _) (fun o ho => by cases ho)
theorem own_knob : ownKnob Try.prog.godebug = none := by kernel_rfl
theorem laid_out : laidOutB Try.prog = true := by kernel_rfl
theorem ruleEqual_lifted (os : Os) (started : os.Started) (H : Type) (enc : TypeId × Value → H) :
    ReturnsInHanded {} Try.checked os 9 .any (Rows.ruleEqualSpec.pre6 enc Try.prog Try.f9 Rows.ruleEqualRow.domain false) (Rows.ruleEqualSpec.post enc Try.prog Try.f9 false true false false) := by
  refine returnsInHanded_of_change (C := Try.checked) own_knob started (by kernel_rfl) Try.func9
    (ChangeSpec.witness6 (enc := enc) (C := Try.checked) false ⟨#[], #[.agg #[.slice none 0 0, .slice none 0 0, .int .i64 0, .float .f64 0, .float .f64 0, .slice none 0 0], .agg #[.slice none 0 0, .float .f64 0], .agg #[.slice none 0 0, .float .f64 0], .int .i64 0], []⟩ 8 (by kernel_rfl) (by kernel_rfl) (by kernel_rfl) (by kernel_rfl)) ?_
  intro W base args ds gs before hval0 hW hcnd _
  have hval : ∀ (j : Nat) t v, Try.f9.params[j]? = some t → args[j]? = some v → Value.okWide Try.prog W .any base t v := hval0
  have hW' := hW
  obtain ⟨p, q, hA0, hV, rfl, hfz, hnd⟩ := hW
  have hA : DataW.TrodAll enc Try.prog W 0 (fun _ => true) true Try.f9.params.toList args.toList ds p := hA0
  rw [Try.params9] at hA hval
  obtain ⟨v0, vs0, d0, ds0, a0, b0, hargs, rfl, rfl, h0, hA⟩ := trodAll_cons hA
  obtain ⟨v1, vs1, d1, ds1, a1, b1, rfl, rfl, rfl, h1, hA⟩ := trodAll_cons hA
  obtain ⟨v2, vs2, d2, ds2, a2, b2, rfl, rfl, rfl, h2, hA⟩ := trodAll_cons hA
  obtain ⟨v3, vs3, d3, ds3, a3, b3, rfl, rfl, rfl, h3, hA⟩ := trodAll_cons hA
  obtain ⟨rfl, rfl, rfl⟩ := trodAll_nil hA
  have : args = #[v0, v1, v2, v3] := by cases args; simpa using hargs
  subst this
  obtain ⟨dd, r0⟩ := drule_arg (hval 0 52 v0 rfl rfl) h0
  obtain ⟨xa, x, r1⟩ := dalert_arg (hval 1 54 v1 rfl rfl) h1
  obtain ⟨xb, y, r2⟩ := dalert_arg (hval 2 54 v2 rfl rfl) h2
  obtain ⟨c, r3⟩ := int_arg (hval 3 3 v3 rfl rfl) h3
  refine (Ans.law (P := Try.prog) (W := W) (vs := [v0, v1, v2, v3]) Try.func9 (by kernel_rfl) (by kernel_rfl) ((equal_rest dd xa xb x y c)) (Reps.cons r0 (Reps.cons r1 (Reps.cons r2 (Reps.cons r3 Reps.nil))))).mono fun e W' ⟨v, he, hk, M', R', hr⟩ => ?_
  cases hr
  exact ⟨_, he, law_post (P := Try.prog) laid_out (by
      intro t ht
      rw [Try.params9] at ht
      have hm : t ∈ [52, 54, 3] := by
        have := ht
        simp only [List.mem_cons, List.not_mem_nil, or_false] at this ⊢
        rcases this with h | h | h | h <;> simp [h]
      clear ht
      simp only [List.mem_cons, List.not_mem_nil, or_false] at hm
      rcases hm with rfl | rfl | rfl
      · exact ⟨by kernel_rfl, of_decide_eq_true (by kernel_rfl)⟩
      · exact ⟨by kernel_rfl, of_decide_eq_true (by kernel_rfl)⟩
      · exact ⟨by kernel_rfl, of_decide_eq_true (by kernel_rfl)⟩) rfl rfl (tb := 4) (by kernel_rfl) hW' (fun ds h => by
    match ds, h with
    | [_, _, _, _], _ => exact ⟨rfl, rfl, rfl⟩) hk⟩
theorem ruleEqual_holds : Rows.RuleEqualSaid :=
  OpenClaim.holds_of_wide 9 Try.f9 rfl rfl rfl rfl rfl rfl rfl ⟨rfl, rfl, rfl, rfl, rfl⟩ rfl rfl rfl rfl rfl (by kernel_rfl) Try.func9 (by kernel_rfl)
    (of_decide_eq_true (by kernel_rfl)) (by unfold Func.isWrapper; first | (rw [if_pos (by decide +kernel)]; kernel_rfl) | (rw [if_neg (by decide +kernel)]; exact ⟨rfl, rfl⟩))
    (fun os started H enc _ => ruleEqual_lifted os started H enc)
end Go.Proofs.Ytoadgajhkhejiaa
