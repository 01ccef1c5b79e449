/- What the document's Make answers. No condition. -/
import Derived.Test.YtoiageeecdgleaaRLay2
set_option linter.unusedSimpArgs false
set_option linter.unusedVariables false
namespace Go.Proofs.Ytoiageeecdgleaa
open Go Go.Ab
set_option maxRecDepth 100000
open Rex

theorem one_nodes {x k : Rex} (hk : x.ks = [k]) : k.nodes + 1 = x.nodes := by
  rw [nodes_eq x, hk]; simp [nodesL]; omega

theorem rlays_all (x : Rex) (h : x.is = true) (hn : x.nodes ≤ 1000) : RLays x := by
  have hk := nodes_eq x
  have hl := len_nodes x.ks
  have ih : ∀ k ∈ x.ks, RLays k := by
    intro k hk'
    obtain ⟨i, hi, rfl⟩ := List.getElem_of_mem hk'
    have hni := nodes_get x.ks i hi
    exact rlays_all x.ks[i] (is_kid h hk') (by omega)
  rcases is_ops h with h1 | h1 | h1 | h1 | h1 | h1
  · exact rlays_set x h1
  · exact rlays_seq x h1 h ih (by omega)
  · exact rlays_alt x h1 h ih hn
  · obtain ⟨k, hk⟩ := is_one_kid h (.inl h1)
    have hkn := one_nodes hk
    exact rlays_star x k h1 hk h (ih k (by rw [hk]; simp)) (by omega)
  · obtain ⟨k, hk⟩ := is_one_kid h (.inr (.inl h1))
    exact rlays_plus x k h1 hk h (ih k (by rw [hk]; simp))
  · obtain ⟨k, hk⟩ := is_one_kid h (.inr (.inr h1))
    have hkn := one_nodes hk
    exact rlays_maybe x k h1 hk h (ih k (by rw [hk]; simp)) (by omega)
termination_by SizeOf.sizeOf x
decreasing_by exact lt_of_mem (List.getElem_mem _)

theorem rmake_ans (σ : St) (x : Rex) (hn : x.nodes ≤ 1000) : Ans Try.prog 13 [x.av] σ (madeV x.made) σ := by
  have hs := rSize_ans σ x hn
  have hsb := size_le x
  rw [av_eq] at hs
  by_cases hx : x.is = true ∧ x.size + 1 ≤ 40
  · have hf : full x = x.size + 1 := by simp [full, hx.1]
    have hlen := lay_len 0 x hx.1
    have c1 : decide (x.size + 1 = 0) = false := by simp; omega
    have c1' : (x.size + 1 == 0) = false := by simp; omega
    have c2 : decide (40 < x.size + 1) = false := by simp; omega
    have hl := rlays_all x hx.1 hn [] σ [] (fun _ => rfl) (by simp; omega)
    rw [List.nil_append, show rowV σ.length (sv []) = .nils from rfl, show rowS 7 σ (sv []) [] = σ from rowS_nil 7 σ] at hl
    rw [show ([] : List Stp).length = 0 from rfl] at hl
    rw [hf] at hs
    rw [Rex.made, if_pos hx, madeV]
    have hmade : Ans Try.prog 13 [.agg [I x.op, U x.a, U x.b, U x.c, U x.d, .sl 6 (x.ks.map av)]] σ (.tup [.sl 7 (sv (lay 0 x ++ [⟨4, 0, 0, 0, 0, 0, 0⟩])), Bo true]) σ := by
      refine Ans.of_run' t13 (fun hbel _ => ?_)
      simp -implicitDefEqProofs only [c13, r13, go_sem, List.reduceReplicate, Nat.reduceAdd, Nat.reduceSub, Nat.reduceLT, Nat.reduceLeDiff, Nat.reduceMul, Nat.reduceEqDiff, reduceCtorEq, Int.reduceLE, Int.reduceLT, Int.reduceEq, Int.reduceNe, Int.reduceBEq, Int.reduceBNe, Int.reduceAdd, Int.reduceSub]
      refine CO.intro hs ?_
      simp -implicitDefEqProofs only [go_sem, List.reduceReplicate, Nat.reduceAdd, Nat.reduceSub, Nat.reduceLT, Nat.reduceLeDiff, Nat.reduceMul, Nat.reduceEqDiff, reduceCtorEq, Int.reduceLE, Int.reduceLT, Int.reduceEq, Int.reduceNe, Int.reduceBEq, Int.reduceBNe, Int.reduceAdd, Int.reduceSub, c1, c1', c2]
      refine CO.intro' hl (by rw [av_eq]) rfl ?_
      rcases Classical.em (lay 0 x = []) with h0 | h0
      · rw [h0, show rowV σ.length (sv []) = .nils from rfl, show rowS 7 σ (sv []) [] = σ from rowS_nil 7 σ]
        simp -implicitDefEqProofs only [go_sem, List.reduceReplicate, Nat.reduceAdd, Nat.reduceSub, Nat.reduceLT, Nat.reduceLeDiff, Nat.reduceMul, Nat.reduceEqDiff, reduceCtorEq, Int.reduceLE, Int.reduceLT, Int.reduceEq, Int.reduceNe, Int.reduceBEq, Int.reduceBNe, Int.reduceAdd, Int.reduceSub, p32, get_mid, set_mid]
        refine Fini.trim2 (σ' := σ) (ex := [.dead]) rfl rfl (Nat.le_refl _) ?_ hbel
        exact bel_res _ [⟨4, 0, 0, 0, 0, 0, 0⟩]
      · have g1 : ((lay 0 x).length + 1 ≤ 2 ^ 32) = True := by simp; omega
        rw [rowV_ne (sv_ne h0), rowS_ne (sv_ne h0)]
        simp -implicitDefEqProofs only [go_sem, List.reduceReplicate, Nat.reduceAdd, Nat.reduceSub, Nat.reduceLT, Nat.reduceLeDiff, Nat.reduceMul, Nat.reduceEqDiff, reduceCtorEq, Int.reduceLE, Int.reduceLT, Int.reduceEq, Int.reduceNe, Int.reduceBEq, Int.reduceBNe, Int.reduceAdd, Int.reduceSub, get_mid, set_mid, List.length_map, List.length_append, g1]
        have hb := bel_res σ.length (lay 0 x ++ [⟨4, 0, 0, 0, 0, 0, 0⟩])
        rw [show sv (lay 0 x ++ [⟨4, 0, 0, 0, 0, 0, 0⟩]) = sv (lay 0 x) ++ [Stp.av ⟨4, 0, 0, 0, 0, 0, 0⟩] from List.map_append] at hb ⊢
        refine Fini.trim2 (σ' := σ) (ex := [.dead]) rfl rfl (Nat.le_refl _) ?_ hbel
        exact hb
    rw [av_eq]
    exact hmade
  · rw [Rex.made, if_neg hx, madeV, av_eq]
    refine Ans.of_run t13 ?_
    simp -implicitDefEqProofs only [c13, r13, go_sem, List.reduceReplicate, Nat.reduceAdd, Nat.reduceSub, Nat.reduceLT, Nat.reduceLeDiff, Nat.reduceMul, Nat.reduceEqDiff, reduceCtorEq, Int.reduceLE, Int.reduceLT, Int.reduceEq, Int.reduceNe, Int.reduceBEq, Int.reduceBNe, Int.reduceAdd, Int.reduceSub]
    refine CO.intro hs ?_
    by_cases h0 : x.is = true
    · have hf : full x = x.size + 1 := by simp [full, h0]
      have hlen := lay_len 0 x h0
      have c1 : decide (x.size + 1 = 0) = false := by simp; omega
      have c1' : (x.size + 1 == 0) = false := by simp; omega
      have c2 : decide (40 < x.size + 1) = true := by
        simp; rcases Int.lt_or_le 40 (x.size + 1) with h | h
        · exact h
        · exact absurd ⟨h0, h⟩ hx
      rw [hf]
      simp -implicitDefEqProofs only [go_sem, List.reduceReplicate, Nat.reduceAdd, Nat.reduceSub, Nat.reduceLT, Nat.reduceLeDiff, Nat.reduceMul, Nat.reduceEqDiff, reduceCtorEq, Int.reduceLE, Int.reduceLT, Int.reduceEq, Int.reduceNe, Int.reduceBEq, Int.reduceBNe, Int.reduceAdd, Int.reduceSub, c1, c1', c2]
      exact Fini.ret rfl
    · have hf : full x = 0 := by simp [full, h0]
      rw [hf]
      simp -implicitDefEqProofs only [go_sem, List.reduceReplicate, Nat.reduceAdd, Nat.reduceSub, Nat.reduceLT, Nat.reduceLeDiff, Nat.reduceMul, Nat.reduceEqDiff, reduceCtorEq, Int.reduceLE, Int.reduceLT, Int.reduceEq, Int.reduceNe, Int.reduceBEq, Int.reduceBNe, Int.reduceAdd, Int.reduceSub]
      exact Fini.ret rfl

theorem same_ans (σ : St) (ls : List Stp) (x : AV) (hx : Lst ls x) (hl : ls.length ≤ 1000) : Ans Try.prog 16 [x, x] σ (Bo true) σ := by
  rcases hx with ⟨rfl, rfl⟩ | rfl
  · refine Ans.of_run t16 ?_
    simp -implicitDefEqProofs only [c16, r16, go_sem, List.reduceReplicate, Nat.reduceAdd, Nat.reduceSub, Nat.reduceLT, Nat.reduceLeDiff, Nat.reduceMul, Nat.reduceEqDiff, reduceCtorEq, Int.reduceLE, Int.reduceLT, Int.reduceEq, Int.reduceNe, Int.reduceBEq, Int.reduceBNe, Int.reduceAdd, Int.reduceSub]
    refine L.count 0 (fun i => mkE 26 [(0, .nils), (1, .nils), (5, I 0)]) (fun _ => σ) ?_ ?_ rfl rfl
    · intro i hi; omega
    · intro Q
      simp -implicitDefEqProofs only [mkE, List.foldl_cons, List.foldl_nil, go_sem, List.reduceReplicate, Nat.reduceAdd, Nat.reduceSub, Nat.reduceLT, Nat.reduceLeDiff, Nat.reduceMul, Nat.reduceEqDiff, reduceCtorEq, Int.reduceLE, Int.reduceLT, Int.reduceEq, Int.reduceNe, Int.reduceBEq, Int.reduceBNe, Int.reduceAdd, Int.reduceSub]
      exact Fini.ret rfl
  · have e0 : ((ls.length : Int) != ls.length) = false := by simp
    refine Ans.of_run t16 ?_
    simp -implicitDefEqProofs only [c16, r16, go_sem, List.reduceReplicate, Nat.reduceAdd, Nat.reduceSub, Nat.reduceLT, Nat.reduceLeDiff, Nat.reduceMul, Nat.reduceEqDiff, reduceCtorEq, Int.reduceLE, Int.reduceLT, Int.reduceEq, Int.reduceNe, Int.reduceBEq, Int.reduceBNe, Int.reduceAdd, Int.reduceSub, List.length_map, e0]
    refine L.count ls.length (fun i => mkE 26 [(0, .sl 7 (sv ls)), (1, .sl 7 (sv ls)), (5, I i)]) (fun _ => σ) ?_ ?_ rfl rfl
    · intro i hi Q hQ
      have e1 : ((i : Int) < (ls.length : Nat)) = True := by simp; omega
      have e2 : IntKind.i64.wrap ((i : Int) + 1) = ((i + 1 : Nat) : Int) := by rw [wrapN (by omega) (by omega)]; rfl
      have hget : (ls.map Stp.av)[i]? = some (ls[i]).av := by simp [hi]
      generalize ls[i] = s at hget
      simp -implicitDefEqProofs only [mkE, List.foldl_cons, List.foldl_nil, go_sem, List.reduceReplicate, Nat.reduceAdd, Nat.reduceSub, Nat.reduceLT, Nat.reduceLeDiff, Nat.reduceMul, Nat.reduceEqDiff, reduceCtorEq, Int.reduceLE, Int.reduceLT, Int.reduceEq, Int.reduceNe, Int.reduceBEq, Int.reduceBNe, Int.reduceAdd, Int.reduceSub, e1, e2, hget, Stp.av, List.length_map]
      exact hQ
    · intro Q
      have e1 : (((ls.length : Nat) : Int) < (ls.length : Nat)) = False := by simp
      simp -implicitDefEqProofs only [mkE, List.foldl_cons, List.foldl_nil, go_sem, List.reduceReplicate, Nat.reduceAdd, Nat.reduceSub, Nat.reduceLT, Nat.reduceLeDiff, Nat.reduceMul, Nat.reduceEqDiff, reduceCtorEq, Int.reduceLE, Int.reduceLT, Int.reduceEq, Int.reduceNe, Int.reduceBEq, Int.reduceBNe, Int.reduceAdd, Int.reduceSub, e1, List.length_map]
      exact Fini.ret rfl
end Go.Proofs.Ytoiageeecdgleaa
