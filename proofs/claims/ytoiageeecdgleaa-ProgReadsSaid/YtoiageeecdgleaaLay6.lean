/- How the program lays any tree, and what Make answers. No condition. -/
import Derived.Test.YtoiageeecdgleaaLay5
set_option linter.unusedSimpArgs false
set_option linter.unusedVariables false
namespace Go.Proofs.Ytoiageeecdgleaa
open Go Go.Ab
set_option maxRecDepth 100000
open Rex

theorem lays_alt (x : Rex) (ho : x.op = 3) (h : x.is = true) (ih : ∀ k ∈ x.ks, Lays k) (hl : x.ks.length ≤ 1000) : Lays x := by
  intro ls A E hE hb
  obtain ⟨xs, z, hk⟩ : ∃ xs z, x.ks = xs ++ [z] := ⟨x.ks.dropLast, x.ks.getLast (is_some_kid h ho), (List.dropLast_concat_getLast _).symm⟩
  have hsz : x.size = sizeL x.ks + 2 * ((x.ks.length : Int) - 1) := by rw [size_eq, ho]; rfl
  rw [hk] at hsz hl
  have hw := ways_ans xs z (fun k hk' => ⟨is_kid h (by rw [hk]; exact hk'), ih k (by rw [hk]; exact hk')⟩) ls A E hE (by simp at hsz; omega) (by simp at hl; omega)
  have hxl : lay ls.length x = layW ls.length ((ls.length + (layW ls.length 0 (xs ++ [z])).length : Nat) : Int) (xs ++ [z]) := by rw [lay_eq, ho, hk]; rfl
  rw [hxl, av_eq, ho, hk]
  refine Ans.of_run t21 ?_
  simp -implicitDefEqProofs only [c21, r21, go_sem, List.reduceReplicate, Nat.reduceAdd, Nat.reduceSub, Nat.reduceLT, Nat.reduceLeDiff, Nat.reduceMul, Nat.reduceEqDiff, reduceCtorEq, Int.reduceLE, Int.reduceLT, Int.reduceEq, Int.reduceNe, Int.reduceBEq, Int.reduceBNe, Int.reduceAdd, Int.reduceSub, O_lenv, lenA_row ls hE, List.length_map]
  refine CO.intro hw ?_
  simp -implicitDefEqProofs only [go_sem, List.reduceReplicate, Nat.reduceAdd, Nat.reduceSub, Nat.reduceLT, Nat.reduceLeDiff, Nat.reduceMul, Nat.reduceEqDiff, reduceCtorEq, Int.reduceLE, Int.reduceLT, Int.reduceEq, Int.reduceNe, Int.reduceBEq, Int.reduceBNe, Int.reduceAdd, Int.reduceSub]
  exact Fini.ret rfl

theorem lays_all (x : Rex) (h : x.is = true) (hn : x.nodes ≤ 1000) : Lays x := by
  have hk := nodes_eq x
  have hl := len_nodes x.ks
  have ih : ∀ k ∈ x.ks, Lays k := by
    intro k hk'
    obtain ⟨i, hi, rfl⟩ := List.getElem_of_mem hk'
    have hni := nodes_get x.ks i hi
    exact lays_all x.ks[i] (is_kid h hk') (by omega)
  rcases is_ops h with h1 | h1 | h1 | h1 | h1 | h1
  · exact lays_set x h1
  · exact lays_seq x h1 h ih (by omega)
  · exact lays_alt x h1 h ih (by omega)
  · obtain ⟨k, hk⟩ := is_one_kid h (.inl h1)
    exact lays_star x k h1 hk h (ih k (by rw [hk]; simp))
  · obtain ⟨k, hk⟩ := is_one_kid h (.inr (.inl h1))
    exact lays_plus x k h1 hk h (ih k (by rw [hk]; simp))
  · obtain ⟨k, hk⟩ := is_one_kid h (.inr (.inr h1))
    exact lays_maybe x k h1 hk h (ih k (by rw [hk]; simp))
termination_by SizeOf.sizeOf x
decreasing_by exact lt_of_mem (List.getElem_mem _)

/-- The program of a tree, or none. -/
def Rex.made (x : Rex) : Option (List Stp) := if x.is = true ∧ x.size + 1 ≤ 40 then some (lay 0 x ++ [⟨4, 0, 0, 0, 0, 0, 0⟩]) else none
def madeV : Option (List Stp) → AV
  | some l => .tup [.sl 7 (sv l), Bo true]
  | none => .tup [.nils, Bo false]

theorem bel_res (n : Nat) (l : List Stp) : Bel n (.tup [.sl 7 (sv l), Bo true]) := by
  have h : ∀ y ∈ [AV.sl 7 (sv l), Bo true], Bel n y := by
    intro y hy
    simp only [List.mem_cons, List.not_mem_nil, or_false] at hy
    rcases hy with rfl | rfl
    · exact .sl _ _ fun j hj => bel_sv n l _ (List.getElem_mem hj)
    · exact .pl _
  exact .tup _ fun i hi => h _ (List.getElem_mem hi)

theorem make_ans (σ : St) (x : Rex) (hn : x.nodes ≤ 1000) : Ans Try.prog 10 [x.av] σ (madeV x.made) σ := by
  have hs := Size_ans σ x hn
  have hsb := size_le x
  rw [av_eq] at hs
  by_cases hx : x.is = true ∧ x.size + 1 ≤ 40
  · have hf : full x = x.size + 1 := by simp [full, hx.1]
    have hlen := lay_len 0 x hx.1
    have c1 : decide (x.size + 1 = 0) = false := by simp; omega
    have c1' : (x.size + 1 == 0) = false := by simp; omega
    have c2 : decide (40 < x.size + 1) = false := by simp; omega
    have hl := lays_all x hx.1 hn [] σ [] (fun _ => rfl) (by simp; omega)
    rw [List.nil_append, show rowV σ.length (sv []) = .nils from rfl, show rowS 7 σ (sv []) [] = σ from rowS_nil 7 σ] at hl
    rw [show ([] : List Stp).length = 0 from rfl] at hl
    rw [hf] at hs
    rw [Rex.made, if_pos hx, madeV]
    have hmade : Ans Try.prog 10 [.agg [I x.op, U x.a, U x.b, U x.c, U x.d, .sl 6 (x.ks.map av)]] σ (.tup [.sl 7 (sv (lay 0 x ++ [⟨4, 0, 0, 0, 0, 0, 0⟩])), Bo true]) σ := by
      refine Ans.of_run' t10 (fun hbel _ => ?_)
      simp -implicitDefEqProofs only [c10, r10, go_sem, List.reduceReplicate, Nat.reduceAdd, Nat.reduceSub, Nat.reduceLT, Nat.reduceLeDiff, Nat.reduceMul, Nat.reduceEqDiff, reduceCtorEq, Int.reduceLE, Int.reduceLT, Int.reduceEq, Int.reduceNe, Int.reduceBEq, Int.reduceBNe, Int.reduceAdd, Int.reduceSub]
      refine CO.intro hs ?_
      simp -implicitDefEqProofs only [go_sem, List.reduceReplicate, Nat.reduceAdd, Nat.reduceSub, Nat.reduceLT, Nat.reduceLeDiff, Nat.reduceMul, Nat.reduceEqDiff, reduceCtorEq, Int.reduceLE, Int.reduceLT, Int.reduceEq, Int.reduceNe, Int.reduceBEq, Int.reduceBNe, Int.reduceAdd, Int.reduceSub, c1, c1', c2]
      refine CO.intro' hl (by rw [av_eq]) rfl ?_
      rcases Classical.em (lay 0 x = []) with h0 | h0
      · rw [h0, show rowV σ.length (sv []) = .nils from rfl, show rowS 7 σ (sv []) [] = σ from rowS_nil 7 σ]
        simp -implicitDefEqProofs only [go_sem, List.reduceReplicate, Nat.reduceAdd, Nat.reduceSub, Nat.reduceLT, Nat.reduceLeDiff, Nat.reduceMul, Nat.reduceEqDiff, reduceCtorEq, Int.reduceLE, Int.reduceLT, Int.reduceEq, Int.reduceNe, Int.reduceBEq, Int.reduceBNe, Int.reduceAdd, Int.reduceSub, p32, get_mid, set_mid]
        refine Fini.trim2 (σ' := σ) (ex := [.dead]) rfl rfl (Nat.le_refl _) ?_ hbel
        exact bel_res _ [⟨4, 0, 0, 0, 0, 0, 0⟩]
      · have g1 : ((lay 0 x).length + 1 ≤ 2 ^ 32) = True := by simp; omega
        rw [rowV_ne (sv_ne h0), rowS_ne (sv_ne h0)]
        simp -implicitDefEqProofs only [go_sem, List.reduceReplicate, Nat.reduceAdd, Nat.reduceSub, Nat.reduceLT, Nat.reduceLeDiff, Nat.reduceMul, Nat.reduceEqDiff, reduceCtorEq, Int.reduceLE, Int.reduceLT, Int.reduceEq, Int.reduceNe, Int.reduceBEq, Int.reduceBNe, Int.reduceAdd, Int.reduceSub, get_mid, set_mid, List.length_map, List.length_append, g1]
        have hb := bel_res σ.length (lay 0 x ++ [⟨4, 0, 0, 0, 0, 0, 0⟩])
        rw [show sv (lay 0 x ++ [⟨4, 0, 0, 0, 0, 0, 0⟩]) = sv (lay 0 x) ++ [Stp.av ⟨4, 0, 0, 0, 0, 0, 0⟩] from List.map_append] at hb ⊢
        refine Fini.trim2 (σ' := σ) (ex := [.dead]) rfl rfl (Nat.le_refl _) ?_ hbel
        exact hb
    rw [av_eq]
    exact hmade
  · rw [Rex.made, if_neg hx, madeV, av_eq]
    refine Ans.of_run t10 ?_
    simp -implicitDefEqProofs only [c10, r10, go_sem, List.reduceReplicate, Nat.reduceAdd, Nat.reduceSub, Nat.reduceLT, Nat.reduceLeDiff, Nat.reduceMul, Nat.reduceEqDiff, reduceCtorEq, Int.reduceLE, Int.reduceLT, Int.reduceEq, Int.reduceNe, Int.reduceBEq, Int.reduceBNe, Int.reduceAdd, Int.reduceSub]
    refine CO.intro hs ?_
    by_cases h0 : x.is = true
    · have hf : full x = x.size + 1 := by simp [full, h0]
      have hlen := lay_len 0 x h0
      have c1 : decide (x.size + 1 = 0) = false := by simp; omega
      have c1' : (x.size + 1 == 0) = false := by simp; omega
      have c2 : decide (40 < x.size + 1) = true := by
        simp; rcases Int.lt_or_le 40 (x.size + 1) with h | h
        · exact h
        · exact absurd ⟨h0, h⟩ hx
      rw [hf]
      simp -implicitDefEqProofs only [go_sem, List.reduceReplicate, Nat.reduceAdd, Nat.reduceSub, Nat.reduceLT, Nat.reduceLeDiff, Nat.reduceMul, Nat.reduceEqDiff, reduceCtorEq, Int.reduceLE, Int.reduceLT, Int.reduceEq, Int.reduceNe, Int.reduceBEq, Int.reduceBNe, Int.reduceAdd, Int.reduceSub, c1, c1', c2]
      exact Fini.ret rfl
    · have hf : full x = 0 := by simp [full, h0]
      rw [hf]
      simp -implicitDefEqProofs only [go_sem, List.reduceReplicate, Nat.reduceAdd, Nat.reduceSub, Nat.reduceLT, Nat.reduceLeDiff, Nat.reduceMul, Nat.reduceEqDiff, reduceCtorEq, Int.reduceLE, Int.reduceLT, Int.reduceEq, Int.reduceNe, Int.reduceBEq, Int.reduceBNe, Int.reduceAdd, Int.reduceSub]
      exact Fini.ret rfl
end Go.Proofs.Ytoiageeecdgleaa
