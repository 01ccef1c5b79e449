/- How the program lays the steps of ways behind others: the first loop. No condition. -/
import Derived.Test.YtoadgajhkhejiaaPLay4
set_option linter.unusedSimpArgs false
set_option linter.unusedVariables false
namespace Go.Proofs.Ytoadgajhkhejiaa
open Go Go.Ab
set_option maxRecDepth 100000
open Rex
theorem get_end (A E : St) (o p : Ob) : (A ++ o :: (E ++ [p]))[A.length + (E.length + 1)]? = some p := by
  rw [List.getElem?_append_right (by omega), show A.length + (E.length + 1) - A.length = E.length + 1 by omega, List.getElem?_cons_succ]; simp
theorem set_end (A E : St) (o p q : Ob) : (A ++ o :: (E ++ [p])).set (A.length + (E.length + 1)) q = A ++ o :: (E ++ [q]) := by
  rw [List.set_append_right _ _ (by omega), show A.length + (E.length + 1) - A.length = E.length + 1 by omega, List.set_cons_succ]; simp
def jr (J : List Int) : St := if J.isEmpty then [] else [.row 1 (J.map I)]
theorem jr_ne {J : List Int} (h : J ≠ []) : jr J = [.row 1 (J.map I)] := by simp [jr, h]
theorem Jcast {J : Env → St → Prop} {e e' : Env} {s s' : St} (h : J e s) (he : e' = e) (hs : s' = s) : J e' s' := by subst he; subst hs; exact h
theorem mapI_ne {J : List Int} (h : J ≠ []) : J.map I ≠ [] := by simpa using h
theorem preW_congr (n : Nat) (f g : Nat → Int) (l : List Rex) (h : ∀ t, t < l.length → f t = g t) : preW n f l = preW n g l := by
  induction l generalizing n f g with
  | nil => rfl
  | cons x xs ih =>
    have h0 := h 0 (by simp)
    rw [preW, preW, ih _ (fun t => f (t + 1)) (fun t => g (t + 1)) (fun t ht => h (t + 1) (by simpa using ht)), h0]
theorem bel_sv (n : Nat) (l : List Stp) : BelO n (.row 7 (sv l)) := by
  intro x hx
  simp only [sv, List.mem_map] at hx
  obtain ⟨s, _, rfl⟩ := hx
  refine .agg _ fun i hi => ?_
  have : ∀ y ∈ [I s.op, U s.a, U s.b, U s.c, U s.d, I s.x, I s.y], Bel n y := by
    intro y hy
    simp only [List.mem_cons, List.not_mem_nil, or_false] at hy
    rcases hy with rfl | rfl | rfl | rfl | rfl | rfl | rfl <;> exact .pl _
  exact this _ (List.getElem_mem hi)
theorem ways_ans (xs : List Rex) (z : Rex) (hK : ∀ k ∈ xs ++ [z], k.is = true ∧ Lays k) (ls : List Stp) (A E : St) (hE : ls = [] → E = []) (hb : (ls.length : Int) + (sizeL (xs ++ [z]) + 2 * (xs.length : Int)) ≤ 1000) (hx : xs.length ≤ 1000) :
    Ans Try.prog 129 [rowV A.length (sv ls), .sl 6 ((xs ++ [z]).map av)] (rowS 7 A (sv ls) E)
      (rowV A.length (sv (ls ++ layW ls.length ((ls.length + (layW ls.length 0 (xs ++ [z])).length : Nat) : Int) (xs ++ [z]))))
      (rowS 7 A (sv (ls ++ layW ls.length ((ls.length + (layW ls.length 0 (xs ++ [z])).length : Nat) : Int) (xs ++ [z]))) E) := by
  have hget : ∀ i (hi : i < xs.length), (xs.map av)[i]? = some (.agg [I (xs[i]).op, U (xs[i]).a, U (xs[i]).b, U (xs[i]).c, U (xs[i]).d, .sl 6 ((xs[i]).ks.map av)]) := fun i hi => by simp [hi, ← av_eq]
  have hlenp : ∀ l : List Rex, (∀ k ∈ l, k.is = true) → ∀ n f, ((preW n f l).length : Int) = sizeL l + 2 * (l.length : Int) := by
    intro l
    induction l with
    | nil => intro _ n f; simp [preW, sizeL]
    | cons k l ih =>
      intro hl n f
      have h1 := lay_len (n + 1) k (hl k (by simp))
      have h2 := ih (fun k hk => hl k (by simp [hk])) (n + 2 + (lay (n + 1) k).length) (fun t => f (t + 1))
      simp only [preW, sizeL, List.length_cons, List.length_append]; omega
  have hnn : ∀ l : List Rex, (∀ k ∈ l, k.is = true) → 0 ≤ sizeL l := by
    intro l
    induction l with
    | nil => intro _; simp [sizeL]
    | cons k l ih =>
      intro hl
      have h1 := lay_len 0 k (hl k (by simp))
      have h2 := ih fun k hk => hl k (by simp [hk])
      simp only [sizeL]; omega
  have hxs : ∀ k ∈ xs, k.is = true := fun k hk => (hK k (by simp [hk])).1
  have hz := (hK z (by simp)).1
  have hzn := lay_len 0 z hz
  have hsum : sizeL (xs ++ [z]) = sizeL xs + z.size := by rw [sizeL_append]; simp [sizeL]
  have htake : ∀ i (hi : i < xs.length), sizeL (xs.take i) + (xs[i]).size ≤ sizeL xs := by
    intro i hi
    have e : xs = xs.take (i + 1) ++ xs.drop (i + 1) := by simp
    have h2 := hnn (xs.drop (i + 1)) fun k hk => hxs k (List.mem_of_mem_drop hk)
    have h3 := sizeL_append (xs.take (i + 1)) (xs.drop (i + 1))
    rw [← e] at h3
    have h4 := sizeL_take xs i hi
    omega
  have e0 : ((xs ++ [z]).length : Int) - 1 = xs.length := by simp
  have e1 : IntKind.i64.wrap (((xs ++ [z]).length : Int) - 1) = (xs.length : Int) := by rw [e0]; exact wrapN (by omega) (by omega)
  have e2 : (0 ≤ (xs.length : Int)) = True := by simp
  have e3 : ((xs.length : Int) ≤ ((xs ++ [z]).length : Nat)) = True := by simp; omega
  have e4 : (((xs ++ [z]).map av).take xs.length) = xs.map av := by simp
  refine Ans.of_run' t129 (fun hbel _ => ?_)
  simp -implicitDefEqProofs only [c129, r129, go_sem, List.reduceReplicate, Nat.reduceAdd, Nat.reduceSub, Nat.reduceLT, Nat.reduceLeDiff, Nat.reduceMul, Nat.reduceEqDiff, reduceCtorEq, Int.reduceLE, Int.reduceLT, Int.reduceEq, Int.reduceNe, Int.reduceBEq, Int.reduceBNe, Int.reduceAdd, Int.reduceSub, O_lenv, lenA_sl, List.length_map, e1, e2, e3, e4]
  refine L.count xs.length (fun i => mkE 69 [(0, rowV A.length (sv (ls ++ preW ls.length (fun _ => 0) (xs.take i)))), (1, .sl 6 ((xs ++ [z]).map av)), (5, rowV (A.length + (E.length + 1)) ((jmpW ls.length (xs.take i)).map I)), (6, I xs.length), (17, .sl 6 (xs.map av)), (18, I xs.length), (19, I i)])
    (fun i => rowS 7 A (sv (ls ++ preW ls.length (fun _ => 0) (xs.take i))) (E ++ jr (jmpW ls.length (xs.take i)))) ?_ ?_ ?_ ?_
  · intro i hi Q hQ
    have f1 : ((i : Int) < (xs.length : Nat)) = True := by simp; omega
    have f2 : IntKind.i64.wrap ((i : Int) + 1) = ((i + 1 : Nat) : Int) := by rw [wrapN (by omega) (by omega)]; rfl
    have hi1 := htake i hi
    have hi2 := hlenp (xs.take i) (fun k hk => hxs k (List.mem_of_mem_take hk)) ls.length (fun _ => 0)
    have hil : (xs.take i).length = i := by simp; omega
    have hjl := jmpW_len ls.length (xs.take i)
    rw [hil] at hi2 hjl
    rw [List.take_succ_eq_append_getElem hi, preW_snoc, jmpW_snoc ls.length (fun _ => 0)] at hQ
    have hki := hK xs[i] (by simp)
    generalize preW ls.length (fun _ => 0) (xs.take i) = pr at hi2 hQ ⊢
    generalize jmpW ls.length (xs.take i) = J at hjl hQ ⊢
    have hkl := lay_len (ls.length + pr.length + 1) xs[i] hki.1
    rw [← List.append_assoc] at hQ
    have hkid : ∀ E', Ans Try.prog 112 [.osl A.length ((ls ++ pr).length + 1), xs[i].av] (A ++ .row 7 (sv ((ls ++ pr) ++ [⟨2, 0, 0, 0, 0, ((ls ++ pr).length : Int) + 1, 0⟩])) :: E') (.osl A.length ((ls ++ pr).length + ((lay (ls.length + pr.length + 1) xs[i]).length + 1)))
        (A ++ .row 7 (sv ((ls ++ pr) ++ [⟨2, 0, 0, 0, 0, ((ls ++ pr).length : Int) + 1, 0⟩] ++ lay (ls.length + pr.length + 1) xs[i])) :: E') := by
      intro E'
      have := hki.2.own ((ls ++ pr) ++ [⟨2, 0, 0, 0, 0, ((ls ++ pr).length : Int) + 1, 0⟩]) A E' (by simp) (by simp; omega)
      have e5 : ((ls ++ pr) ++ [(⟨2, 0, 0, 0, 0, ((ls ++ pr).length : Int) + 1, 0⟩ : Stp)]).length = ls.length + pr.length + 1 := by simp; omega
      have e6 : (ls ++ pr).length + ((lay (ls.length + pr.length + 1) xs[i]).length + 1) = ls.length + pr.length + 1 + (lay (ls.length + pr.length + 1) xs[i]).length := by simp; omega
      rw [e5] at this
      rw [e6]
      simpa using this
    have hpl : ls.length + pr.length = (ls ++ pr).length := by simp
    have hpi : i = 0 ∨ 0 < pr.length := by
      have : 0 ≤ sizeL (xs.take i) := hnn _ fun k hk => hxs k (List.mem_of_mem_take hk)
      omega
    have hEm : ls ++ pr = [] → E = [] := fun h => hE (List.append_eq_nil_iff.1 h).1
    have hb2 : ((ls ++ pr).length : Int) + (lay (ls.length + pr.length + 1) xs[i]).length + 2 ≤ 1000 := by simp; omega
    have hJi : ls ++ pr = [] → J = [] := by
      intro h
      have : pr.length = 0 := by rw [(List.append_eq_nil_iff.1 h).2]; rfl
      have : J.length = 0 := by omega
      simpa using this
    rw [hpl] at hQ hkid hb2
    clear hi1 hi2 hkl hpi hki hbel hpl
    generalize lay ((ls ++ pr).length + 1) xs[i] = K at hQ hkid hb2
    generalize ls ++ pr = M at hQ hkid hEm hJi hb2 ⊢
    have g1 : (M.length + 1 ≤ 2 ^ 32) = True := by simp; omega
    have g2 : IntKind.i64.wrap ((M.length : Int) + 1) = (M.length : Int) + 1 := wrapN (by omega) (by omega)
    have g3 : (M.length + (K.length + 2) ≤ 2 ^ 32) = True := by simp; omega
    have g4 : ((M.length : Int) < ((M.length + (K.length + 2) : Nat) : Int)) = True := by simp; omega
    have g5 : (J.length + 1 ≤ 2 ^ 32) = True := by simp; omega
    have m1 : M ++ ⟨2, 0, 0, 0, 0, (M.length : Int) + 1, ((M.length + 2 + K.length : Nat) : Int)⟩ :: (K ++ [⟨3, 0, 0, 0, 0, 0, 0⟩]) ≠ [] := by simp
    rw [rowV_ne (sv_ne m1), rowV_ne (mapI_ne (J := J ++ [((M.length + 1 + K.length : Nat) : Int)]) (by simp)), rowS_ne (sv_ne m1), jr_ne (J := J ++ [((M.length + 1 + K.length : Nat) : Int)]) (by simp)] at hQ
    rcases Classical.em (M = []) with hM | hM
    · have hJ0 := hJi hM
      have hE0 := hEm hM
      subst hM; subst hJ0; subst hE0
      rw [show rowV A.length (sv []) = .nils from rfl, show rowS 7 A (sv []) ([] ++ jr []) = A from rowS_nil 7 A, show rowV (A.length + (([] : St).length + 1)) (List.map I []) = .nils from rfl]
      simp -implicitDefEqProofs only [mkE, List.foldl_cons, List.foldl_nil, go_sem, List.reduceReplicate, Nat.reduceAdd, Nat.reduceSub, Nat.reduceLT, Nat.reduceLeDiff, Nat.reduceMul, Nat.reduceEqDiff, reduceCtorEq, Int.reduceLE, Int.reduceLT, Int.reduceEq, Int.reduceNe, Int.reduceBEq, Int.reduceBNe, Int.reduceAdd, Int.reduceSub, f1, f2, hget i hi, List.length_map, p32, w1, List.append_nil]
      refine CD.intro' (hkid []) ?_ ?_ ?_
      · rw [av_eq] <;> rfl
      · simp [Stp.av, sv]
      have g6 : (K.length + 2 ≤ 2 ^ 32) = True := by simp; omega
      have g7 : ((0 : Int) < ((K.length + 2 : Nat) : Int)) = True := by simp; omega
      simp -implicitDefEqProofs only [go_sem, List.reduceReplicate, Nat.reduceAdd, Nat.reduceSub, Nat.reduceLT, Nat.reduceLeDiff, Nat.reduceMul, Nat.reduceEqDiff, reduceCtorEq, Int.reduceLE, Int.reduceLT, Int.reduceEq, Int.reduceNe, Int.reduceBEq, Int.reduceBNe, Int.reduceAdd, Int.reduceSub, f2, p32, get_mid, set_mid, List.length_map, List.length_append, List.map_append, List.append_assoc, sv, Stp.av, Nat.add_assoc, getm, setm, g6, g7, Int.toNat_zero]
      refine Jcast hQ ?_ ?_
      · simp -implicitDefEqProofs only [mkE, List.foldl_cons, List.foldl_nil, go_sem, List.reduceReplicate, Nat.reduceAdd, Nat.reduceSub, Nat.reduceLT, Nat.reduceLeDiff, Nat.reduceMul, Nat.reduceEqDiff, reduceCtorEq, Int.reduceLE, Int.reduceLT, Int.reduceEq, Int.reduceNe, Int.reduceBEq, Int.reduceBNe, Int.reduceAdd, Int.reduceSub, sv, List.length_map, List.length_append, List.map_append, Nat.add_assoc]
        done
      · simp [Stp.av] <;> omega
    · rcases Classical.em (J = []) with hJ0 | hJ0
      · subst hJ0
        rw [rowV_ne (sv_ne hM), rowS_ne (sv_ne hM), show rowV (A.length + (E.length + 1)) (List.map I []) = .nils from rfl, show jr [] = [] from rfl]
        simp -implicitDefEqProofs only [mkE, List.foldl_cons, List.foldl_nil, go_sem, List.reduceReplicate, Nat.reduceAdd, Nat.reduceSub, Nat.reduceLT, Nat.reduceLeDiff, Nat.reduceMul, Nat.reduceEqDiff, reduceCtorEq, Int.reduceLE, Int.reduceLT, Int.reduceEq, Int.reduceNe, Int.reduceBEq, Int.reduceBNe, Int.reduceAdd, Int.reduceSub, f1, f2, hget i hi, List.length_map, get_mid, set_mid, g1, g2]
        refine CD.intro' (hkid E) ?_ ?_ ?_
        · rw [av_eq] <;> rfl
        · simp [Stp.av, sv]
        simp -implicitDefEqProofs only [go_sem, List.reduceReplicate, Nat.reduceAdd, Nat.reduceSub, Nat.reduceLT, Nat.reduceLeDiff, Nat.reduceMul, Nat.reduceEqDiff, reduceCtorEq, Int.reduceLE, Int.reduceLT, Int.reduceEq, Int.reduceNe, Int.reduceBEq, Int.reduceBNe, Int.reduceAdd, Int.reduceSub, f2, p32, get_mid, set_mid, get_end, set_end, List.length_map, List.length_append, List.map_append, List.append_assoc, sv, Stp.av, Nat.add_assoc, getm, setm, g3, g4]
        refine Jcast hQ ?_ ?_
        · simp -implicitDefEqProofs only [mkE, List.foldl_cons, List.foldl_nil, go_sem, List.reduceReplicate, Nat.reduceAdd, Nat.reduceSub, Nat.reduceLT, Nat.reduceLeDiff, Nat.reduceMul, Nat.reduceEqDiff, reduceCtorEq, Int.reduceLE, Int.reduceLT, Int.reduceEq, Int.reduceNe, Int.reduceBEq, Int.reduceBNe, Int.reduceAdd, Int.reduceSub, sv, List.length_map, List.length_append, List.map_append, Nat.add_assoc]
          done
        · simp [Stp.av] <;> omega
      · rw [rowV_ne (sv_ne hM), rowS_ne (sv_ne hM), rowV_ne (mapI_ne hJ0), jr_ne hJ0]
        simp -implicitDefEqProofs only [mkE, List.foldl_cons, List.foldl_nil, go_sem, List.reduceReplicate, Nat.reduceAdd, Nat.reduceSub, Nat.reduceLT, Nat.reduceLeDiff, Nat.reduceMul, Nat.reduceEqDiff, reduceCtorEq, Int.reduceLE, Int.reduceLT, Int.reduceEq, Int.reduceNe, Int.reduceBEq, Int.reduceBNe, Int.reduceAdd, Int.reduceSub, f1, f2, hget i hi, List.length_map, get_mid, set_mid, get_end, set_end, g1, g2]
        refine CD.intro' (hkid (E ++ [.row 1 (J.map I)])) ?_ ?_ ?_
        · rw [av_eq] <;> rfl
        · simp [Stp.av, sv]
        simp -implicitDefEqProofs only [go_sem, List.reduceReplicate, Nat.reduceAdd, Nat.reduceSub, Nat.reduceLT, Nat.reduceLeDiff, Nat.reduceMul, Nat.reduceEqDiff, reduceCtorEq, Int.reduceLE, Int.reduceLT, Int.reduceEq, Int.reduceNe, Int.reduceBEq, Int.reduceBNe, Int.reduceAdd, Int.reduceSub, f2, get_mid, set_mid, get_end, set_end, List.length_map, List.length_append, List.map_append, List.append_assoc, sv, Stp.av, Nat.add_assoc, getm, setm, g3, g4, g5]
        refine Jcast hQ ?_ ?_
        · simp -implicitDefEqProofs only [mkE, List.foldl_cons, List.foldl_nil, go_sem, List.reduceReplicate, Nat.reduceAdd, Nat.reduceSub, Nat.reduceLT, Nat.reduceLeDiff, Nat.reduceMul, Nat.reduceEqDiff, reduceCtorEq, Int.reduceLE, Int.reduceLT, Int.reduceEq, Int.reduceNe, Int.reduceBEq, Int.reduceBNe, Int.reduceAdd, Int.reduceSub, sv, List.length_map, List.length_append, List.map_append, Nat.add_assoc]
          done
        · simp [Stp.av] <;> omega
  · intro Q
    have f1 : (((xs.length : Nat) : Int) < (xs.length : Nat)) = False := by simp
    have f3 : (List.map av (xs ++ [z]))[xs.length]? = some (.agg [I z.op, U z.a, U z.b, U z.c, U z.d, .sl 6 (z.ks.map av)]) := by rw [List.map_append, List.getElem?_append_right (by simp)]; simp [← av_eq]
    simp -implicitDefEqProofs only [mkE, List.foldl_cons, List.foldl_nil, go_sem, List.reduceReplicate, Nat.reduceAdd, Nat.reduceSub, Nat.reduceLT, Nat.reduceLeDiff, Nat.reduceMul, Nat.reduceEqDiff, reduceCtorEq, Int.reduceLE, Int.reduceLT, Int.reduceEq, Int.reduceNe, Int.reduceBEq, Int.reduceBNe, Int.reduceAdd, Int.reduceSub, f1, Int.toNat_natCast, f3]
    have hpl := hlenp xs hxs ls.length (fun _ => 0)
    have hxn := hnn xs hxs
    have hLe : ls ++ preW ls.length (fun _ => 0) xs = [] → xs = [] := by
      intro h
      have : (preW ls.length (fun _ => 0) xs).length = 0 := by rw [(List.append_eq_nil_iff.1 h).2]; rfl
      have : xs.length = 0 := by omega
      simpa using this
    have hzl := lay_len (ls.length + (preW ls.length (fun _ => 0) xs).length) z hz
    have hkid := (hK z (by simp)).2 (ls ++ preW ls.length (fun _ => 0) xs) A (E ++ jr (jmpW ls.length xs)) (fun h => by
      have h1 := hLe h
      have h2 := hE (List.append_eq_nil_iff.1 h).1
      subst h1; subst h2; rfl) (by simp; omega)
    rw [List.length_append] at hkid
    rw [List.take_length]
    refine CO.intro' hkid (by rw [av_eq]) rfl ?_
    rw [layW_pre, layW_pre, List.length_append]
    have hfin : (preW ls.length (fun _ => 0) xs).length = (preW ls.length (fun _ => ((ls.length + ((preW ls.length (fun _ => 0) xs).length + (lay (ls.length + (preW ls.length (fun _ => 0) xs).length) z).length) : Nat) : Int)) xs).length := preW_len _ _ _ _
    rcases Classical.em (xs = []) with hx0 | hx0
    · subst hx0
      simp only [preW, jmpW, List.map_nil, List.append_nil, List.nil_append, List.length_nil, Nat.add_zero, jr, List.isEmpty_nil, if_true]
      rw [rowV_nil]
      simp -implicitDefEqProofs only [go_sem, List.reduceReplicate, Nat.reduceAdd, Nat.reduceSub, Nat.reduceLT, Nat.reduceLeDiff, Nat.reduceMul, Nat.reduceEqDiff, reduceCtorEq, Int.reduceLE, Int.reduceLT, Int.reduceEq, Int.reduceNe, Int.reduceBEq, Int.reduceBNe, Int.reduceAdd, Int.reduceSub, O_lenv, lenA]
      refine L.count 0 (fun i => mkE 69 [(0, rowV A.length (sv (ls ++ lay ls.length z))), (55, .nils), (56, I 0), (57, I 0)]) (fun _ => rowS 7 A (sv (ls ++ lay ls.length z)) E) ?_ ?_ ?_ ?_
      · intro i hi; omega
      · intro Q
        simp -implicitDefEqProofs only [mkE, List.foldl_cons, List.foldl_nil, go_sem, List.reduceReplicate, Nat.reduceAdd, Nat.reduceSub, Nat.reduceLT, Nat.reduceLeDiff, Nat.reduceMul, Nat.reduceEqDiff, reduceCtorEq, Int.reduceLE, Int.reduceLT, Int.reduceEq, Int.reduceNe, Int.reduceBEq, Int.reduceBNe, Int.reduceAdd, Int.reduceSub]
        exact Fini.ret rfl
      · simp [mkE]
      · rfl
    · have hJ0 : jmpW ls.length xs ≠ [] := by
        intro h
        have := jmpW_len ls.length xs
        rw [h] at this
        exact hx0 (by simpa using this.symm)
      have hne : ls ++ preW ls.length (fun _ => 0) xs ≠ [] := fun h => hx0 (hLe h)
      have hJl := jmpW_len ls.length xs
      have hat := fun f i hi => jump_at ls f xs (lay (ls.length + (preW ls.length (fun _ => 0) xs).length) z) i hi
      have hplen := fun f => preW_len ls.length f (fun _ => 0) xs
      have hpc : ∀ fin : Int, preW ls.length (fun t => if t < xs.length then fin else 0) xs = preW ls.length (fun _ => fin) xs := fun fin => preW_congr _ _ _ _ fun t ht => by simp [ht]
      rw [List.append_assoc]
      generalize hT : lay (ls.length + (preW ls.length (fun _ => 0) xs).length) z = T at *
      have hn : ∀ f, (ls ++ (preW ls.length f xs ++ T)).length = ls.length + ((preW ls.length (fun _ => 0) xs).length + T.length) := by
        intro f
        simp [hplen f]
      generalize hN : ls.length + ((preW ls.length (fun _ => 0) xs).length + T.length) = N at *
      have hne2 : ∀ f, ls ++ (preW ls.length f xs ++ T) ≠ [] := by
        intro f h
        have h1 := congrArg List.length h
        rw [hn] at h1
        have : xs.length ≠ 0 := by simpa using hx0
        simp at h1
        omega
      rw [rowV_ne (sv_ne (hne2 _)), rowS_ne (sv_ne (hne2 _)), rowV_ne (sv_ne (hne2 _)), rowS_ne (sv_ne (hne2 _)), jr_ne hJ0, rowV_ne (mapI_ne hJ0)]
      have hsn : ∀ f, (sv (ls ++ (preW ls.length f xs ++ T))).length = N := fun f => by rw [List.length_map, hn]
      rw [hsn, hsn, List.length_map, hJl]
      simp -implicitDefEqProofs only [go_sem, List.reduceReplicate, Nat.reduceAdd, Nat.reduceSub, Nat.reduceLT, Nat.reduceLeDiff, Nat.reduceMul, Nat.reduceEqDiff, reduceCtorEq, Int.reduceLE, Int.reduceLT, Int.reduceEq, Int.reduceNe, Int.reduceBEq, Int.reduceBNe, Int.reduceAdd, Int.reduceSub, get_end, get_mid, List.length_map, hJl]
      refine L.count xs.length (fun i => mkE 69 [(0, .osl A.length N), (55, .osl (A.length + (E.length + 1)) xs.length), (56, I xs.length), (57, I i)])
        (fun i => A ++ .row 7 (sv (ls ++ (preW ls.length (fun t => if t < i then (N : Int) else 0) xs ++ T))) :: (E ++ [.row 1 ((jmpW ls.length xs).map I)])) ?_ ?_ ?_ ?_
      · intro i hi Q hQ
        have g1 : ((i : Int) < (xs.length : Nat)) = True := by simp; omega
        have g2 : IntKind.i64.wrap ((i : Int) + 1) = ((i + 1 : Nat) : Int) := by rw [wrapN (by omega) (by omega)]; rfl
        obtain ⟨j, h1, h2, h3, h4⟩ := hat (fun t => if t < i then (N : Int) else 0) i hi
        have g3 : ((jmpW ls.length xs).map I)[i]? = some (I j) := by rw [List.getElem?_map, h1]; rfl
        have g4 : ((j : Int) < (N : Nat)) = True := by
          have := hn (fun t => if t < i then (N : Int) else 0)
          simp only [List.length_append] at h2 this
          simp; omega
        have g5 : (sv (ls ++ (preW ls.length (fun t => if t < i then (N : Int) else 0) xs ++ T)))[j]? = some (.agg [I 3, U 0, U 0, U 0, U 0, I (if i < i then (N : Int) else 0), I 0]) := by
          rw [List.getElem?_map, h3]; rfl
        have g6 : (sv (ls ++ (preW ls.length (fun t => if t < i then (N : Int) else 0) xs ++ T))).set j (.agg [I 3, U 0, U 0, U 0, U 0, I N, I 0]) = sv (ls ++ (preW ls.length (fun t => if t < i + 1 then (N : Int) else 0) xs ++ T)) := by
          have := h4 (N : Int)
          rw [show (fun t => if t = i then (N : Int) else if t < i then (N : Int) else 0) = fun t => if t < i + 1 then (N : Int) else 0 from by
            funext t
            by_cases ht : t = i
            · simp [ht]
            · by_cases ht2 : t < i
              · simp [ht, ht2, show t < i + 1 by omega]
              · simp [ht, ht2, show ¬ t < i + 1 by omega]] at this
          rw [← this]; unfold sv; rw [List.map_set]; rfl
        have g7 := hsn (fun t => if t < i then (N : Int) else 0)
        simp -implicitDefEqProofs only [mkE, List.foldl_cons, List.foldl_nil, go_sem, List.reduceReplicate, Nat.reduceAdd, Nat.reduceSub, Nat.reduceLT, Nat.reduceLeDiff, Nat.reduceMul, Nat.reduceEqDiff, reduceCtorEq, Int.reduceLE, Int.reduceLT, Int.reduceEq, Int.reduceNe, Int.reduceBEq, Int.reduceBNe, Int.reduceAdd, Int.reduceSub, g1, g2, get_end, get_mid, set_mid, List.length_map, hJl, g3, g4, g5, g6, g7]
        exact hQ
      · intro Q
        have g1 : (((xs.length : Nat) : Int) < (xs.length : Nat)) = False := by simp
        simp -implicitDefEqProofs only [mkE, List.foldl_cons, List.foldl_nil, go_sem, List.reduceReplicate, Nat.reduceAdd, Nat.reduceSub, Nat.reduceLT, Nat.reduceLeDiff, Nat.reduceMul, Nat.reduceEqDiff, reduceCtorEq, Int.reduceLE, Int.reduceLT, Int.reduceEq, Int.reduceNe, Int.reduceBEq, Int.reduceBNe, Int.reduceAdd, Int.reduceSub, g1]
        rw [hpc]
        refine Fini.trim2 (σ' := A ++ .row 7 (sv (ls ++ (preW ls.length (fun _ => (N : Int)) xs ++ T))) :: E) (ex := [.row 1 ((jmpW ls.length xs).map I)]) rfl (by simp) ?_ ?_ ?_
        · rcases Classical.em (ls = []) with h | h
          · have := hE h; subst h; subst this
            simp [rowS]
          · rw [rowS_ne (sv_ne h)]; simp
        · exact .osl _ _ (by simp)
        · intro o ho
          simp only [List.mem_append, List.mem_cons] at ho
          have hle : (rowS 7 A (sv ls) E).length ≤ (A ++ Ob.row 7 (sv (ls ++ (preW ls.length (fun _ => (N : Int)) xs ++ T))) :: E).length := by
            unfold rowS; split
            · simp
            · simp
          have hmem : o ∈ A ∨ o ∈ E → o ∈ rowS 7 A (sv ls) E := by
            intro h
            unfold rowS; split
            · simpa using h
            · simp; rcases h with h | h
              · exact .inl h
              · exact .inr (.inr h)
          rcases ho with ho | rfl | ho
          · exact BelO_mono (hbel o (hmem (.inl ho))) hle
          · exact bel_sv _ _
          · exact BelO_mono (hbel o (hmem (.inr ho))) hle
      · simp [mkE]
      · simp
  · simp [mkE, preW, jmpW, rowV_nil]
  · simp [preW, jmpW, jr]
end Go.Proofs.Ytoadgajhkhejiaa
namespace Go.Proofs.Ytoadgajhkhejiaa
open Go Go.Ab
set_option maxRecDepth 100000
open Rex
theorem lays_alt (x : Rex) (ho : x.op = 3) (h : x.is = true) (ih : ∀ k ∈ x.ks, Lays k) (hl : x.ks.length ≤ 1000) : Lays x := by
  intro ls A E hE hb
  obtain ⟨xs, z, hk⟩ : ∃ xs z, x.ks = xs ++ [z] := ⟨x.ks.dropLast, x.ks.getLast (is_some_kid h ho), (List.dropLast_concat_getLast _).symm⟩
  have hsz : x.size = sizeL x.ks + 2 * ((x.ks.length : Int) - 1) := by rw [size_eq, ho]; rfl
  rw [hk] at hsz hl
  have hw := ways_ans xs z (fun k hk' => ⟨is_kid h (by rw [hk]; exact hk'), ih k (by rw [hk]; exact hk')⟩) ls A E hE (by simp at hsz; omega) (by simp at hl; omega)
  have hxl : lay ls.length x = layW ls.length ((ls.length + (layW ls.length 0 (xs ++ [z])).length : Nat) : Int) (xs ++ [z]) := by rw [lay_eq, ho, hk]; rfl
  rw [hxl, av_eq, ho, hk]
  refine Ans.of_run t112 ?_
  simp -implicitDefEqProofs only [c112, r112, go_sem, List.reduceReplicate, Nat.reduceAdd, Nat.reduceSub, Nat.reduceLT, Nat.reduceLeDiff, Nat.reduceMul, Nat.reduceEqDiff, reduceCtorEq, Int.reduceLE, Int.reduceLT, Int.reduceEq, Int.reduceNe, Int.reduceBEq, Int.reduceBNe, Int.reduceAdd, Int.reduceSub, O_lenv, lenA_row ls hE, List.length_map]
  refine CO.intro hw ?_
  simp -implicitDefEqProofs only [go_sem, List.reduceReplicate, Nat.reduceAdd, Nat.reduceSub, Nat.reduceLT, Nat.reduceLeDiff, Nat.reduceMul, Nat.reduceEqDiff, reduceCtorEq, Int.reduceLE, Int.reduceLT, Int.reduceEq, Int.reduceNe, Int.reduceBEq, Int.reduceBNe, Int.reduceAdd, Int.reduceSub]
  exact Fini.ret rfl
theorem lays_all (x : Rex) (h : x.is = true) (hn : x.nodes ≤ 1000) : Lays x := by
  have hk := nodes_eq x
  have hl := len_nodes x.ks
  have ih : ∀ k ∈ x.ks, Lays k := by
    intro k hk'
    obtain ⟨i, hi, rfl⟩ := List.getElem_of_mem hk'
    have hni := nodes_get x.ks i hi
    exact lays_all x.ks[i] (is_kid h hk') (by omega)
  rcases is_ops h with h1 | h1 | h1 | h1 | h1 | h1
  · exact lays_set x h1
  · exact lays_seq x h1 h ih (by omega)
  · exact lays_alt x h1 h ih (by omega)
  · obtain ⟨k, hk⟩ := is_one_kid h (.inl h1)
    exact lays_star x k h1 hk h (ih k (by rw [hk]; simp))
  · obtain ⟨k, hk⟩ := is_one_kid h (.inr (.inl h1))
    exact lays_plus x k h1 hk h (ih k (by rw [hk]; simp))
  · obtain ⟨k, hk⟩ := is_one_kid h (.inr (.inr h1))
    exact lays_maybe x k h1 hk h (ih k (by rw [hk]; simp))
termination_by SizeOf.sizeOf x
decreasing_by exact lt_of_mem (List.getElem_mem _)
def Rex.made (x : Rex) : Option (List Stp) := if x.is = true ∧ x.size + 1 ≤ 40 then some (lay 0 x ++ [⟨4, 0, 0, 0, 0, 0, 0⟩]) else none
def madeV : Option (List Stp) → AV
  | some l => .tup [.sl 7 (sv l), Bo true]
  | none => .tup [.nils, Bo false]
theorem bel_res (n : Nat) (l : List Stp) : Bel n (.tup [.sl 7 (sv l), Bo true]) := by
  have h : ∀ y ∈ [AV.sl 7 (sv l), Bo true], Bel n y := by
    intro y hy
    simp only [List.mem_cons, List.not_mem_nil, or_false] at hy
    rcases hy with rfl | rfl
    · exact .sl _ _ fun j hj => bel_sv n l _ (List.getElem_mem hj)
    · exact .pl _
  exact .tup _ fun i hi => h _ (List.getElem_mem hi)
theorem make_ans (σ : St) (x : Rex) (hn : x.nodes ≤ 1000) : Ans Try.prog 90 [x.av] σ (madeV x.made) σ := by
  have hs := Size_ans σ x hn
  have hsb := size_le x
  rw [av_eq] at hs
  by_cases hx : x.is = true ∧ x.size + 1 ≤ 40
  · have hf : full x = x.size + 1 := by simp [full, hx.1]
    have hlen := lay_len 0 x hx.1
    have c1 : decide (x.size + 1 = 0) = false := by simp; omega
    have c1' : (x.size + 1 == 0) = false := by simp; omega
    have c2 : decide (40 < x.size + 1) = false := by simp; omega
    have hl := lays_all x hx.1 hn [] σ [] (fun _ => rfl) (by simp; omega)
    rw [List.nil_append, show rowV σ.length (sv []) = .nils from rfl, show rowS 7 σ (sv []) [] = σ from rowS_nil 7 σ] at hl
    rw [show ([] : List Stp).length = 0 from rfl] at hl
    rw [hf] at hs
    rw [Rex.made, if_pos hx, madeV]
    have hmade : Ans Try.prog 90 [.agg [I x.op, U x.a, U x.b, U x.c, U x.d, .sl 6 (x.ks.map av)]] σ (.tup [.sl 7 (sv (lay 0 x ++ [⟨4, 0, 0, 0, 0, 0, 0⟩])), Bo true]) σ := by
      refine Ans.of_run' t90 (fun hbel _ => ?_)
      simp -implicitDefEqProofs only [c90, r90, go_sem, List.reduceReplicate, Nat.reduceAdd, Nat.reduceSub, Nat.reduceLT, Nat.reduceLeDiff, Nat.reduceMul, Nat.reduceEqDiff, reduceCtorEq, Int.reduceLE, Int.reduceLT, Int.reduceEq, Int.reduceNe, Int.reduceBEq, Int.reduceBNe, Int.reduceAdd, Int.reduceSub]
      refine CO.intro hs ?_
      simp -implicitDefEqProofs only [go_sem, List.reduceReplicate, Nat.reduceAdd, Nat.reduceSub, Nat.reduceLT, Nat.reduceLeDiff, Nat.reduceMul, Nat.reduceEqDiff, reduceCtorEq, Int.reduceLE, Int.reduceLT, Int.reduceEq, Int.reduceNe, Int.reduceBEq, Int.reduceBNe, Int.reduceAdd, Int.reduceSub, c1, c1', c2]
      refine CO.intro' hl (by rw [av_eq]) rfl ?_
      rcases Classical.em (lay 0 x = []) with h0 | h0
      · rw [h0, show rowV σ.length (sv []) = .nils from rfl, show rowS 7 σ (sv []) [] = σ from rowS_nil 7 σ]
        simp -implicitDefEqProofs only [go_sem, List.reduceReplicate, Nat.reduceAdd, Nat.reduceSub, Nat.reduceLT, Nat.reduceLeDiff, Nat.reduceMul, Nat.reduceEqDiff, reduceCtorEq, Int.reduceLE, Int.reduceLT, Int.reduceEq, Int.reduceNe, Int.reduceBEq, Int.reduceBNe, Int.reduceAdd, Int.reduceSub, p32, get_mid, set_mid]
        refine Fini.trim2 (σ' := σ) (ex := [.dead]) rfl rfl (Nat.le_refl _) ?_ hbel
        exact bel_res _ [⟨4, 0, 0, 0, 0, 0, 0⟩]
      · have g1 : ((lay 0 x).length + 1 ≤ 2 ^ 32) = True := by simp; omega
        rw [rowV_ne (sv_ne h0), rowS_ne (sv_ne h0)]
        simp -implicitDefEqProofs only [go_sem, List.reduceReplicate, Nat.reduceAdd, Nat.reduceSub, Nat.reduceLT, Nat.reduceLeDiff, Nat.reduceMul, Nat.reduceEqDiff, reduceCtorEq, Int.reduceLE, Int.reduceLT, Int.reduceEq, Int.reduceNe, Int.reduceBEq, Int.reduceBNe, Int.reduceAdd, Int.reduceSub, get_mid, set_mid, List.length_map, List.length_append, g1]
        have hb := bel_res σ.length (lay 0 x ++ [⟨4, 0, 0, 0, 0, 0, 0⟩])
        rw [show sv (lay 0 x ++ [⟨4, 0, 0, 0, 0, 0, 0⟩]) = sv (lay 0 x) ++ [Stp.av ⟨4, 0, 0, 0, 0, 0, 0⟩] from List.map_append] at hb ⊢
        refine Fini.trim2 (σ' := σ) (ex := [.dead]) rfl rfl (Nat.le_refl _) ?_ hbel
        exact hb
    rw [av_eq]
    exact hmade
  · rw [Rex.made, if_neg hx, madeV, av_eq]
    refine Ans.of_run t90 ?_
    simp -implicitDefEqProofs only [c90, r90, go_sem, List.reduceReplicate, Nat.reduceAdd, Nat.reduceSub, Nat.reduceLT, Nat.reduceLeDiff, Nat.reduceMul, Nat.reduceEqDiff, reduceCtorEq, Int.reduceLE, Int.reduceLT, Int.reduceEq, Int.reduceNe, Int.reduceBEq, Int.reduceBNe, Int.reduceAdd, Int.reduceSub]
    refine CO.intro hs ?_
    by_cases h0 : x.is = true
    · have hf : full x = x.size + 1 := by simp [full, h0]
      have hlen := lay_len 0 x h0
      have c1 : decide (x.size + 1 = 0) = false := by simp; omega
      have c1' : (x.size + 1 == 0) = false := by simp; omega
      have c2 : decide (40 < x.size + 1) = true := by
        simp; rcases Int.lt_or_le 40 (x.size + 1) with h | h
        · exact h
        · exact absurd ⟨h0, h⟩ hx
      rw [hf]
      simp -implicitDefEqProofs only [go_sem, List.reduceReplicate, Nat.reduceAdd, Nat.reduceSub, Nat.reduceLT, Nat.reduceLeDiff, Nat.reduceMul, Nat.reduceEqDiff, reduceCtorEq, Int.reduceLE, Int.reduceLT, Int.reduceEq, Int.reduceNe, Int.reduceBEq, Int.reduceBNe, Int.reduceAdd, Int.reduceSub, c1, c1', c2]
      exact Fini.ret rfl
    · have hf : full x = 0 := by simp [full, h0]
      rw [hf]
      simp -implicitDefEqProofs only [go_sem, List.reduceReplicate, Nat.reduceAdd, Nat.reduceSub, Nat.reduceLT, Nat.reduceLeDiff, Nat.reduceMul, Nat.reduceEqDiff, reduceCtorEq, Int.reduceLE, Int.reduceLT, Int.reduceEq, Int.reduceNe, Int.reduceBEq, Int.reduceBNe, Int.reduceAdd, Int.reduceSub]
      exact Fini.ret rfl
end Go.Proofs.Ytoadgajhkhejiaa
