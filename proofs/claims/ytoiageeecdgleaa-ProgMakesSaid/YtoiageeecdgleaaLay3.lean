/- How the program lays the steps of a tree behind others: one kid. No condition. -/
import Derived.Test.YtoiageeecdgleaaLay2
set_option linter.unusedSimpArgs false
set_option linter.unusedVariables false
namespace Go.Proofs.Ytoiageeecdgleaa
open Go Go.Ab
set_option maxRecDepth 100000
open Rex

theorem size_kid {x k : Rex} (hk : x.ks = [k]) : sizeL x.ks = k.size := by rw [hk]; simp [sizeL]
theorem map_kid (k : Rex) : List.map av [k] = [.agg [I k.op, U k.a, U k.b, U k.c, U k.d, .sl 6 (k.ks.map av)]] := by rw [List.map_cons, List.map_nil, av_eq]

theorem row_intro {P : Program} {f : FuncId} {more : List AV} {ls M : List Stp} {A E : St} (hE : ls = [] → E = []) (hM : M ≠ [])
    (h1 : ls = [] → Ans P f (.nils :: more) A (.osl A.length M.length) (A ++ [.row 7 (sv M)]))
    (h2 : ls ≠ [] → Ans P f (.osl A.length ls.length :: more) (A ++ .row 7 (sv ls) :: E) (.osl A.length (ls.length + M.length)) (A ++ .row 7 (sv (ls ++ M)) :: E)) :
    Ans P f (rowV A.length (sv ls) :: more) (rowS 7 A (sv ls) E) (rowV A.length (sv (ls ++ M))) (rowS 7 A (sv (ls ++ M)) E) := by
  rw [rowV_ne (sv_ne (show ls ++ M ≠ [] by simp [hM])), rowS_ne (sv_ne (show ls ++ M ≠ [] by simp [hM]))]
  rcases Classical.em (ls = []) with rfl | hne
  · have := hE rfl
    subst this
    have := h1 rfl
    simpa [rowS, rowV, sv] using this
  · have := h2 hne
    rw [rowV_ne (sv_ne hne), rowS_ne (sv_ne hne)]
    simpa [sv] using this

theorem getm {α : Type} (f : α → AV) (l : List α) (a : AV) (M : List AV) : (l.map f ++ a :: M)[l.length]? = some a := by
  rw [List.getElem?_append_right (by simp)]; simp
theorem setm {α : Type} (f : α → AV) (l : List α) (a b : AV) (M : List AV) : (l.map f ++ a :: M).set l.length b = l.map f ++ b :: M := by
  rw [List.set_append_right _ _ (by simp)]; simp
theorem p32 : (1 ≤ 2 ^ 32) = True := by simp
theorem w1 : IntKind.i64.wrap 1 = 1 := by decide

theorem lays_plus (x k : Rex) (ho : x.op = 5) (hk : x.ks = [k]) (h : x.is = true) (ih : Lays k) : Lays x := by
  intro ls A E hE hb
  have hsz : x.size = k.size + 1 := by rw [size_eq, ho, size_kid hk]; rfl
  have hkl := lay_len ls.length k (is_kid h (by rw [hk]; simp))
  have hxl : lay ls.length x = lay ls.length k ++ [⟨2, 0, 0, 0, 0, ls.length, ((ls.length + (lay ls.length k).length : Nat) : Int) + 1⟩] := by rw [lay_eq, ho, hk]; rfl
  rw [hxl, av_eq, ho, hk, map_kid]
  have e3 : IntKind.i64.wrap (((ls.length + (lay ls.length k).length : Nat) : Int) + 1) = ((ls.length + (lay ls.length k).length : Nat) : Int) + 1 := wrapN (by omega) (by omega)
  have e4 : (ls.length + (lay ls.length k).length + 1 ≤ 2 ^ 32) = True := by simp; omega
  have e5 : (ls ++ lay ls.length k).length = ls.length + (lay ls.length k).length := List.length_append
  refine Ans.of_run t21 ?_
  simp -implicitDefEqProofs only [c21, r21, go_sem, List.reduceReplicate, Nat.reduceAdd, Nat.reduceSub, Nat.reduceLT, Nat.reduceLeDiff, Nat.reduceMul, Nat.reduceEqDiff, reduceCtorEq, Int.reduceLE, Int.reduceLT, Int.reduceEq, Int.reduceNe, Int.reduceBEq, Int.reduceBNe, Int.reduceAdd, Int.reduceSub, O_lenv, lenA_row ls hE, lenA_sl, List.length_map]
  refine CO.intro' (ih ls A E hE (by omega)) (by rw [av_eq]; rfl) rfl ?_
  rcases Classical.em (ls ++ lay ls.length k = []) with hne | hne
  · have hls : ls = [] := (List.append_eq_nil_iff.1 hne).1
    have hE' := hE hls
    subst hls; subst hE'
    have hk0 : lay 0 k = [] := by simpa using hne
    have hk1 : lay ([] : List Stp).length k = [] := hk0
    have e6 : IntKind.i64.wrap (0 + 1) = 1 := by decide
    have e6' : IntKind.i64.wrap 1 = 1 := by decide
    rw [hne, hk1]
    rw [sv, List.map_nil, rowV_nil, rowS_nil]
    simp -implicitDefEqProofs only [go_sem, List.reduceReplicate, Nat.reduceAdd, Nat.reduceSub, Nat.reduceLT, Nat.reduceLeDiff, Nat.reduceMul, Nat.reduceEqDiff, reduceCtorEq, Int.reduceLE, Int.reduceLT, Int.reduceEq, Int.reduceNe, Int.reduceBEq, Int.reduceBNe, Int.reduceAdd, Int.reduceSub, e6]
    refine Fini.ret2 (n := 0) rfl ?_ ?_
    · simp [rowV]; rfl
    · simp [rowS, Stp.av, e6']
  · have hne2 : ls ++ (lay ls.length k ++ [⟨2, 0, 0, 0, 0, ls.length, ((ls.length + (lay ls.length k).length : Nat) : Int) + 1⟩]) ≠ [] := by simp
    rw [rowV_ne (sv_ne hne), rowS_ne (sv_ne hne), rowV_ne (sv_ne hne2), rowS_ne (sv_ne hne2)]
    simp -implicitDefEqProofs only [go_sem, List.reduceReplicate, Nat.reduceAdd, Nat.reduceSub, Nat.reduceLT, Nat.reduceLeDiff, Nat.reduceMul, Nat.reduceEqDiff, reduceCtorEq, Int.reduceLE, Int.reduceLT, Int.reduceEq, Int.reduceNe, Int.reduceBEq, Int.reduceBNe, Int.reduceAdd, Int.reduceSub, List.length_map, get_mid, set_mid, e5, e3, e4]
    refine Fini.ret2 (n := 0) rfl ?_ ?_
    · simp; rfl
    · simp [Stp.av]

theorem lays_star (x k : Rex) (ho : x.op = 4) (hk : x.ks = [k]) (h : x.is = true) (ih : Lays k) : Lays x := by
  intro ls A E hE hb
  have hsz : x.size = k.size + 2 := by rw [size_eq, ho, size_kid hk]; rfl
  have hkl := lay_len (ls.length + 1) k (is_kid h (by rw [hk]; simp))
  have hxl : lay ls.length x = ⟨2, 0, 0, 0, 0, (ls.length : Int) + 1, ((ls.length + 2 + (lay (ls.length + 1) k).length : Nat) : Int)⟩ :: (lay (ls.length + 1) k ++ [⟨3, 0, 0, 0, 0, ls.length, 0⟩]) := by rw [lay_eq, ho, hk]; rfl
  rw [hxl, av_eq, ho, hk, map_kid]
  have e3 : IntKind.i64.wrap ((ls.length : Int) + 1) = (ls.length : Int) + 1 := wrapN (by omega) (by omega)
  have e4 : (ls.length + 1 ≤ 2 ^ 32) = True := by simp; omega
  have hkid := (ih.own (ls ++ [⟨2, 0, 0, 0, 0, (ls.length : Int) + 1, 0⟩]) A E (by simp) (by simp; omega))
  have e5 : (ls ++ [(⟨2, 0, 0, 0, 0, (ls.length : Int) + 1, 0⟩ : Stp)]).length = ls.length + 1 := by simp
  rw [e5] at hkid
  generalize lay (ls.length + 1) k = K at hkid hkl ⊢
  refine row_intro hE (by simp) (fun hls => ?_) (fun hne => ?_)
  · have hE' := hE hls
    subst hls; subst hE'
    have e6 : (K.length + 2 ≤ 2 ^ 32) = True := by simp; omega
    have e7 : ((0 : Int) < ((K.length + 2 : Nat) : Int)) = True := by simp; omega
    have e8 : ([] : List Stp).length + 1 + K.length = K.length + 1 := by simp; omega
    rw [e8] at hkid
    refine Ans.of_run t21 ?_
    simp -implicitDefEqProofs only [c21, r21, go_sem, List.reduceReplicate, Nat.reduceAdd, Nat.reduceSub, Nat.reduceLT, Nat.reduceLeDiff, Nat.reduceMul, Nat.reduceEqDiff, reduceCtorEq, Int.reduceLE, Int.reduceLT, Int.reduceEq, Int.reduceNe, Int.reduceBEq, Int.reduceBNe, Int.reduceAdd, Int.reduceSub, p32, w1, Int.toNat_zero]
    refine CD.intro' hkid ?_ ?_ ?_
    · rw [av_eq] <;> rfl
    · simp [Stp.av, sv]
    simp -implicitDefEqProofs only [go_sem, List.reduceReplicate, Nat.reduceAdd, Nat.reduceSub, Nat.reduceLT, Nat.reduceLeDiff, Nat.reduceMul, Nat.reduceEqDiff, reduceCtorEq, Int.reduceLE, Int.reduceLT, Int.reduceEq, Int.reduceNe, Int.reduceBEq, Int.reduceBNe, Int.reduceAdd, Int.reduceSub, get_mid, set_mid, List.length_map, List.length_append, e6, e7, sv, Stp.av, Int.toNat_zero, Nat.add_assoc]
    refine Fini.ret2 (n := 0) rfl ?_ ?_
    · rfl
    · simp [Stp.av]; omega
  · have e6 : (ls.length + (K.length + 2) ≤ 2 ^ 32) = True := by simp; omega
    have e7 : ((ls.length : Int) < ((ls.length + (K.length + 2) : Nat) : Int)) = True := by simp; omega
    have e8 : ls.length + 1 + K.length = ls.length + (K.length + 1) := by omega
    rw [e8] at hkid
    refine Ans.of_run t21 ?_
    simp -implicitDefEqProofs only [c21, r21, go_sem, List.reduceReplicate, Nat.reduceAdd, Nat.reduceSub, Nat.reduceLT, Nat.reduceLeDiff, Nat.reduceMul, Nat.reduceEqDiff, reduceCtorEq, Int.reduceLE, Int.reduceLT, Int.reduceEq, Int.reduceNe, Int.reduceBEq, Int.reduceBNe, Int.reduceAdd, Int.reduceSub, get_mid, set_mid, List.length_map, List.length_append, e4, e3, Int.toNat_zero]
    refine CD.intro' hkid ?_ ?_ ?_
    · rw [av_eq] <;> rfl
    · simp [Stp.av, sv]
    simp -implicitDefEqProofs only [go_sem, List.reduceReplicate, Nat.reduceAdd, Nat.reduceSub, Nat.reduceLT, Nat.reduceLeDiff, Nat.reduceMul, Nat.reduceEqDiff, reduceCtorEq, Int.reduceLE, Int.reduceLT, Int.reduceEq, Int.reduceNe, Int.reduceBEq, Int.reduceBNe, Int.reduceAdd, Int.reduceSub, get_mid, set_mid, List.length_map, List.length_append, List.map_append, List.append_assoc, e6, e7, sv, Stp.av, Nat.add_assoc, getm, setm]
    refine Fini.ret2 (n := 0) rfl ?_ ?_
    · rfl
    · simp [Stp.av]; omega

theorem lays_maybe (x k : Rex) (ho : x.op = 6) (hk : x.ks = [k]) (h : x.is = true) (ih : Lays k) : Lays x := by
  intro ls A E hE hb
  have hsz : x.size = k.size + 1 := by rw [size_eq, ho, size_kid hk]; rfl
  have hkl := lay_len (ls.length + 1) k (is_kid h (by rw [hk]; simp))
  have hxl : lay ls.length x = ⟨2, 0, 0, 0, 0, (ls.length : Int) + 1, ((ls.length + 1 + (lay (ls.length + 1) k).length : Nat) : Int)⟩ :: lay (ls.length + 1) k := by rw [lay_eq, ho, hk]; rfl
  rw [hxl, av_eq, ho, hk, map_kid]
  have e3 : IntKind.i64.wrap ((ls.length : Int) + 1) = (ls.length : Int) + 1 := wrapN (by omega) (by omega)
  have e4 : (ls.length + 1 ≤ 2 ^ 32) = True := by simp; omega
  have hkid := (ih.own (ls ++ [⟨2, 0, 0, 0, 0, (ls.length : Int) + 1, 0⟩]) A E (by simp) (by simp; omega))
  have e5 : (ls ++ [(⟨2, 0, 0, 0, 0, (ls.length : Int) + 1, 0⟩ : Stp)]).length = ls.length + 1 := by simp
  rw [e5] at hkid
  generalize lay (ls.length + 1) k = K at hkid hkl ⊢
  refine row_intro hE (by simp) (fun hls => ?_) (fun hne => ?_)
  · have hE' := hE hls
    subst hls; subst hE'
    have e6 : (K.length + 1 ≤ 2 ^ 32) = True := by simp; omega
    have e7 : ((0 : Int) < ((K.length + 1 : Nat) : Int)) = True := by simp <;> omega
    have e8 : ([] : List Stp).length + 1 + K.length = K.length + 1 := by simp; omega
    rw [e8] at hkid
    refine Ans.of_run t21 ?_
    simp -implicitDefEqProofs only [c21, r21, go_sem, List.reduceReplicate, Nat.reduceAdd, Nat.reduceSub, Nat.reduceLT, Nat.reduceLeDiff, Nat.reduceMul, Nat.reduceEqDiff, reduceCtorEq, Int.reduceLE, Int.reduceLT, Int.reduceEq, Int.reduceNe, Int.reduceBEq, Int.reduceBNe, Int.reduceAdd, Int.reduceSub, p32, w1, Int.toNat_zero]
    refine CD.intro' hkid ?_ ?_ ?_
    · rw [av_eq] <;> rfl
    · simp [Stp.av, sv]
    simp -implicitDefEqProofs only [go_sem, List.reduceReplicate, Nat.reduceAdd, Nat.reduceSub, Nat.reduceLT, Nat.reduceLeDiff, Nat.reduceMul, Nat.reduceEqDiff, reduceCtorEq, Int.reduceLE, Int.reduceLT, Int.reduceEq, Int.reduceNe, Int.reduceBEq, Int.reduceBNe, Int.reduceAdd, Int.reduceSub, get_mid, set_mid, List.length_map, List.length_append, e6, e7, sv, Stp.av, Int.toNat_zero, Nat.add_assoc]
    refine Fini.ret2 (n := 0) rfl ?_ ?_
    · rfl
    · simp [Stp.av]; omega
  · have e6 : (ls.length + (K.length + 1) ≤ 2 ^ 32) = True := by simp; omega
    have e7 : ((ls.length : Int) < ((ls.length + (K.length + 1) : Nat) : Int)) = True := by simp; omega
    have e8 : ls.length + 1 + K.length = ls.length + (K.length + 1) := by omega
    rw [e8] at hkid
    refine Ans.of_run t21 ?_
    simp -implicitDefEqProofs only [c21, r21, go_sem, List.reduceReplicate, Nat.reduceAdd, Nat.reduceSub, Nat.reduceLT, Nat.reduceLeDiff, Nat.reduceMul, Nat.reduceEqDiff, reduceCtorEq, Int.reduceLE, Int.reduceLT, Int.reduceEq, Int.reduceNe, Int.reduceBEq, Int.reduceBNe, Int.reduceAdd, Int.reduceSub, get_mid, set_mid, List.length_map, List.length_append, e4, e3, Int.toNat_zero]
    refine CD.intro' hkid ?_ ?_ ?_
    · rw [av_eq] <;> rfl
    · simp [Stp.av, sv]
    simp -implicitDefEqProofs only [go_sem, List.reduceReplicate, Nat.reduceAdd, Nat.reduceSub, Nat.reduceLT, Nat.reduceLeDiff, Nat.reduceMul, Nat.reduceEqDiff, reduceCtorEq, Int.reduceLE, Int.reduceLT, Int.reduceEq, Int.reduceNe, Int.reduceBEq, Int.reduceBNe, Int.reduceAdd, Int.reduceSub, get_mid, set_mid, List.length_map, List.length_append, List.map_append, List.append_assoc, e6, e7, sv, Stp.av, Nat.add_assoc, getm, setm]
    refine Fini.ret2 (n := 0) rfl ?_ ?_
    · rfl
    · simp [Stp.av]; omega
end Go.Proofs.Ytoiageeecdgleaa
