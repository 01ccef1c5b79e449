/- How the document lays the steps of a tree behind others. No condition. -/
import Derived.Test.YtoiageeecdgleaaRTree
set_option linter.unusedSimpArgs false
set_option linter.unusedVariables false
namespace Go.Proofs.Ytoiageeecdgleaa
open Go Go.Ab
set_option maxRecDepth 100000
open Rex

def RLays (x : Rex) : Prop := ∀ (ls : List Stp) (A E : St), (ls = [] → E = []) → (ls.length : Int) + x.size ≤ 1000 →
  Ans Try.prog 25 [rowV A.length (sv ls), x.av] (rowS 7 A (sv ls) E) (rowV A.length (sv (ls ++ lay ls.length x))) (rowS 7 A (sv (ls ++ lay ls.length x)) E)

theorem RLays.own {x : Rex} (h : RLays x) (ls : List Stp) (A E : St) (hne : ls ≠ []) (hb : (ls.length : Int) + x.size ≤ 1000) :
    Ans Try.prog 25 [.osl A.length ls.length, x.av] (A ++ .row 7 (sv ls) :: E) (.osl A.length (ls.length + (lay ls.length x).length)) (A ++ .row 7 (sv (ls ++ lay ls.length x)) :: E) := by
  have := h ls A E (fun e => absurd e hne) hb
  rw [rowV_ne (sv_ne hne), rowS_ne (sv_ne hne), rowV_ne (sv_ne (by simp [hne])), rowS_ne (sv_ne (by simp [hne]))] at this
  simpa [sv] using this

theorem rlays_set (x : Rex) (ho : x.op = 1) : RLays x := by
  intro ls A E hE hb
  have e1 : (ls.length + 1 ≤ 2 ^ 32) = True := by
    have : x.size = 1 := by rw [size_eq, ho]; rfl
    simp; omega
  rw [lay_eq, av_eq, ho]
  rcases Classical.em (ls = []) with rfl | hne
  · have := hE rfl; subst this
    rw [sv, List.map_nil, rowV_nil, rowS_nil]
    refine Ans.of_run t25 ?_
    simp -implicitDefEqProofs only [c25, r25, go_sem, List.reduceReplicate, Nat.reduceAdd, Nat.reduceSub, Nat.reduceLT, Nat.reduceLeDiff, Nat.reduceMul, Nat.reduceEqDiff, reduceCtorEq, Int.reduceLE, Int.reduceLT, Int.reduceEq, Int.reduceNe, Int.reduceBEq, Int.reduceBNe, Int.reduceAdd, Int.reduceSub]
    refine Fini.ret2 (n := 0) rfl ?_ ?_
    · simp [rowV, Stp.av]; rfl
    · simp [rowS, Stp.av, ho]
  · rw [rowV_ne (sv_ne hne), rowS_ne (sv_ne hne), rowV_ne (sv_ne (by simp [hne])), rowS_ne (sv_ne (by simp [hne]))]
    refine Ans.of_run t25 ?_
    simp -implicitDefEqProofs only [c25, r25, go_sem, List.reduceReplicate, Nat.reduceAdd, Nat.reduceSub, Nat.reduceLT, Nat.reduceLeDiff, Nat.reduceMul, Nat.reduceEqDiff, reduceCtorEq, Int.reduceLE, Int.reduceLT, Int.reduceEq, Int.reduceNe, Int.reduceBEq, Int.reduceBNe, Int.reduceAdd, Int.reduceSub, List.length_map, get_mid, set_mid, e1]
    refine Fini.ret2 (n := 0) rfl ?_ ?_
    · simp; rfl
    · simp [Stp.av]

theorem rlays_seq (x : Rex) (ho : x.op = 2) (h : x.is = true) (ih : ∀ k ∈ x.ks, RLays k) (hl : x.ks.length ≤ 1000) : RLays x := by
  intro ls A E hE hb
  have hget : ∀ i (hi : i < x.ks.length), (x.ks.map av)[i]? = some (x.ks[i]).av := fun i hi => by simp [hi]
  have hsz : x.size = sizeL x.ks := by rw [size_eq, ho]; rfl
  have hnn : ∀ l : List Rex, (∀ k ∈ l, k.is = true) → 0 ≤ sizeL l := by
    intro l
    induction l with
    | nil => intro _; simp [sizeL]
    | cons k l ih =>
      intro hl
      have h1 := lay_len 0 k (hl k (by simp))
      have h2 := ih fun k hk => hl k (by simp [hk])
      simp only [sizeL]; omega
  have hlen : ∀ l : List Rex, (∀ k ∈ l, k.is = true) → ∀ n, ((layL n l).length : Int) = sizeL l := by
    intro l
    induction l with
    | nil => intro _ n; simp [layL, sizeL]
    | cons k l ih =>
      intro hl n
      have h1 := lay_len n k (hl k (by simp))
      have h2 := ih (fun k hk => hl k (by simp [hk])) (n + (lay n k).length)
      simp only [layL, sizeL, List.length_append]; omega
  have htake : ∀ i (hi : i < x.ks.length), sizeL (x.ks.take i) + (x.ks[i]).size ≤ sizeL x.ks := by
    intro i hi
    have e : x.ks = x.ks.take (i + 1) ++ x.ks.drop (i + 1) := by simp
    have h2 := hnn (x.ks.drop (i + 1)) fun k hk => is_kid h (List.mem_of_mem_drop hk)
    have h3 := sizeL_append (x.ks.take (i + 1)) (x.ks.drop (i + 1))
    rw [← e] at h3
    have h4 := sizeL_take x.ks i hi
    omega
  have hend : ls ++ lay ls.length x = ls ++ layL ls.length (x.ks.take x.ks.length) := by rw [lay_eq, ho, List.take_length]; rfl
  rw [hend, av_eq, ho]
  refine Ans.of_run t25 ?_
  simp -implicitDefEqProofs only [c25, r25, go_sem, List.reduceReplicate, Nat.reduceAdd, Nat.reduceSub, Nat.reduceLT, Nat.reduceLeDiff, Nat.reduceMul, Nat.reduceEqDiff, reduceCtorEq, Int.reduceLE, Int.reduceLT, Int.reduceEq, Int.reduceNe, Int.reduceBEq, Int.reduceBNe, Int.reduceAdd, Int.reduceSub, O_lenv, lenA_row ls hE, lenA_sl, List.length_map]
  refine L.count x.ks.length (fun i => mkE 153 [(0, rowV A.length (sv (ls ++ layL ls.length (x.ks.take i)))), (3, .rp [I 2, U x.a, U x.b, U x.c, U x.d, .sl 6 (x.ks.map av)]), (6, I i)]) (fun i => rowS 7 A (sv (ls ++ layL ls.length (x.ks.take i))) E) ?_ ?_ ?_ ?_
  · intro i hi J hJ
    have e1 : ((i : Int) < (x.ks.length : Nat)) = True := by simp; omega
    have e2 : IntKind.i64.wrap ((i : Int) + 1) = ((i + 1 : Nat) : Int) := by rw [wrapN (by omega) (by omega)]; rfl
    have hi1 := htake i hi
    have hi2 := hlen (x.ks.take i) (fun k hk => is_kid h (List.mem_of_mem_take hk)) ls.length
    simp -implicitDefEqProofs only [mkE, List.foldl_cons, List.foldl_nil, go_sem, List.reduceReplicate, Nat.reduceAdd, Nat.reduceSub, Nat.reduceLT, Nat.reduceLeDiff, Nat.reduceMul, Nat.reduceEqDiff, reduceCtorEq, Int.reduceLE, Int.reduceLT, Int.reduceEq, Int.reduceNe, Int.reduceBEq, Int.reduceBNe, Int.reduceAdd, Int.reduceSub, e1, hget i hi, O_lenv, lenA_sl, List.length_map]
    rw [av_eq]
    simp -implicitDefEqProofs only [go_sem, List.reduceReplicate, Nat.reduceAdd, Nat.reduceSub, Nat.reduceLT, Nat.reduceLeDiff, Nat.reduceMul, Nat.reduceEqDiff, reduceCtorEq, Int.reduceLE, Int.reduceLT, Int.reduceEq, Int.reduceNe, Int.reduceBEq, Int.reduceBNe, Int.reduceAdd, Int.reduceSub]
    rw [← av_eq]
    refine CO.intro (ih x.ks[i] (List.getElem_mem hi) (ls ++ layL ls.length (x.ks.take i)) A E (fun e => hE (by simp at e; exact e.1)) (by rw [List.length_append]; omega)) ?_
    rw [List.append_assoc, List.length_append, ← layL_take]
    simp -implicitDefEqProofs only [go_sem, List.reduceReplicate, Nat.reduceAdd, Nat.reduceSub, Nat.reduceLT, Nat.reduceLeDiff, Nat.reduceMul, Nat.reduceEqDiff, reduceCtorEq, Int.reduceLE, Int.reduceLT, Int.reduceEq, Int.reduceNe, Int.reduceBEq, Int.reduceBNe, Int.reduceAdd, Int.reduceSub, e2]
    exact hJ
  · intro J
    have e1 : (((x.ks.length : Nat) : Int) < (x.ks.length : Nat)) = False := by simp
    simp -implicitDefEqProofs only [mkE, List.foldl_cons, List.foldl_nil, go_sem, List.reduceReplicate, Nat.reduceAdd, Nat.reduceSub, Nat.reduceLT, Nat.reduceLeDiff, Nat.reduceMul, Nat.reduceEqDiff, reduceCtorEq, Int.reduceLE, Int.reduceLT, Int.reduceEq, Int.reduceNe, Int.reduceBEq, Int.reduceBNe, Int.reduceAdd, Int.reduceSub, e1, O_lenv, lenA_sl, List.length_map]
    exact Fini.ret rfl
  · simp [layL, mkE]
  · simp [layL]
theorem rlays_plus (x k : Rex) (ho : x.op = 5) (hk : x.ks = [k]) (h : x.is = true) (ih : RLays k) : RLays x := by
  intro ls A E hE hb
  have hsz : x.size = k.size + 1 := by rw [size_eq, ho, size_kid hk]; rfl
  have hkl := lay_len ls.length k (is_kid h (by rw [hk]; simp))
  have hxl : lay ls.length x = lay ls.length k ++ [⟨2, 0, 0, 0, 0, ls.length, ((ls.length + (lay ls.length k).length : Nat) : Int) + 1⟩] := by rw [lay_eq, ho, hk]; rfl
  rw [hxl, av_eq, ho, hk, map_kid]
  have e3 : IntKind.i64.wrap (((ls.length + (lay ls.length k).length : Nat) : Int) + 1) = ((ls.length + (lay ls.length k).length : Nat) : Int) + 1 := wrapN (by omega) (by omega)
  have e4 : (ls.length + (lay ls.length k).length + 1 ≤ 2 ^ 32) = True := by simp; omega
  have e5 : (ls ++ lay ls.length k).length = ls.length + (lay ls.length k).length := List.length_append
  refine Ans.of_run t25 ?_
  simp -implicitDefEqProofs only [c25, r25, go_sem, List.reduceReplicate, Nat.reduceAdd, Nat.reduceSub, Nat.reduceLT, Nat.reduceLeDiff, Nat.reduceMul, Nat.reduceEqDiff, reduceCtorEq, Int.reduceLE, Int.reduceLT, Int.reduceEq, Int.reduceNe, Int.reduceBEq, Int.reduceBNe, Int.reduceAdd, Int.reduceSub, O_lenv, lenA_row ls hE, lenA_sl, List.length_map]
  refine CO.intro' (ih ls A E hE (by omega)) (by rw [av_eq]; rfl) rfl ?_
  rcases Classical.em (ls ++ lay ls.length k = []) with hne | hne
  · have hls : ls = [] := (List.append_eq_nil_iff.1 hne).1
    have hE' := hE hls
    subst hls; subst hE'
    have hk0 : lay 0 k = [] := by simpa using hne
    have hk1 : lay ([] : List Stp).length k = [] := hk0
    have e6 : IntKind.i64.wrap (0 + 1) = 1 := by decide
    have e6' : IntKind.i64.wrap 1 = 1 := by decide
    rw [hne, hk1]
    rw [sv, List.map_nil, rowV_nil, rowS_nil]
    simp -implicitDefEqProofs only [go_sem, List.reduceReplicate, Nat.reduceAdd, Nat.reduceSub, Nat.reduceLT, Nat.reduceLeDiff, Nat.reduceMul, Nat.reduceEqDiff, reduceCtorEq, Int.reduceLE, Int.reduceLT, Int.reduceEq, Int.reduceNe, Int.reduceBEq, Int.reduceBNe, Int.reduceAdd, Int.reduceSub, e6]
    refine Fini.ret2 (n := 0) rfl ?_ ?_
    · simp [rowV]; rfl
    · simp [rowS, Stp.av, e6']
  · have hne2 : ls ++ (lay ls.length k ++ [⟨2, 0, 0, 0, 0, ls.length, ((ls.length + (lay ls.length k).length : Nat) : Int) + 1⟩]) ≠ [] := by simp
    rw [rowV_ne (sv_ne hne), rowS_ne (sv_ne hne), rowV_ne (sv_ne hne2), rowS_ne (sv_ne hne2)]
    simp -implicitDefEqProofs only [go_sem, List.reduceReplicate, Nat.reduceAdd, Nat.reduceSub, Nat.reduceLT, Nat.reduceLeDiff, Nat.reduceMul, Nat.reduceEqDiff, reduceCtorEq, Int.reduceLE, Int.reduceLT, Int.reduceEq, Int.reduceNe, Int.reduceBEq, Int.reduceBNe, Int.reduceAdd, Int.reduceSub, List.length_map, get_mid, set_mid, e5, e3, e4]
    refine Fini.ret2 (n := 0) rfl ?_ ?_
    · simp; rfl
    · simp [Stp.av]

end Go.Proofs.Ytoiageeecdgleaa
