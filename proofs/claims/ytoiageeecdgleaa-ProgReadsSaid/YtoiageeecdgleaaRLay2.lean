/- How the document lays the steps of a tree behind others. No condition. -/
import Derived.Test.YtoiageeecdgleaaRTree
set_option linter.unusedSimpArgs false
set_option linter.unusedVariables false
namespace Go.Proofs.Ytoiageeecdgleaa
open Go Go.Ab
set_option maxRecDepth 100000
open Rex

def RLays (x : Rex) : Prop := ∀ (ls : List Stp) (A E : St), (ls = [] → E = []) → (ls.length : Int) + x.size ≤ 1000 →
  Ans Try.prog 25 [rowV A.length (sv ls), x.av] (rowS 7 A (sv ls) E) (rowV A.length (sv (ls ++ lay ls.length x))) (rowS 7 A (sv (ls ++ lay ls.length x)) E)

theorem RLays.own {x : Rex} (h : RLays x) (ls : List Stp) (A E : St) (hne : ls ≠ []) (hb : (ls.length : Int) + x.size ≤ 1000) :
    Ans Try.prog 25 [.osl A.length ls.length, x.av] (A ++ .row 7 (sv ls) :: E) (.osl A.length (ls.length + (lay ls.length x).length)) (A ++ .row 7 (sv (ls ++ lay ls.length x)) :: E) := by
  have := h ls A E (fun e => absurd e hne) hb
  rw [rowV_ne (sv_ne hne), rowS_ne (sv_ne hne), rowV_ne (sv_ne (by simp [hne])), rowS_ne (sv_ne (by simp [hne]))] at this
  simpa [sv] using this

theorem rlays_set (x : Rex) (ho : x.op = 1) : RLays x := by
  intro ls A E hE hb
  have e1 : (ls.length + 1 ≤ 2 ^ 32) = True := by
    have : x.size = 1 := by rw [size_eq, ho]; rfl
    simp; omega
  rw [lay_eq, av_eq, ho]
  rcases Classical.em (ls = []) with rfl | hne
  · have := hE rfl; subst this
    rw [sv, List.map_nil, rowV_nil, rowS_nil]
    refine Ans.of_run t25 ?_
    simp -implicitDefEqProofs only [c25, r25, go_sem, List.reduceReplicate, Nat.reduceAdd, Nat.reduceSub, Nat.reduceLT, Nat.reduceLeDiff, Nat.reduceMul, Nat.reduceEqDiff, reduceCtorEq, Int.reduceLE, Int.reduceLT, Int.reduceEq, Int.reduceNe, Int.reduceBEq, Int.reduceBNe, Int.reduceAdd, Int.reduceSub]
    refine Fini.ret2 (n := 0) rfl ?_ ?_
    · simp [rowV, Stp.av]; rfl
    · simp [rowS, Stp.av, ho]
  · rw [rowV_ne (sv_ne hne), rowS_ne (sv_ne hne), rowV_ne (sv_ne (by simp [hne])), rowS_ne (sv_ne (by simp [hne]))]
    refine Ans.of_run t25 ?_
    simp -implicitDefEqProofs only [c25, r25, go_sem, List.reduceReplicate, Nat.reduceAdd, Nat.reduceSub, Nat.reduceLT, Nat.reduceLeDiff, Nat.reduceMul, Nat.reduceEqDiff, reduceCtorEq, Int.reduceLE, Int.reduceLT, Int.reduceEq, Int.reduceNe, Int.reduceBEq, Int.reduceBNe, Int.reduceAdd, Int.reduceSub, List.length_map, get_mid, set_mid, e1]
    refine Fini.ret2 (n := 0) rfl ?_ ?_
    · simp; rfl
    · simp [Stp.av]

theorem rlays_seq (x : Rex) (ho : x.op = 2) (h : x.is = true) (ih : ∀ k ∈ x.ks, RLays k) (hl : x.ks.length ≤ 1000) : RLays x := by
  intro ls A E hE hb
  have hget : ∀ i (hi : i < x.ks.length), (x.ks.map av)[i]? = some (x.ks[i]).av := fun i hi => by simp [hi]
  have hsz : x.size = sizeL x.ks := by rw [size_eq, ho]; rfl
  have hnn : ∀ l : List Rex, (∀ k ∈ l, k.is = true) → 0 ≤ sizeL l := by
    intro l
    induction l with
    | nil => intro _; simp [sizeL]
    | cons k l ih =>
      intro hl
      have h1 := lay_len 0 k (hl k (by simp))
      have h2 := ih fun k hk => hl k (by simp [hk])
      simp only [sizeL]; omega
  have hlen : ∀ l : List Rex, (∀ k ∈ l, k.is = true) → ∀ n, ((layL n l).length : Int) = sizeL l := by
    intro l
    induction l with
    | nil => intro _ n; simp [layL, sizeL]
    | cons k l ih =>
      intro hl n
      have h1 := lay_len n k (hl k (by simp))
      have h2 := ih (fun k hk => hl k (by simp [hk])) (n + (lay n k).length)
      simp only [layL, sizeL, List.length_append]; omega
  have htake : ∀ i (hi : i < x.ks.length), sizeL (x.ks.take i) + (x.ks[i]).size ≤ sizeL x.ks := by
    intro i hi
    have e : x.ks = x.ks.take (i + 1) ++ x.ks.drop (i + 1) := by simp
    have h2 := hnn (x.ks.drop (i + 1)) fun k hk => is_kid h (List.mem_of_mem_drop hk)
    have h3 := sizeL_append (x.ks.take (i + 1)) (x.ks.drop (i + 1))
    rw [← e] at h3
    have h4 := sizeL_take x.ks i hi
    omega
  have hend : ls ++ lay ls.length x = ls ++ layL ls.length (x.ks.take x.ks.length) := by rw [lay_eq, ho, List.take_length]; rfl
  rw [hend, av_eq, ho]
  refine Ans.of_run t25 ?_
  simp -implicitDefEqProofs only [c25, r25, go_sem, List.reduceReplicate, Nat.reduceAdd, Nat.reduceSub, Nat.reduceLT, Nat.reduceLeDiff, Nat.reduceMul, Nat.reduceEqDiff, reduceCtorEq, Int.reduceLE, Int.reduceLT, Int.reduceEq, Int.reduceNe, Int.reduceBEq, Int.reduceBNe, Int.reduceAdd, Int.reduceSub, O_lenv, lenA_row ls hE, lenA_sl, List.length_map]
  refine L.count x.ks.length (fun i => mkE 153 [(0, rowV A.length (sv (ls ++ layL ls.length (x.ks.take i)))), (3, .rp [I 2, U x.a, U x.b, U x.c, U x.d, .sl 6 (x.ks.map av)]), (6, I i)]) (fun i => rowS 7 A (sv (ls ++ layL ls.length (x.ks.take i))) E) ?_ ?_ ?_ ?_
  · intro i hi J hJ
    have e1 : ((i : Int) < (x.ks.length : Nat)) = True := by simp; omega
    have e2 : IntKind.i64.wrap ((i : Int) + 1) = ((i + 1 : Nat) : Int) := by rw [wrapN (by omega) (by omega)]; rfl
    have hi1 := htake i hi
    have hi2 := hlen (x.ks.take i) (fun k hk => is_kid h (List.mem_of_mem_take hk)) ls.length
    simp -implicitDefEqProofs only [mkE, List.foldl_cons, List.foldl_nil, go_sem, List.reduceReplicate, Nat.reduceAdd, Nat.reduceSub, Nat.reduceLT, Nat.reduceLeDiff, Nat.reduceMul, Nat.reduceEqDiff, reduceCtorEq, Int.reduceLE, Int.reduceLT, Int.reduceEq, Int.reduceNe, Int.reduceBEq, Int.reduceBNe, Int.reduceAdd, Int.reduceSub, e1, hget i hi, O_lenv, lenA_sl, List.length_map]
    rw [av_eq]
    simp -implicitDefEqProofs only [go_sem, List.reduceReplicate, Nat.reduceAdd, Nat.reduceSub, Nat.reduceLT, Nat.reduceLeDiff, Nat.reduceMul, Nat.reduceEqDiff, reduceCtorEq, Int.reduceLE, Int.reduceLT, Int.reduceEq, Int.reduceNe, Int.reduceBEq, Int.reduceBNe, Int.reduceAdd, Int.reduceSub]
    rw [← av_eq]
    refine CO.intro (ih x.ks[i] (List.getElem_mem hi) (ls ++ layL ls.length (x.ks.take i)) A E (fun e => hE (by simp at e; exact e.1)) (by rw [List.length_append]; omega)) ?_
    rw [List.append_assoc, List.length_append, ← layL_take]
    simp -implicitDefEqProofs only [go_sem, List.reduceReplicate, Nat.reduceAdd, Nat.reduceSub, Nat.reduceLT, Nat.reduceLeDiff, Nat.reduceMul, Nat.reduceEqDiff, reduceCtorEq, Int.reduceLE, Int.reduceLT, Int.reduceEq, Int.reduceNe, Int.reduceBEq, Int.reduceBNe, Int.reduceAdd, Int.reduceSub, e2]
    exact hJ
  · intro J
    have e1 : (((x.ks.length : Nat) : Int) < (x.ks.length : Nat)) = False := by simp
    simp -implicitDefEqProofs only [mkE, List.foldl_cons, List.foldl_nil, go_sem, List.reduceReplicate, Nat.reduceAdd, Nat.reduceSub, Nat.reduceLT, Nat.reduceLeDiff, Nat.reduceMul, Nat.reduceEqDiff, reduceCtorEq, Int.reduceLE, Int.reduceLT, Int.reduceEq, Int.reduceNe, Int.reduceBEq, Int.reduceBNe, Int.reduceAdd, Int.reduceSub, e1, O_lenv, lenA_sl, List.length_map]
    exact Fini.ret rfl
  · simp [layL, mkE]
  · simp [layL]
theorem rlays_plus (x k : Rex) (ho : x.op = 5) (hk : x.ks = [k]) (h : x.is = true) (ih : RLays k) : RLays x := by
  intro ls A E hE hb
  have hsz : x.size = k.size + 1 := by rw [size_eq, ho, size_kid hk]; rfl
  have hkl := lay_len ls.length k (is_kid h (by rw [hk]; simp))
  have hxl : lay ls.length x = lay ls.length k ++ [⟨2, 0, 0, 0, 0, ls.length, ((ls.length + (lay ls.length k).length : Nat) : Int) + 1⟩] := by rw [lay_eq, ho, hk]; rfl
  rw [hxl, av_eq, ho, hk, map_kid]
  have e3 : IntKind.i64.wrap (((ls.length + (lay ls.length k).length : Nat) : Int) + 1) = ((ls.length + (lay ls.length k).length : Nat) : Int) + 1 := wrapN (by omega) (by omega)
  have e4 : (ls.length + (lay ls.length k).length + 1 ≤ 2 ^ 32) = True := by simp; omega
  have e5 : (ls ++ lay ls.length k).length = ls.length + (lay ls.length k).length := List.length_append
  refine Ans.of_run t25 ?_
  simp -implicitDefEqProofs only [c25, r25, go_sem, List.reduceReplicate, Nat.reduceAdd, Nat.reduceSub, Nat.reduceLT, Nat.reduceLeDiff, Nat.reduceMul, Nat.reduceEqDiff, reduceCtorEq, Int.reduceLE, Int.reduceLT, Int.reduceEq, Int.reduceNe, Int.reduceBEq, Int.reduceBNe, Int.reduceAdd, Int.reduceSub, O_lenv, lenA_row ls hE, lenA_sl, List.length_map]
  refine CO.intro' (ih ls A E hE (by omega)) (by rw [av_eq]; rfl) rfl ?_
  rcases Classical.em (ls ++ lay ls.length k = []) with hne | hne
  · have hls : ls = [] := (List.append_eq_nil_iff.1 hne).1
    have hE' := hE hls
    subst hls; subst hE'
    have hk0 : lay 0 k = [] := by simpa using hne
    have hk1 : lay ([] : List Stp).length k = [] := hk0
    have e6 : IntKind.i64.wrap (0 + 1) = 1 := by decide
    have e6' : IntKind.i64.wrap 1 = 1 := by decide
    rw [hne, hk1]
    rw [sv, List.map_nil, rowV_nil, rowS_nil]
    simp -implicitDefEqProofs only [go_sem, List.reduceReplicate, Nat.reduceAdd, Nat.reduceSub, Nat.reduceLT, Nat.reduceLeDiff, Nat.reduceMul, Nat.reduceEqDiff, reduceCtorEq, Int.reduceLE, Int.reduceLT, Int.reduceEq, Int.reduceNe, Int.reduceBEq, Int.reduceBNe, Int.reduceAdd, Int.reduceSub, e6]
    refine Fini.ret2 (n := 0) rfl ?_ ?_
    · simp [rowV]; rfl
    · simp [rowS, Stp.av, e6']
  · have hne2 : ls ++ (lay ls.length k ++ [⟨2, 0, 0, 0, 0, ls.length, ((ls.length + (lay ls.length k).length : Nat) : Int) + 1⟩]) ≠ [] := by simp
    rw [rowV_ne (sv_ne hne), rowS_ne (sv_ne hne), rowV_ne (sv_ne hne2), rowS_ne (sv_ne hne2)]
    simp -implicitDefEqProofs only [go_sem, List.reduceReplicate, Nat.reduceAdd, Nat.reduceSub, Nat.reduceLT, Nat.reduceLeDiff, Nat.reduceMul, Nat.reduceEqDiff, reduceCtorEq, Int.reduceLE, Int.reduceLT, Int.reduceEq, Int.reduceNe, Int.reduceBEq, Int.reduceBNe, Int.reduceAdd, Int.reduceSub, List.length_map, get_mid, set_mid, e5, e3, e4]
    refine Fini.ret2 (n := 0) rfl ?_ ?_
    · simp; rfl
    · simp [Stp.av]

end Go.Proofs.Ytoiageeecdgleaa

set_option linter.unusedSimpArgs false
set_option linter.unusedVariables false
namespace Go.Proofs.Ytoiageeecdgleaa
open Go Go.Ab
set_option maxRecDepth 100000
open Rex

theorem rlays_star (x k : Rex) (ho : x.op = 4) (hk : x.ks = [k]) (h : x.is = true) (ih : RLays k) (hn : k.nodes ≤ 1000) : RLays x := by
  intro ls A E hE hb
  have hsz : x.size = k.size + 2 := by rw [size_eq, ho, size_kid hk]; rfl
  have hkl := lay_len (ls.length + 1) k (is_kid h (by rw [hk]; simp))
  have hxl : lay ls.length x = ⟨2, 0, 0, 0, 0, (ls.length : Int) + 1, ((ls.length + 2 + (lay (ls.length + 1) k).length : Nat) : Int)⟩ :: (lay (ls.length + 1) k ++ [⟨3, 0, 0, 0, 0, ls.length, 0⟩]) := by rw [lay_eq, ho, hk]; rfl
  have hrs := fun σ => rsize_ans σ k hn
  rw [hxl, av_eq, ho, hk, map_kid]
  have e2 : IntKind.i64.wrap ((ls.length : Int) + 2) = (ls.length : Int) + 2 := wrapN (by omega) (by omega)
  have e3 : IntKind.i64.wrap ((ls.length : Int) + 1) = (ls.length : Int) + 1 := wrapN (by omega) (by omega)
  have e4 : (ls.length + 1 ≤ 2 ^ 32) = True := by simp; omega
  have hkid := (ih.own (ls ++ [⟨2, 0, 0, 0, 0, (ls.length : Int) + 1, ((ls.length + 2 + (lay (ls.length + 1) k).length : Nat) : Int)⟩]) A E (by simp) (by simp; omega))
  have e5 : (ls ++ [(⟨2, 0, 0, 0, 0, (ls.length : Int) + 1, ((ls.length + 2 + (lay (ls.length + 1) k).length : Nat) : Int)⟩ : Stp)]).length = ls.length + 1 := by simp
  rw [e5] at hkid
  generalize lay (ls.length + 1) k = K at hkid hkl ⊢
  have e1 : IntKind.i64.wrap ((ls.length : Int) + 2 + k.size) = ((ls.length + 2 + K.length : Nat) : Int) := by rw [wrapN (by omega) (by omega)]; omega
  refine row_intro hE (by simp) (fun hls => ?_) (fun hne => ?_)
  · have hE' := hE hls
    subst hls; subst hE'
    have e6 : (K.length + 2 ≤ 2 ^ 32) = True := by simp; omega
    have e8 : ([] : List Stp).length + 1 + K.length = K.length + 1 := by simp; omega
    have e9 : IntKind.i64.wrap 2 = 2 := by decide
    have e10 : IntKind.i64.wrap (2 + k.size) = ((([] : List Stp).length + 2 + K.length : Nat) : Int) := by simpa using e1
    rw [e8] at hkid
    refine Ans.of_run t25 ?_
    simp -implicitDefEqProofs only [c25, r25, go_sem, List.reduceReplicate, Nat.reduceAdd, Nat.reduceSub, Nat.reduceLT, Nat.reduceLeDiff, Nat.reduceMul, Nat.reduceEqDiff, reduceCtorEq, Int.reduceLE, Int.reduceLT, Int.reduceEq, Int.reduceNe, Int.reduceBEq, Int.reduceBNe, Int.reduceAdd, Int.reduceSub, O_lenv, lenA, p32, w1, Int.toNat_zero, e9]
    refine CO.intro' (hrs _) (by rw [av_eq] <;> rfl) rfl ?_
    simp -implicitDefEqProofs only [go_sem, List.reduceReplicate, Nat.reduceAdd, Nat.reduceSub, Nat.reduceLT, Nat.reduceLeDiff, Nat.reduceMul, Nat.reduceEqDiff, reduceCtorEq, Int.reduceLE, Int.reduceLT, Int.reduceEq, Int.reduceNe, Int.reduceBEq, Int.reduceBNe, Int.reduceAdd, Int.reduceSub, p32, w1, Int.toNat_zero, e9, e10]
    refine CO.intro' hkid ?_ ?_ ?_
    · rw [av_eq] <;> rfl
    · simp [Stp.av, sv]
      try omega
    simp -implicitDefEqProofs only [go_sem, List.reduceReplicate, Nat.reduceAdd, Nat.reduceSub, Nat.reduceLT, Nat.reduceLeDiff, Nat.reduceMul, Nat.reduceEqDiff, reduceCtorEq, Int.reduceLE, Int.reduceLT, Int.reduceEq, Int.reduceNe, Int.reduceBEq, Int.reduceBNe, Int.reduceAdd, Int.reduceSub, get_mid, set_mid, List.length_map, List.length_append, e6, sv, Stp.av, Int.toNat_zero, Nat.add_assoc]
    refine Fini.ret2 (n := 0) rfl ?_ ?_
    · rfl
    · simp [Stp.av]
      try omega
  · have e6 : (ls.length + (K.length + 2) ≤ 2 ^ 32) = True := by simp; omega
    have e8 : ls.length + 1 + K.length = ls.length + (K.length + 1) := by omega
    rw [e8] at hkid
    refine Ans.of_run t25 ?_
    simp -implicitDefEqProofs only [c25, r25, go_sem, List.reduceReplicate, Nat.reduceAdd, Nat.reduceSub, Nat.reduceLT, Nat.reduceLeDiff, Nat.reduceMul, Nat.reduceEqDiff, reduceCtorEq, Int.reduceLE, Int.reduceLT, Int.reduceEq, Int.reduceNe, Int.reduceBEq, Int.reduceBNe, Int.reduceAdd, Int.reduceSub, O_lenv, lenA, get_mid, set_mid, List.length_map, List.length_append, e4, e3, e2, Int.toNat_zero]
    refine CO.intro' (hrs _) (by rw [av_eq] <;> rfl) rfl ?_
    simp -implicitDefEqProofs only [go_sem, List.reduceReplicate, Nat.reduceAdd, Nat.reduceSub, Nat.reduceLT, Nat.reduceLeDiff, Nat.reduceMul, Nat.reduceEqDiff, reduceCtorEq, Int.reduceLE, Int.reduceLT, Int.reduceEq, Int.reduceNe, Int.reduceBEq, Int.reduceBNe, Int.reduceAdd, Int.reduceSub, get_mid, set_mid, List.length_map, List.length_append, e4, e3, e2, e1, Int.toNat_zero]
    refine CO.intro' hkid ?_ ?_ ?_
    · rw [av_eq] <;> rfl
    · simp [Stp.av, sv]
      try omega
    simp -implicitDefEqProofs only [go_sem, List.reduceReplicate, Nat.reduceAdd, Nat.reduceSub, Nat.reduceLT, Nat.reduceLeDiff, Nat.reduceMul, Nat.reduceEqDiff, reduceCtorEq, Int.reduceLE, Int.reduceLT, Int.reduceEq, Int.reduceNe, Int.reduceBEq, Int.reduceBNe, Int.reduceAdd, Int.reduceSub, get_mid, set_mid, List.length_map, List.length_append, List.map_append, List.append_assoc, e6, sv, Stp.av, Nat.add_assoc, getm, setm]
    refine Fini.ret2 (n := 0) rfl ?_ ?_
    · rfl
    · simp [Stp.av]
      try omega

theorem rlays_maybe (x k : Rex) (ho : x.op = 6) (hk : x.ks = [k]) (h : x.is = true) (ih : RLays k) (hn : k.nodes ≤ 1000) : RLays x := by
  intro ls A E hE hb
  have hsz : x.size = k.size + 1 := by rw [size_eq, ho, size_kid hk]; rfl
  have hkl := lay_len (ls.length + 1) k (is_kid h (by rw [hk]; simp))
  have hxl : lay ls.length x = ⟨2, 0, 0, 0, 0, (ls.length : Int) + 1, ((ls.length + 1 + (lay (ls.length + 1) k).length : Nat) : Int)⟩ :: lay (ls.length + 1) k := by rw [lay_eq, ho, hk]; rfl
  have hrs := fun σ => rsize_ans σ k hn
  rw [hxl, av_eq, ho, hk, map_kid]
  have e3 : IntKind.i64.wrap ((ls.length : Int) + 1) = (ls.length : Int) + 1 := wrapN (by omega) (by omega)
  have e4 : (ls.length + 1 ≤ 2 ^ 32) = True := by simp; omega
  have hkid := (ih.own (ls ++ [⟨2, 0, 0, 0, 0, (ls.length : Int) + 1, ((ls.length + 1 + (lay (ls.length + 1) k).length : Nat) : Int)⟩]) A E (by simp) (by simp; omega))
  have e5 : (ls ++ [(⟨2, 0, 0, 0, 0, (ls.length : Int) + 1, ((ls.length + 1 + (lay (ls.length + 1) k).length : Nat) : Int)⟩ : Stp)]).length = ls.length + 1 := by simp
  rw [e5] at hkid
  generalize lay (ls.length + 1) k = K at hkid hkl ⊢
  have e1 : IntKind.i64.wrap ((ls.length : Int) + 1 + k.size) = ((ls.length + 1 + K.length : Nat) : Int) := by rw [wrapN (by omega) (by omega)]; omega
  refine row_intro hE (by simp) (fun hls => ?_) (fun hne => ?_)
  · have hE' := hE hls
    subst hls; subst hE'
    have e6 : (K.length + 1 ≤ 2 ^ 32) = True := by simp; omega
    have e8 : ([] : List Stp).length + 1 + K.length = K.length + 1 := by simp; omega
    have e10 : IntKind.i64.wrap (1 + k.size) = ((([] : List Stp).length + 1 + K.length : Nat) : Int) := by simpa using e1
    rw [e8] at hkid
    refine Ans.of_run t25 ?_
    simp -implicitDefEqProofs only [c25, r25, go_sem, List.reduceReplicate, Nat.reduceAdd, Nat.reduceSub, Nat.reduceLT, Nat.reduceLeDiff, Nat.reduceMul, Nat.reduceEqDiff, reduceCtorEq, Int.reduceLE, Int.reduceLT, Int.reduceEq, Int.reduceNe, Int.reduceBEq, Int.reduceBNe, Int.reduceAdd, Int.reduceSub, O_lenv, lenA, p32, w1, Int.toNat_zero]
    refine CO.intro' (hrs _) (by rw [av_eq] <;> rfl) rfl ?_
    simp -implicitDefEqProofs only [go_sem, List.reduceReplicate, Nat.reduceAdd, Nat.reduceSub, Nat.reduceLT, Nat.reduceLeDiff, Nat.reduceMul, Nat.reduceEqDiff, reduceCtorEq, Int.reduceLE, Int.reduceLT, Int.reduceEq, Int.reduceNe, Int.reduceBEq, Int.reduceBNe, Int.reduceAdd, Int.reduceSub, p32, w1, Int.toNat_zero, e10]
    refine CO.intro' hkid ?_ ?_ ?_
    · rw [av_eq] <;> rfl
    · simp [Stp.av, sv]
      try omega
    simp -implicitDefEqProofs only [go_sem, List.reduceReplicate, Nat.reduceAdd, Nat.reduceSub, Nat.reduceLT, Nat.reduceLeDiff, Nat.reduceMul, Nat.reduceEqDiff, reduceCtorEq, Int.reduceLE, Int.reduceLT, Int.reduceEq, Int.reduceNe, Int.reduceBEq, Int.reduceBNe, Int.reduceAdd, Int.reduceSub, get_mid, set_mid, List.length_map, List.length_append, e6, sv, Stp.av, Int.toNat_zero, Nat.add_assoc]
    refine Fini.ret2 (n := 0) rfl ?_ ?_
    · rfl
    · simp [Stp.av]
      try omega
  · have e6 : (ls.length + (K.length + 1) ≤ 2 ^ 32) = True := by simp; omega
    have e8 : ls.length + 1 + K.length = ls.length + (K.length + 1) := by omega
    rw [e8] at hkid
    refine Ans.of_run t25 ?_
    simp -implicitDefEqProofs only [c25, r25, go_sem, List.reduceReplicate, Nat.reduceAdd, Nat.reduceSub, Nat.reduceLT, Nat.reduceLeDiff, Nat.reduceMul, Nat.reduceEqDiff, reduceCtorEq, Int.reduceLE, Int.reduceLT, Int.reduceEq, Int.reduceNe, Int.reduceBEq, Int.reduceBNe, Int.reduceAdd, Int.reduceSub, O_lenv, lenA, get_mid, set_mid, List.length_map, List.length_append, e4, e3, Int.toNat_zero]
    refine CO.intro' (hrs _) (by rw [av_eq] <;> rfl) rfl ?_
    simp -implicitDefEqProofs only [go_sem, List.reduceReplicate, Nat.reduceAdd, Nat.reduceSub, Nat.reduceLT, Nat.reduceLeDiff, Nat.reduceMul, Nat.reduceEqDiff, reduceCtorEq, Int.reduceLE, Int.reduceLT, Int.reduceEq, Int.reduceNe, Int.reduceBEq, Int.reduceBNe, Int.reduceAdd, Int.reduceSub, get_mid, set_mid, List.length_map, List.length_append, e4, e3, e1, Int.toNat_zero]
    refine CO.intro' hkid ?_ ?_ ?_
    · rw [av_eq] <;> rfl
    · simp [Stp.av, sv]
      try omega
    simp -implicitDefEqProofs only [go_sem, List.reduceReplicate, Nat.reduceAdd, Nat.reduceSub, Nat.reduceLT, Nat.reduceLeDiff, Nat.reduceMul, Nat.reduceEqDiff, reduceCtorEq, Int.reduceLE, Int.reduceLT, Int.reduceEq, Int.reduceNe, Int.reduceBEq, Int.reduceBNe, Int.reduceAdd, Int.reduceSub, get_mid, set_mid, List.length_map, List.length_append, List.map_append, List.append_assoc, e6, sv, Stp.av, Nat.add_assoc, getm, setm]
    refine Fini.ret2 (n := 0) rfl ?_ ?_
    · rfl
    · simp [Stp.av]
      try omega

theorem rlays_alt (x : Rex) (ho : x.op = 3) (h : x.is = true) (ih : ∀ k ∈ x.ks, RLays k) (hn : x.nodes ≤ 1000) : RLays x := by
  intro ls A E hE hb
  obtain ⟨xs, z, hk⟩ : ∃ xs z, x.ks = xs ++ [z] := ⟨x.ks.dropLast, x.ks.getLast (is_some_kid h ho), (List.dropLast_concat_getLast _).symm⟩
  have hsz : x.size = sizeL x.ks + 2 * ((x.ks.length : Int) - 1) := by rw [size_eq, ho]; rfl
  have hnk := nodes_eq x
  have hrx := fun σ => rsize_ans σ x hn
  have hlx := len_nodes x.ks
  have hxlen := lay_len ls.length x h
  have hxl : lay ls.length x = layW ls.length ((ls.length + (layW ls.length 0 (xs ++ [z])).length : Nat) : Int) (xs ++ [z]) := by rw [lay_eq, ho, hk]; rfl
  have hwl : (layW ls.length 0 (xs ++ [z])).length = (lay ls.length x).length := by
    rw [hxl]
    generalize ((ls.length + (layW ls.length 0 (xs ++ [z])).length : Nat) : Int) = fin
    rw [layW_pre, layW_pre, List.length_append, List.length_append, preW_len _ (fun _ => 0) (fun _ => fin)]
  rw [hwl] at hxl
  have hkn : ∀ k ∈ xs ++ [z], k.nodes ≤ 1000 := by
    intro k hk'
    rw [← hk] at hk'
    obtain ⟨i, hi, rfl⟩ := List.getElem_of_mem hk'
    have := nodes_get x.ks i hi
    omega
  have hK : ∀ k ∈ xs ++ [z], k.is = true ∧ RLays k := fun k hk' => ⟨is_kid h (by rw [hk]; exact hk'), ih k (by rw [hk]; exact hk')⟩
  have hxx : xs.length + 1 ≤ 1000 := by rw [hk] at hlx; simp at hlx; rw [hk] at hnk; omega
  have hN : ∃ N : Nat, ls.length + (lay ls.length x).length = N := ⟨_, rfl⟩
  obtain ⟨N, hN⟩ := hN
  rw [hN] at hxl
  have hNx : (N : Int) = ls.length + x.size := by omega
  have hNb : N ≤ 1000 := by omega
  have hpre : lay ls.length x = preW ls.length (fun _ => (N : Int)) xs ++ lay (ls.length + (preW ls.length (fun _ => (N : Int)) xs).length) z := by
    rw [hxl, layW_pre, preW_len _ (fun _ => 0) (fun _ => (N : Int))]
  rw [hpre]
  rw [hk] at hsz
  rw [av_eq] at hrx
  rw [av_eq]
  rw [ho, hk] at hrx ⊢
  clear hpre hxl hwl hxlen ih
  have hget : ∀ i (hi : i < xs.length), ((xs ++ [z]).map av)[i]? = some (.agg [I (xs[i]).op, U (xs[i]).a, U (xs[i]).b, U (xs[i]).c, U (xs[i]).d, .sl 6 ((xs[i]).ks.map av)]) := fun i hi => by
    rw [List.map_append, List.getElem?_append_left (by simpa using hi)]; simp [hi, ← av_eq]
  have hlenp : ∀ l : List Rex, (∀ k ∈ l, k.is = true) → ∀ n f, ((preW n f l).length : Int) = sizeL l + 2 * (l.length : Int) := by
    intro l
    induction l with
    | nil => intro _ n f; simp [preW, sizeL]
    | cons k l ih =>
      intro hl n f
      have h1 := lay_len (n + 1) k (hl k (by simp))
      have h2 := ih (fun k hk => hl k (by simp [hk])) (n + 2 + (lay (n + 1) k).length) (fun t => f (t + 1))
      simp only [preW, sizeL, List.length_cons, List.length_append]; omega
  have hnn : ∀ l : List Rex, (∀ k ∈ l, k.is = true) → 0 ≤ sizeL l := by
    intro l
    induction l with
    | nil => intro _; simp [sizeL]
    | cons k l ih =>
      intro hl
      have h1 := lay_len 0 k (hl k (by simp))
      have h2 := ih fun k hk => hl k (by simp [hk])
      simp only [sizeL]; omega
  have hxs : ∀ k ∈ xs, k.is = true := fun k hk => (hK k (by simp [hk])).1
  have hz := (hK z (by simp)).1
  have hzn := lay_len 0 z hz
  have hsum : sizeL (xs ++ [z]) = sizeL xs + z.size := by rw [sizeL_append]; simp [sizeL]
  have hlx2 : ((xs ++ [z]).length : Int) = xs.length + 1 := by simp
  have htake : ∀ i (hi : i < xs.length), sizeL (xs.take i) + (xs[i]).size ≤ sizeL xs := by
    intro i hi
    have e : xs = xs.take (i + 1) ++ xs.drop (i + 1) := by simp
    have h2 := hnn (xs.drop (i + 1)) fun k hk => hxs k (List.mem_of_mem_drop hk)
    have h3 := sizeL_append (xs.take (i + 1)) (xs.drop (i + 1))
    rw [← e] at h3
    have h4 := sizeL_take xs i hi
    omega
  have e1 : IntKind.i64.wrap (((xs ++ [z]).length : Int) - 1) = (xs.length : Int) := by rw [hlx2, show (xs.length : Int) + 1 - 1 = xs.length by omega]; exact wrapN (by omega) (by omega)
  have e2 : IntKind.i64.wrap ((ls.length : Int) + x.size) = (N : Int) := by rw [wrapN (by omega) (by omega)]; omega
  refine Ans.of_run t25 ?_
  simp -implicitDefEqProofs only [c25, r25, go_sem, List.reduceReplicate, Nat.reduceAdd, Nat.reduceSub, Nat.reduceLT, Nat.reduceLeDiff, Nat.reduceMul, Nat.reduceEqDiff, reduceCtorEq, Int.reduceLE, Int.reduceLT, Int.reduceEq, Int.reduceNe, Int.reduceBEq, Int.reduceBNe, Int.reduceAdd, Int.reduceSub, O_lenv, lenA_row ls hE, lenA_sl, List.length_map, e1, e2]
  refine CO.intro (hrx _) ?_
  simp -implicitDefEqProofs only [go_sem, List.reduceReplicate, Nat.reduceAdd, Nat.reduceSub, Nat.reduceLT, Nat.reduceLeDiff, Nat.reduceMul, Nat.reduceEqDiff, reduceCtorEq, Int.reduceLE, Int.reduceLT, Int.reduceEq, Int.reduceNe, Int.reduceBEq, Int.reduceBNe, Int.reduceAdd, Int.reduceSub, e2]
  refine L.count xs.length (fun i => mkE 153 [(0, rowV A.length (sv (ls ++ preW ls.length (fun _ => (N : Int)) (xs.take i)))), (3, .rp [I 3, U x.a, U x.b, U x.c, U x.d, .sl 6 ((xs ++ [z]).map av)]), (7, I N), (8, I i)])
    (fun i => rowS 7 A (sv (ls ++ preW ls.length (fun _ => (N : Int)) (xs.take i))) E) ?_ ?_ ?_ ?_
  · intro i hi Q hQ
    have f1 : ((i : Int) < (xs.length : Nat)) = True := by simp; omega
    have f2 : IntKind.i64.wrap ((i : Int) + 1) = ((i + 1 : Nat) : Int) := by rw [wrapN (by omega) (by omega)]; rfl
    have hi1 := htake i hi
    have hi2 := hlenp (xs.take i) (fun k hk => hxs k (List.mem_of_mem_take hk)) ls.length (fun _ => (N : Int))
    have hil : (xs.take i).length = i := by simp; omega
    rw [hil] at hi2
    rw [List.take_succ_eq_append_getElem hi, preW_snoc] at hQ
    have hki := hK xs[i] (by simp)
    have hks := fun σ => rsize_ans σ xs[i] (hkn _ (by simp))
    rw [av_eq] at hks
    generalize preW ls.length (fun _ => (N : Int)) (xs.take i) = pr at hi2 hQ ⊢
    have hkl := lay_len (ls.length + pr.length + 1) xs[i] hki.1
    rw [← List.append_assoc] at hQ
    have hEm : ls ++ pr = [] → E = [] := fun h => hE (List.append_eq_nil_iff.1 h).1
    have hpl : ls.length + pr.length = (ls ++ pr).length := by simp
    have hb2 : ((ls ++ pr).length : Int) + (lay (ls.length + pr.length + 1) xs[i]).length + 2 ≤ 1000 := by simp; omega
    rw [hpl] at hQ hb2 hkl
    clear hi1 hi2 hpl
    generalize ls ++ pr = M at hQ hEm hb2 hkl ⊢
    have hkid := hki.2.own (M ++ [⟨2, 0, 0, 0, 0, (M.length : Int) + 1, ((M.length + 2 + (lay (M.length + 1) xs[i]).length : Nat) : Int)⟩]) A E (by simp) (by simp; omega)
    have e5 : (M ++ [(⟨2, 0, 0, 0, 0, (M.length : Int) + 1, ((M.length + 2 + (lay (M.length + 1) xs[i]).length : Nat) : Int)⟩ : Stp)]).length = M.length + 1 := by simp
    rw [e5] at hkid
    clear hki
    generalize lay (M.length + 1) xs[i] = K at hQ hb2 hkl hkid
    have e6 : M.length + 1 + K.length = M.length + (K.length + 1) := by omega
    rw [e6] at hkid
    have g1 : (M.length + 1 ≤ 2 ^ 32) = True := by simp; omega
    have g2 : IntKind.i64.wrap ((M.length : Int) + 1) = (M.length : Int) + 1 := wrapN (by omega) (by omega)
    have g3 : (M.length + (K.length + 2) ≤ 2 ^ 32) = True := by simp; omega
    have g4 : IntKind.i64.wrap ((M.length : Int) + 2) = (M.length : Int) + 2 := wrapN (by omega) (by omega)
    have g5 : IntKind.i64.wrap ((M.length : Int) + 2 + (xs[i]).size) = ((M.length + 2 + K.length : Nat) : Int) := by rw [wrapN (by omega) (by omega)]; omega
    have m1 : M ++ ⟨2, 0, 0, 0, 0, (M.length : Int) + 1, ((M.length + 2 + K.length : Nat) : Int)⟩ :: (K ++ [⟨3, 0, 0, 0, 0, (N : Int), 0⟩]) ≠ [] := by simp
    rw [rowV_ne (sv_ne m1), rowS_ne (sv_ne m1)] at hQ
    simp -implicitDefEqProofs only [mkE, List.foldl_cons, List.foldl_nil, go_sem, List.reduceReplicate, Nat.reduceAdd, Nat.reduceSub, Nat.reduceLT, Nat.reduceLeDiff, Nat.reduceMul, Nat.reduceEqDiff, reduceCtorEq, Int.reduceLE, Int.reduceLT, Int.reduceEq, Int.reduceNe, Int.reduceBEq, Int.reduceBNe, Int.reduceAdd, Int.reduceSub, f1, f2, e1, O_lenv, lenA_row M hEm, lenA_sl, hget i hi, List.length_map, g2, g4]
    refine CO.intro (hks _) ?_
    rcases Classical.em (M = []) with hM | hM
    · have hE0 := hEm hM
      subst hM; subst hE0
      rw [show rowV A.length (sv []) = .nils from rfl, show rowS 7 A (sv []) [] = A from rowS_nil 7 A]
      have g6 : (K.length + 2 ≤ 2 ^ 32) = True := by simp; omega
      have w2 : IntKind.i64.wrap 2 = 2 := by decide
      have g7 : IntKind.i64.wrap (2 + (xs[i]).size) = 2 + (K.length : Int) := by rw [wrapN (by omega) (by omega)]; omega
      simp -implicitDefEqProofs only [go_sem, List.reduceReplicate, Nat.reduceAdd, Nat.reduceSub, Nat.reduceLT, Nat.reduceLeDiff, Nat.reduceMul, Nat.reduceEqDiff, reduceCtorEq, Int.reduceLE, Int.reduceLT, Int.reduceEq, Int.reduceNe, Int.reduceBEq, Int.reduceBNe, Int.reduceAdd, Int.reduceSub, f2, p32, w1, w2, g5, g7, hget i hi, List.length_map]
      refine CO.intro' hkid ?_ ?_ ?_
      · rw [av_eq] <;> rfl
      · simp [Stp.av, sv, w2, g7]
      try omega
      simp -implicitDefEqProofs only [go_sem, List.reduceReplicate, Nat.reduceAdd, Nat.reduceSub, Nat.reduceLT, Nat.reduceLeDiff, Nat.reduceMul, Nat.reduceEqDiff, reduceCtorEq, Int.reduceLE, Int.reduceLT, Int.reduceEq, Int.reduceNe, Int.reduceBEq, Int.reduceBNe, Int.reduceAdd, Int.reduceSub, f2, p32, get_mid, set_mid, List.length_map, List.length_append, List.map_append, List.append_assoc, sv, Stp.av, Nat.add_assoc, getm, setm, g6]
      refine Jcast hQ ?_ ?_
      · simp -implicitDefEqProofs only [mkE, List.foldl_cons, List.foldl_nil, go_sem, List.reduceReplicate, Nat.reduceAdd, Nat.reduceSub, Nat.reduceLT, Nat.reduceLeDiff, Nat.reduceMul, Nat.reduceEqDiff, reduceCtorEq, Int.reduceLE, Int.reduceLT, Int.reduceEq, Int.reduceNe, Int.reduceBEq, Int.reduceBNe, Int.reduceAdd, Int.reduceSub, sv, List.length_map, List.length_append, List.map_append, Nat.add_assoc]
        done
      · simp [Stp.av, w2, g7]
        try omega
    · rw [rowV_ne (sv_ne hM), rowS_ne (sv_ne hM)]
      simp -implicitDefEqProofs only [go_sem, List.reduceReplicate, Nat.reduceAdd, Nat.reduceSub, Nat.reduceLT, Nat.reduceLeDiff, Nat.reduceMul, Nat.reduceEqDiff, reduceCtorEq, Int.reduceLE, Int.reduceLT, Int.reduceEq, Int.reduceNe, Int.reduceBEq, Int.reduceBNe, Int.reduceAdd, Int.reduceSub, f2, g5, g1, hget i hi, List.length_map, get_mid, set_mid]
      refine CO.intro' hkid ?_ ?_ ?_
      · rw [av_eq] <;> rfl
      · simp [Stp.av, sv]
      try omega
      simp -implicitDefEqProofs only [go_sem, List.reduceReplicate, Nat.reduceAdd, Nat.reduceSub, Nat.reduceLT, Nat.reduceLeDiff, Nat.reduceMul, Nat.reduceEqDiff, reduceCtorEq, Int.reduceLE, Int.reduceLT, Int.reduceEq, Int.reduceNe, Int.reduceBEq, Int.reduceBNe, Int.reduceAdd, Int.reduceSub, f2, p32, get_mid, set_mid, List.length_map, List.length_append, List.map_append, List.append_assoc, sv, Stp.av, Nat.add_assoc, getm, setm, g3]
      refine Jcast hQ ?_ ?_
      · simp -implicitDefEqProofs only [mkE, List.foldl_cons, List.foldl_nil, go_sem, List.reduceReplicate, Nat.reduceAdd, Nat.reduceSub, Nat.reduceLT, Nat.reduceLeDiff, Nat.reduceMul, Nat.reduceEqDiff, reduceCtorEq, Int.reduceLE, Int.reduceLT, Int.reduceEq, Int.reduceNe, Int.reduceBEq, Int.reduceBNe, Int.reduceAdd, Int.reduceSub, sv, List.length_map, List.length_append, List.map_append, Nat.add_assoc]
        done
      · simp [Stp.av]
        try omega
  · intro Q
    have f1 : (((xs.length : Nat) : Int) < (xs.length : Nat)) = False := by simp
    have f3 : ((xs ++ [z]).map av)[xs.length]? = some (.agg [I z.op, U z.a, U z.b, U z.c, U z.d, .sl 6 (z.ks.map av)]) := by rw [List.map_append, List.getElem?_append_right (by simp)]; simp [← av_eq]
    have hpl := hlenp xs hxs ls.length (fun _ => (N : Int))
    have hzl := lay_len (ls.length + (preW ls.length (fun _ => (N : Int)) xs).length) z hz
    simp -implicitDefEqProofs only [mkE, List.foldl_cons, List.foldl_nil, go_sem, List.reduceReplicate, Nat.reduceAdd, Nat.reduceSub, Nat.reduceLT, Nat.reduceLeDiff, Nat.reduceMul, Nat.reduceEqDiff, reduceCtorEq, Int.reduceLE, Int.reduceLT, Int.reduceEq, Int.reduceNe, Int.reduceBEq, Int.reduceBNe, Int.reduceAdd, Int.reduceSub, f1, e1, Int.toNat_natCast, f3, O_lenv, lenA_sl, List.length_map]
    have hkid := (hK z (by simp)).2 (ls ++ preW ls.length (fun _ => (N : Int)) xs) A E (fun h => hE (List.append_eq_nil_iff.1 h).1) (by rw [List.length_append]; omega)
    rw [List.length_append, List.append_assoc] at hkid
    rw [List.take_length]
    refine CO.intro' hkid (by rw [av_eq] <;> rfl) rfl ?_
    simp -implicitDefEqProofs only [go_sem, List.reduceReplicate, Nat.reduceAdd, Nat.reduceSub, Nat.reduceLT, Nat.reduceLeDiff, Nat.reduceMul, Nat.reduceEqDiff, reduceCtorEq, Int.reduceLE, Int.reduceLT, Int.reduceEq, Int.reduceNe, Int.reduceBEq, Int.reduceBNe, Int.reduceAdd, Int.reduceSub]
    exact Fini.ret rfl
  · simp [mkE, preW]
  · simp [preW]
end Go.Proofs.Ytoiageeecdgleaa
