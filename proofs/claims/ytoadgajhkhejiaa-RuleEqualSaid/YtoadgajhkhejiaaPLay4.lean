/- Trees of patterns: whether they are one, how many steps their programs have. No condition. -/
import Derived.Test.YtoadgajhkhejiaaPTree
set_option linter.unusedSimpArgs false
set_option linter.unusedVariables false
namespace Go.Proofs.Ytoadgajhkhejiaa
open Go Go.Ab
set_option maxRecDepth 100000
namespace Rex
mutual
def size : Rex → Int
  | .mk op _ _ _ _ ks => if op == 1 then 1 else if op == 3 then sizeL ks + 2 * ((ks.length : Int) - 1) else if op == 4 then sizeL ks + 2 else if op == 5 then sizeL ks + 1 else if op == 6 then sizeL ks + 1 else sizeL ks
def sizeL : List Rex → Int
  | [] => 0
  | x :: xs => size x + sizeL xs
end
theorem size_eq (x : Rex) : x.size = if x.op == 1 then 1 else if x.op == 3 then sizeL x.ks + 2 * ((x.ks.length : Int) - 1) else if x.op == 4 then sizeL x.ks + 2 else if x.op == 5 then sizeL x.ks + 1 else if x.op == 6 then sizeL x.ks + 1 else sizeL x.ks := by
  cases x; rfl
theorem len_nodes : ∀ l : List Rex, l.length ≤ nodesL l
  | [] => by simp
  | x :: xs => by
    have := len_nodes xs
    have := nodes_eq x
    simp only [List.length_cons, nodesL]; omega
mutual
theorem size_le : ∀ x : Rex, -(2 * (x.nodes : Int)) ≤ x.size ∧ x.size ≤ 5 * x.nodes - 2
  | .mk op _ _ _ _ ks => by
    have h := sizeL_le ks
    have hl := len_nodes ks
    rw [size, nodes]
    (repeat' split) <;> omega
theorem sizeL_le : ∀ l : List Rex, -(2 * (nodesL l : Int)) ≤ sizeL l ∧ sizeL l + 2 * l.length ≤ 5 * nodesL l
  | [] => by simp [sizeL, nodesL]
  | x :: xs => by
    have h1 := size_le x
    have h2 := sizeL_le xs
    simp only [sizeL, nodesL, List.length_cons]
    omega
end
theorem nodesL_take : ∀ (l : List Rex) (i : Nat), nodesL (l.take i) ≤ nodesL l
  | [], i => by simp [nodesL]
  | x :: xs, 0 => by simp [nodesL]
  | x :: xs, i + 1 => by
    have := nodesL_take xs i
    simp only [List.take_succ_cons, nodesL]; omega
theorem nodes_get : ∀ (l : List Rex) (i : Nat) (hi : i < l.length), (l[i]).nodes ≤ nodesL l
  | x :: xs, 0, _ => by simp [nodesL]
  | x :: xs, i + 1, hi => by
    have := nodes_get xs i (by simpa using hi)
    simp only [List.getElem_cons_succ, nodesL]; omega
theorem sizeL_append : ∀ (l m : List Rex), sizeL (l ++ m) = sizeL l + sizeL m
  | [], m => by simp [sizeL]
  | x :: xs, m => by simp only [List.cons_append, sizeL, sizeL_append xs m]; omega
theorem sizeL_take (l : List Rex) (i : Nat) (hi : i < l.length) : sizeL (l.take (i + 1)) = sizeL (l.take i) + (l[i]).size := by
  rw [List.take_succ_eq_append_getElem hi, sizeL_append]
  simp [sizeL]
def plain (x : Rex) : Bool := x.a == 0 && (x.b == 0 && (x.c == 0 && (x.d == 0 && true)))
mutual
def is : Rex → Bool
  | .mk op a b c d ks =>
    let rest := plain (.mk op a b c d ks) && !notL ks
    if op == 1 then (ks.length : Int) == 0 else if op == 2 then rest
    else if op == 3 then (if (ks.length : Int) == 0 then false else rest)
    else if op == 4 then (if (ks.length : Int) != 1 then false else rest)
    else if op == 5 then (if (ks.length : Int) != 1 then false else rest)
    else if op == 6 then (if (ks.length : Int) != 1 then false else rest)
    else false
def notL : List Rex → Bool
  | [] => false
  | x :: xs => !is x || notL xs
end
theorem notL_eq : ∀ l : List Rex, notL l = l.any fun k => !k.is
  | [] => rfl
  | x :: xs => by rw [notL, notL_eq xs]; rfl
theorem is_eq (x : Rex) : x.is = (if x.op == 1 then (x.ks.length : Int) == 0 else if x.op == 2 then plain x && !(x.ks.any fun k => !k.is)
    else if x.op == 3 then (if (x.ks.length : Int) == 0 then false else plain x && !(x.ks.any fun k => !k.is))
    else if x.op == 4 then (if (x.ks.length : Int) != 1 then false else plain x && !(x.ks.any fun k => !k.is))
    else if x.op == 5 then (if (x.ks.length : Int) != 1 then false else plain x && !(x.ks.any fun k => !k.is))
    else if x.op == 6 then (if (x.ks.length : Int) != 1 then false else plain x && !(x.ks.any fun k => !k.is))
    else false) := by
  cases x; simp only [is, notL_eq]; rfl
end Rex
open Rex
def idxF {α : Type} (p : α → Bool) (ys : List α) : Int := match ys.findIdx? p with | some i => i | none => -1
section
variable (σ : St)
theorem size_ans (x : Rex) (hn : x.nodes ≤ 1000) : Ans Try.prog 128 [x.av] σ (I x.size) σ := by
  rw [av_eq]
  refine Ans.of_run t128 ?_
  simp -implicitDefEqProofs only [c128, r128, go_sem, List.reduceReplicate, Nat.reduceAdd, Nat.reduceSub, Nat.reduceLT, Nat.reduceLeDiff, Nat.reduceMul, Nat.reduceEqDiff, reduceCtorEq, Int.reduceLE, Int.reduceLT, Int.reduceEq, Int.reduceNe, Int.reduceBEq, Int.reduceBNe, Int.reduceAdd, Int.reduceSub, List.length_map]
  have hget : ∀ i (hi : i < x.ks.length), (x.ks.map av)[i]? = some (x.ks[i]).av := fun i hi => by simp [hi]
  have hk := nodes_eq x
  refine L.count x.ks.length (fun i => mkE 41 [(1, .rp [I x.op, U x.a, U x.b, U x.c, U x.d, .sl 6 (x.ks.map av)]), (3, I (sizeL (x.ks.take i))), (7, .sl 6 (x.ks.map av)), (8, I x.ks.length), (9, I i)]) (fun _ => σ) ?_ ?_ ?_ rfl
  · intro i hi J hJ
    have e1 : ((i : Int) < (x.ks.length : Nat)) = True := by simp; omega
    have e2 : IntKind.i64.wrap ((i : Int) + 1) = ((i + 1 : Nat) : Int) := by
      have := len_nodes x.ks
      rw [wrapN (by omega) (by omega)]; rfl
    have hni := nodes_get x.ks i hi
    simp -implicitDefEqProofs only [mkE, List.foldl_cons, List.foldl_nil, go_sem, List.reduceReplicate, Nat.reduceAdd, Nat.reduceSub, Nat.reduceLT, Nat.reduceLeDiff, Nat.reduceMul, Nat.reduceEqDiff, reduceCtorEq, Int.reduceLE, Int.reduceLT, Int.reduceEq, Int.reduceNe, Int.reduceBEq, Int.reduceBNe, Int.reduceAdd, Int.reduceSub, e1, hget i hi]
    rw [av_eq]
    simp -implicitDefEqProofs only [go_sem, List.reduceReplicate, Nat.reduceAdd, Nat.reduceSub, Nat.reduceLT, Nat.reduceLeDiff, Nat.reduceMul, Nat.reduceEqDiff, reduceCtorEq, Int.reduceLE, Int.reduceLT, Int.reduceEq, Int.reduceNe, Int.reduceBEq, Int.reduceBNe, Int.reduceAdd, Int.reduceSub]
    rw [← av_eq]
    refine CO.intro (size_ans x.ks[i] (by omega)) ?_
    have e3 : IntKind.i64.wrap (sizeL (x.ks.take i) + x.ks[i].size) = sizeL (x.ks.take (i + 1)) := by
      have h1 := sizeL_le (x.ks.take i)
      have h2 := size_le x.ks[i]
      have h3 := nodesL_take x.ks i
      rw [wrapN (by omega) (by omega), sizeL_take _ _ hi]
    simp -implicitDefEqProofs only [go_sem, List.reduceReplicate, Nat.reduceAdd, Nat.reduceSub, Nat.reduceLT, Nat.reduceLeDiff, Nat.reduceMul, Nat.reduceEqDiff, reduceCtorEq, Int.reduceLE, Int.reduceLT, Int.reduceEq, Int.reduceNe, Int.reduceBEq, Int.reduceBNe, Int.reduceAdd, Int.reduceSub, e2, e3]
    exact hJ
  · intro J
    have e1 : (((x.ks.length : Nat) : Int) < (x.ks.length : Nat)) = False := by simp
    have h1 := sizeL_le x.ks
    have h2 := len_nodes x.ks
    have e2 : IntKind.i64.wrap (sizeL x.ks + 2) = sizeL x.ks + 2 := wrapN (by omega) (by omega)
    have e3 : IntKind.i64.wrap (sizeL x.ks + 1) = sizeL x.ks + 1 := wrapN (by omega) (by omega)
    have e4 : IntKind.i64.wrap ((x.ks.length : Int) - 1) = (x.ks.length : Int) - 1 := wrapN (by omega) (by omega)
    have e5 : IntKind.i64.wrap (2 * ((x.ks.length : Int) - 1)) = 2 * ((x.ks.length : Int) - 1) := wrapN (by omega) (by omega)
    have e6 : IntKind.i64.wrap (sizeL x.ks + 2 * ((x.ks.length : Int) - 1)) = sizeL x.ks + 2 * ((x.ks.length : Int) - 1) := wrapN (by omega) (by omega)
    simp -implicitDefEqProofs only [mkE, List.foldl_cons, List.foldl_nil, go_sem, List.reduceReplicate, Nat.reduceAdd, Nat.reduceSub, Nat.reduceLT, Nat.reduceLeDiff, Nat.reduceMul, Nat.reduceEqDiff, reduceCtorEq, Int.reduceLE, Int.reduceLT, Int.reduceEq, Int.reduceNe, Int.reduceBEq, Int.reduceBNe, Int.reduceAdd, Int.reduceSub, e1, List.take_length]
    repeat' (refine C.split (fun hb => ?_) (fun hb => ?_) <;> simp -implicitDefEqProofs only [hb, go_sem, List.reduceReplicate, Nat.reduceAdd, Nat.reduceSub, Nat.reduceLT, Nat.reduceLeDiff, Nat.reduceMul, Nat.reduceEqDiff, reduceCtorEq, Int.reduceLE, Int.reduceLT, Int.reduceEq, Int.reduceNe, Int.reduceBEq, Int.reduceBNe, Int.reduceAdd, Int.reduceSub, List.length_map, e2, e3, e4, e5, e6, List.take_length])
    all_goals (refine Fini.ret' rfl (int_congr ?_); rw [size_eq]; simp [*])
  · rfl
termination_by SizeOf.sizeOf x
decreasing_by exact lt_of_mem (List.getElem_mem _)
theorem index_ans (ys : List Rex) (g : FuncId) (fs cs : List AV) (p : Rex → Bool) (h : ∀ s ∈ ys, Ans Try.prog g (fs ++ [s.av] ++ cs) σ (Bo (p s)) σ) (hl : ys.length ≤ 1000) :
    Ans Try.prog 144 [.sl 6 (ys.map av), .fn g fs cs] σ (I (idxF p ys)) σ := by
  refine Ans.of_run t144 ?_
  simp -implicitDefEqProofs only [c144, r144, go_sem, List.reduceReplicate, Nat.reduceAdd, Nat.reduceSub, Nat.reduceLT, Nat.reduceLeDiff, Nat.reduceMul, Nat.reduceEqDiff, reduceCtorEq, Int.reduceLE, Int.reduceLT, Int.reduceEq, Int.reduceNe, Int.reduceBEq, Int.reduceBNe, Int.reduceAdd, Int.reduceSub, List.length_map]
  have hget : ∀ i (hi : i < ys.length), (ys.map av)[i]? = some (ys[i]).av := fun i hi => by simp [hi]
  refine L.scan ys.length (fun i => match ys[i]? with | some y => !p y | none => true) (fun i => mkE 19 [(0, .sl 6 (ys.map av)), (1, .fn g fs cs), (7, I ys.length), (8, I i)]) (fun _ => σ) ?_ ?_ rfl rfl
  · intro i hi hok J hJ
    have e1 : ((i : Int) < (ys.length : Nat)) = True := by simp; omega
    have e2 : IntKind.i64.wrap ((i : Int) + 1) = ((i + 1 : Nat) : Int) := by rw [wrapN (by omega) (by omega)]; rfl
    have e5 : ys[i]? = some ys[i] := List.getElem?_eq_getElem hi
    have h1 := h ys[i] (List.getElem_mem hi)
    simp -implicitDefEqProofs only [mkE, List.foldl_cons, List.foldl_nil, go_sem, List.reduceReplicate, Nat.reduceAdd, Nat.reduceSub, Nat.reduceLT, Nat.reduceLeDiff, Nat.reduceMul, Nat.reduceEqDiff, reduceCtorEq, Int.reduceLE, Int.reduceLT, Int.reduceEq, Int.reduceNe, Int.reduceBEq, Int.reduceBNe, Int.reduceAdd, Int.reduceSub, e1, hget i hi]
    rw [av_eq] at h1 ⊢
    simp -implicitDefEqProofs only [go_sem, List.reduceReplicate, Nat.reduceAdd, Nat.reduceSub, Nat.reduceLT, Nat.reduceLeDiff, Nat.reduceMul, Nat.reduceEqDiff, reduceCtorEq, Int.reduceLE, Int.reduceLT, Int.reduceEq, Int.reduceNe, Int.reduceBEq, Int.reduceBNe, Int.reduceAdd, Int.reduceSub]
    refine CO.intro h1 ?_
    simp -implicitDefEqProofs only [go_sem, List.reduceReplicate, Nat.reduceAdd, Nat.reduceSub, Nat.reduceLT, Nat.reduceLeDiff, Nat.reduceMul, Nat.reduceEqDiff, reduceCtorEq, Int.reduceLE, Int.reduceLT, Int.reduceEq, Int.reduceNe, Int.reduceBEq, Int.reduceBNe, Int.reduceAdd, Int.reduceSub]
    refine C.split (fun hb => ?_) (fun hb => ?_) <;> simp -implicitDefEqProofs only [hb, go_sem, List.reduceReplicate, Nat.reduceAdd, Nat.reduceSub, Nat.reduceLT, Nat.reduceLeDiff, Nat.reduceMul, Nat.reduceEqDiff, reduceCtorEq, Int.reduceLE, Int.reduceLT, Int.reduceEq, Int.reduceNe, Int.reduceBEq, Int.reduceBNe, Int.reduceAdd, Int.reduceSub, e2]
    · refine Fini.ret' rfl (int_congr ?_)
      have : ys.findIdx? p = some i := by
        rw [List.findIdx?_eq_some_iff_getElem]
        refine ⟨hi, hb, fun j hj => ?_⟩
        have := hok j hj
        rw [List.getElem?_eq_getElem (by omega)] at this
        simpa using this
      simp [idxF, this]
    · exact hJ (by rw [e5]; simp [hb])
  · intro hok J
    have e1 : (((ys.length : Nat) : Int) < (ys.length : Nat)) = False := by simp
    simp -implicitDefEqProofs only [mkE, List.foldl_cons, List.foldl_nil, go_sem, List.reduceReplicate, Nat.reduceAdd, Nat.reduceSub, Nat.reduceLT, Nat.reduceLeDiff, Nat.reduceMul, Nat.reduceEqDiff, reduceCtorEq, Int.reduceLE, Int.reduceLT, Int.reduceEq, Int.reduceNe, Int.reduceBEq, Int.reduceBNe, Int.reduceAdd, Int.reduceSub, e1]
    refine Fini.ret' rfl (int_congr ?_)
    have : ys.findIdx? p = none := by
      rw [List.findIdx?_eq_none_iff]
      intro y hy
      obtain ⟨j, hj, rfl⟩ := List.getElem_of_mem hy
      have := hok j hj
      rw [List.getElem?_eq_getElem hj] at this
      simpa using this
    simp [idxF, this]
theorem contains_ans (ys : List Rex) (g : FuncId) (fs cs : List AV) (p : Rex → Bool) (h : ∀ s ∈ ys, Ans Try.prog g (fs ++ [s.av] ++ cs) σ (Bo (p s)) σ) (hl : ys.length ≤ 1000) :
    Ans Try.prog 140 [.sl 6 (ys.map av), .fn g fs cs] σ (Bo (ys.any p)) σ := by
  refine Ans.of_run t140 ?_
  simp -implicitDefEqProofs only [c140, r140, go_sem, List.reduceReplicate, Nat.reduceAdd, Nat.reduceSub, Nat.reduceLT, Nat.reduceLeDiff, Nat.reduceMul, Nat.reduceEqDiff, reduceCtorEq, Int.reduceLE, Int.reduceLT, Int.reduceEq, Int.reduceNe, Int.reduceBEq, Int.reduceBNe, Int.reduceAdd, Int.reduceSub]
  refine CO.intro (index_ans σ ys g fs cs p h hl) ?_
  simp -implicitDefEqProofs only [go_sem, List.reduceReplicate, Nat.reduceAdd, Nat.reduceSub, Nat.reduceLT, Nat.reduceLeDiff, Nat.reduceMul, Nat.reduceEqDiff, reduceCtorEq, Int.reduceLE, Int.reduceLT, Int.reduceEq, Int.reduceNe, Int.reduceBEq, Int.reduceBNe, Int.reduceAdd, Int.reduceSub]
  have : decide (0 ≤ idxF p ys) = ys.any p := by
    unfold idxF
    cases hf : ys.findIdx? p with
    | none =>
      have := List.findIdx?_eq_none_iff.1 hf
      simp; intro x hx; simpa using this x hx
    | some k =>
      obtain ⟨hk, hp, hq⟩ := List.findIdx?_eq_some_iff_getElem.1 hf
      simp; exact ⟨ys[k], List.getElem_mem hk, hp⟩
  exact Fini.ret' rfl (bo_congr this)
theorem is_ans (x : Rex) (hn : x.nodes ≤ 1000) : Ans Try.prog 127 [x.av] σ (Bo x.is) σ := by
  have hk := nodes_eq x
  have hl := len_nodes x.ks
  have hc : Ans Try.prog 140 [.sl 6 (x.ks.map av), .fn 141 [] []] σ (Bo (x.ks.any fun k => !k.is)) σ := by
    refine contains_ans σ x.ks 141 [] [] _ (fun s hs => ?_) (by omega)
    obtain ⟨i, hi, rfl⟩ := List.getElem_of_mem hs
    have hni := nodes_get x.ks i hi
    show Ans Try.prog 141 [(x.ks[i]).av] σ (Bo (!(x.ks[i]).is)) σ
    have h1 := is_ans x.ks[i] (by omega)
    rw [av_eq] at h1 ⊢
    refine Ans.of_run t141 ?_
    simp -implicitDefEqProofs only [c141, r141, go_sem, List.reduceReplicate, Nat.reduceAdd, Nat.reduceSub, Nat.reduceLT, Nat.reduceLeDiff, Nat.reduceMul, Nat.reduceEqDiff, reduceCtorEq, Int.reduceLE, Int.reduceLT, Int.reduceEq, Int.reduceNe, Int.reduceBEq, Int.reduceBNe, Int.reduceAdd, Int.reduceSub]
    refine CO.intro h1 ?_
    simp -implicitDefEqProofs only [go_sem, List.reduceReplicate, Nat.reduceAdd, Nat.reduceSub, Nat.reduceLT, Nat.reduceLeDiff, Nat.reduceMul, Nat.reduceEqDiff, reduceCtorEq, Int.reduceLE, Int.reduceLT, Int.reduceEq, Int.reduceNe, Int.reduceBEq, Int.reduceBNe, Int.reduceAdd, Int.reduceSub]
    exact Fini.ret rfl
  rw [av_eq]
  refine Ans.of_run t127 ?_
  simp -implicitDefEqProofs only [c127, r127, go_sem, List.reduceReplicate, Nat.reduceAdd, Nat.reduceSub, Nat.reduceLT, Nat.reduceLeDiff, Nat.reduceMul, Nat.reduceEqDiff, reduceCtorEq, Int.reduceLE, Int.reduceLT, Int.reduceEq, Int.reduceNe, Int.reduceBEq, Int.reduceBNe, Int.reduceAdd, Int.reduceSub, List.length_map]
  repeat' (first | (refine CO.intro hc ?_; simp -implicitDefEqProofs only [go_sem, List.reduceReplicate, Nat.reduceAdd, Nat.reduceSub, Nat.reduceLT, Nat.reduceLeDiff, Nat.reduceMul, Nat.reduceEqDiff, reduceCtorEq, Int.reduceLE, Int.reduceLT, Int.reduceEq, Int.reduceNe, Int.reduceBEq, Int.reduceBNe, Int.reduceAdd, Int.reduceSub, Bool.true_xor]) | (refine C.split (fun hb => ?_) (fun hb => ?_) <;> simp -implicitDefEqProofs only [hb, go_sem, List.reduceReplicate, Nat.reduceAdd, Nat.reduceSub, Nat.reduceLT, Nat.reduceLeDiff, Nat.reduceMul, Nat.reduceEqDiff, reduceCtorEq, Int.reduceLE, Int.reduceLT, Int.reduceEq, Int.reduceNe, Int.reduceBEq, Int.reduceBNe, Int.reduceAdd, Int.reduceSub, List.length_map, Bool.true_xor]) | (refine OG.split (fun hb => ?_) (fun hb => ?_) <;> simp -implicitDefEqProofs only [hb, go_sem, List.reduceReplicate, Nat.reduceAdd, Nat.reduceSub, Nat.reduceLT, Nat.reduceLeDiff, Nat.reduceMul, Nat.reduceEqDiff, reduceCtorEq, Int.reduceLE, Int.reduceLT, Int.reduceEq, Int.reduceNe, Int.reduceBEq, Int.reduceBNe, Int.reduceAdd, Int.reduceSub, List.length_map, Bool.true_xor]))
  all_goals (refine Fini.ret' rfl (bo_congr ?_); rw [is_eq]; simp [plain, *])
termination_by SizeOf.sizeOf x
decreasing_by exact lt_of_mem (List.getElem_mem _)
def full (x : Rex) : Int := if !x.is then 0 else x.size + 1
theorem Size_ans (x : Rex) (hn : x.nodes ≤ 1000) : Ans Try.prog 111 [x.av] σ (I (full x)) σ := by
  have h1 := is_ans σ x hn
  have h2 := size_ans σ x hn
  have hs := size_le x
  have e1 : IntKind.i64.wrap (x.size + 1) = x.size + 1 := wrapN (by omega) (by omega)
  rw [av_eq] at h1 h2 ⊢
  refine Ans.of_run t111 ?_
  simp -implicitDefEqProofs only [c111, r111, go_sem, List.reduceReplicate, Nat.reduceAdd, Nat.reduceSub, Nat.reduceLT, Nat.reduceLeDiff, Nat.reduceMul, Nat.reduceEqDiff, reduceCtorEq, Int.reduceLE, Int.reduceLT, Int.reduceEq, Int.reduceNe, Int.reduceBEq, Int.reduceBNe, Int.reduceAdd, Int.reduceSub]
  refine CO.intro h1 ?_
  simp -implicitDefEqProofs only [go_sem, List.reduceReplicate, Nat.reduceAdd, Nat.reduceSub, Nat.reduceLT, Nat.reduceLeDiff, Nat.reduceMul, Nat.reduceEqDiff, reduceCtorEq, Int.reduceLE, Int.reduceLT, Int.reduceEq, Int.reduceNe, Int.reduceBEq, Int.reduceBNe, Int.reduceAdd, Int.reduceSub]
  refine C.splitN (fun hb => ?_) (fun hb => ?_) <;> simp -implicitDefEqProofs only [go_sem, List.reduceReplicate, Nat.reduceAdd, Nat.reduceSub, Nat.reduceLT, Nat.reduceLeDiff, Nat.reduceMul, Nat.reduceEqDiff, reduceCtorEq, Int.reduceLE, Int.reduceLT, Int.reduceEq, Int.reduceNe, Int.reduceBEq, Int.reduceBNe, Int.reduceAdd, Int.reduceSub]
  · refine CO.intro h2 ?_
    simp -implicitDefEqProofs only [go_sem, List.reduceReplicate, Nat.reduceAdd, Nat.reduceSub, Nat.reduceLT, Nat.reduceLeDiff, Nat.reduceMul, Nat.reduceEqDiff, reduceCtorEq, Int.reduceLE, Int.reduceLT, Int.reduceEq, Int.reduceNe, Int.reduceBEq, Int.reduceBNe, Int.reduceAdd, Int.reduceSub, e1]
    refine Fini.ret' rfl (int_congr ?_)
    simp [full, hb]
  · refine Fini.ret' rfl (int_congr ?_)
    simp [full, hb]
end
end Go.Proofs.Ytoadgajhkhejiaa
namespace Go.Proofs.Ytoadgajhkhejiaa
open Go Go.Ab
set_option maxRecDepth 100000
structure Stp where
  op : Int
  a : Int
  b : Int
  c : Int
  d : Int
  x : Int
  y : Int
def Stp.av (s : Stp) : AV := .agg [I s.op, U s.a, U s.b, U s.c, U s.d, I s.x, I s.y]
def inR (n at_ : Int) : Bool := decide (0 ≤ at_) && decide (at_ < n)
def Stp.none (s : Stp) : Bool := s.a == 0 && (s.b == 0 && (s.c == 0 && (s.d == 0 && true)))
def rightS (s : Stp) (n : Int) (last : Bool) : Bool :=
  if (s.op != 1) && !s.none then false
  else if s.op == 1 then (s.x == 0 && s.y == 0) && !last
  else if s.op == 2 then inR n s.x && inR n s.y
  else if s.op == 3 then inR n s.x && s.y == 0
  else (s.op == 4 && s.x == 0) && s.y == 0
section
variable (σ : St)
theorem in_ans (n at_ : Int) : Ans Try.prog 131 [I at_, .rp [I n]] σ (Bo (inR n at_)) σ := by
  refine Ans.of_run t131 ?_
  simp -implicitDefEqProofs only [c131, r131, go_sem, List.reduceReplicate, Nat.reduceAdd, Nat.reduceSub, Nat.reduceLT, Nat.reduceLeDiff, Nat.reduceMul, Nat.reduceEqDiff, reduceCtorEq, Int.reduceLE, Int.reduceLT, Int.reduceEq, Int.reduceNe, Int.reduceBEq, Int.reduceBNe, Int.reduceAdd, Int.reduceSub]
  repeat' (first | (refine C.split (fun hb => ?_) (fun hb => ?_) <;> simp -implicitDefEqProofs only [hb, go_sem, List.reduceReplicate, Nat.reduceAdd, Nat.reduceSub, Nat.reduceLT, Nat.reduceLeDiff, Nat.reduceMul, Nat.reduceEqDiff, reduceCtorEq, Int.reduceLE, Int.reduceLT, Int.reduceEq, Int.reduceNe, Int.reduceBEq, Int.reduceBNe, Int.reduceAdd, Int.reduceSub]) | (refine OG.split (fun hb => ?_) (fun hb => ?_) <;> simp -implicitDefEqProofs only [hb, go_sem, List.reduceReplicate, Nat.reduceAdd, Nat.reduceSub, Nat.reduceLT, Nat.reduceLeDiff, Nat.reduceMul, Nat.reduceEqDiff, reduceCtorEq, Int.reduceLE, Int.reduceLT, Int.reduceEq, Int.reduceNe, Int.reduceBEq, Int.reduceBNe, Int.reduceAdd, Int.reduceSub]) | (refine DG.split (fun hb => ?_) (fun hb => ?_) <;> simp -implicitDefEqProofs only [hb, go_sem, List.reduceReplicate, Nat.reduceAdd, Nat.reduceSub, Nat.reduceLT, Nat.reduceLeDiff, Nat.reduceMul, Nat.reduceEqDiff, reduceCtorEq, Int.reduceLE, Int.reduceLT, Int.reduceEq, Int.reduceNe, Int.reduceBEq, Int.reduceBNe, Int.reduceAdd, Int.reduceSub]))
  all_goals (refine Fini.ret' rfl (bo_congr ?_); simp [inR, *])
theorem right_ans (s : Stp) (n : Int) (last : Bool) : Ans Try.prog 115 [s.av, I n, Bo last] σ (Bo (rightS s n last)) σ := by
  refine Ans.of_run t115 ?_
  simp -implicitDefEqProofs only [c115, r115, Stp.av, go_sem, List.reduceReplicate, Nat.reduceAdd, Nat.reduceSub, Nat.reduceLT, Nat.reduceLeDiff, Nat.reduceMul, Nat.reduceEqDiff, reduceCtorEq, Int.reduceLE, Int.reduceLT, Int.reduceEq, Int.reduceNe, Int.reduceBEq, Int.reduceBNe, Int.reduceAdd, Int.reduceSub, Bool.true_xor]
  repeat' (first | (refine CO.intro (in_ans _ _ _) ?_; simp -implicitDefEqProofs only [go_sem, List.reduceReplicate, Nat.reduceAdd, Nat.reduceSub, Nat.reduceLT, Nat.reduceLeDiff, Nat.reduceMul, Nat.reduceEqDiff, reduceCtorEq, Int.reduceLE, Int.reduceLT, Int.reduceEq, Int.reduceNe, Int.reduceBEq, Int.reduceBNe, Int.reduceAdd, Int.reduceSub]) | (refine C.split (fun hb => ?_) (fun hb => ?_) <;> simp -implicitDefEqProofs only [hb, go_sem, List.reduceReplicate, Nat.reduceAdd, Nat.reduceSub, Nat.reduceLT, Nat.reduceLeDiff, Nat.reduceMul, Nat.reduceEqDiff, reduceCtorEq, Int.reduceLE, Int.reduceLT, Int.reduceEq, Int.reduceNe, Int.reduceBEq, Int.reduceBNe, Int.reduceAdd, Int.reduceSub, Bool.true_xor]) | (refine OG.split (fun hb => ?_) (fun hb => ?_) <;> simp -implicitDefEqProofs only [hb, go_sem, List.reduceReplicate, Nat.reduceAdd, Nat.reduceSub, Nat.reduceLT, Nat.reduceLeDiff, Nat.reduceMul, Nat.reduceEqDiff, reduceCtorEq, Int.reduceLE, Int.reduceLT, Int.reduceEq, Int.reduceNe, Int.reduceBEq, Int.reduceBNe, Int.reduceAdd, Int.reduceSub, Bool.true_xor]))
  all_goals (refine Fini.ret' rfl (bo_congr ?_); simp [rightS, Stp.none, *])
theorem right1_ans (xs : AV) (ys : List Stp) (hx : xs = .sl 7 (ys.map Stp.av)) (s : Stp) : Ans Try.prog 114 [s.av, .rp [xs]] σ (Bo (!rightS s ys.length false)) σ := by
  subst hx
  refine Ans.of_run t114 ?_
  simp -implicitDefEqProofs only [c114, r114, Stp.av, go_sem, List.reduceReplicate, Nat.reduceAdd, Nat.reduceSub, Nat.reduceLT, Nat.reduceLeDiff, Nat.reduceMul, Nat.reduceEqDiff, reduceCtorEq, Int.reduceLE, Int.reduceLT, Int.reduceEq, Int.reduceNe, Int.reduceBEq, Int.reduceBNe, Int.reduceAdd, Int.reduceSub, List.length_map]
  refine CO.intro (right_ans _ s _ _) ?_
  simp -implicitDefEqProofs only [go_sem, List.reduceReplicate, Nat.reduceAdd, Nat.reduceSub, Nat.reduceLT, Nat.reduceLeDiff, Nat.reduceMul, Nat.reduceEqDiff, reduceCtorEq, Int.reduceLE, Int.reduceLT, Int.reduceEq, Int.reduceNe, Int.reduceBEq, Int.reduceBNe, Int.reduceAdd, Int.reduceSub]
  exact Fini.ret rfl
theorem sindex_ans (ys : List Stp) (g : FuncId) (fs cs : List AV) (p : Stp → Bool) (h : ∀ s, Ans Try.prog g (fs ++ [s.av] ++ cs) σ (Bo (p s)) σ) (hl : ys.length ≤ 1000) :
    Ans Try.prog 130 [.sl 7 (ys.map Stp.av), .fn g fs cs] σ (I (idxF p ys)) σ := by
  have h1 : ∀ s, Ans Try.prog g (fs ++ [s.av] ++ cs) σ (Bo (p s)) σ := h
  simp only [Stp.av] at h1
  refine Ans.of_run t130 ?_
  simp -implicitDefEqProofs only [c130, r130, go_sem, List.reduceReplicate, Nat.reduceAdd, Nat.reduceSub, Nat.reduceLT, Nat.reduceLeDiff, Nat.reduceMul, Nat.reduceEqDiff, reduceCtorEq, Int.reduceLE, Int.reduceLT, Int.reduceEq, Int.reduceNe, Int.reduceBEq, Int.reduceBNe, Int.reduceAdd, Int.reduceSub, List.length_map]
  have hget : ∀ i (hi : i < ys.length), (ys.map Stp.av)[i]? = some (ys[i]).av := fun i hi => by simp [hi]
  cases hf : ys.findIdx? p with
  | none =>
    refine L.count ys.length (fun i => mkE 19 [(0, .sl 7 (ys.map Stp.av)), (1, .fn g fs cs), (7, I ys.length), (8, I i)]) (fun _ => σ) ?_ ?_ rfl rfl
    · intro i hi J hJ
      have e1 : ((i : Int) < ys.length) = True := by simp; omega
      have e2 : IntKind.i64.wrap ((i : Int) + 1) = ((i + 1 : Nat) : Int) := by rw [wrapN (by omega) (by omega)]; rfl
      have e3 : p ys[i] = false := by
        have := List.findIdx?_eq_none_iff.1 hf (ys[i]) (List.getElem_mem hi)
        simpa using this
      simp -implicitDefEqProofs only [mkE, List.foldl_cons, List.foldl_nil, go_sem, List.reduceReplicate, Nat.reduceAdd, Nat.reduceSub, Nat.reduceLT, Nat.reduceLeDiff, Nat.reduceMul, Nat.reduceEqDiff, reduceCtorEq, Int.reduceLE, Int.reduceLT, Int.reduceEq, Int.reduceNe, Int.reduceBEq, Int.reduceBNe, Int.reduceAdd, Int.reduceSub, e1, hget i hi, Stp.av]
      refine CO.intro (h1 _) ?_
      simp -implicitDefEqProofs only [go_sem, List.reduceReplicate, Nat.reduceAdd, Nat.reduceSub, Nat.reduceLT, Nat.reduceLeDiff, Nat.reduceMul, Nat.reduceEqDiff, reduceCtorEq, Int.reduceLE, Int.reduceLT, Int.reduceEq, Int.reduceNe, Int.reduceBEq, Int.reduceBNe, Int.reduceAdd, Int.reduceSub, e2, e3]
      exact hJ
    · intro J
      have e1 : ((ys.length : Int) < ys.length) = False := by simp
      simp -implicitDefEqProofs only [mkE, List.foldl_cons, List.foldl_nil, go_sem, List.reduceReplicate, Nat.reduceAdd, Nat.reduceSub, Nat.reduceLT, Nat.reduceLeDiff, Nat.reduceMul, Nat.reduceEqDiff, reduceCtorEq, Int.reduceLE, Int.reduceLT, Int.reduceEq, Int.reduceNe, Int.reduceBEq, Int.reduceBNe, Int.reduceAdd, Int.reduceSub, e1]
      refine Fini.ret' rfl (int_congr ?_)
      simp [idxF, hf]
  | some k =>
    obtain ⟨hk, hp, hq⟩ := List.findIdx?_eq_some_iff_getElem.1 hf
    refine L.count k (fun i => mkE 19 [(0, .sl 7 (ys.map Stp.av)), (1, .fn g fs cs), (7, I ys.length), (8, I i)]) (fun _ => σ) ?_ ?_ rfl rfl
    · intro i hi J hJ
      have e1 : ((i : Int) < ys.length) = True := by simp; omega
      have e2 : IntKind.i64.wrap ((i : Int) + 1) = ((i + 1 : Nat) : Int) := by rw [wrapN (by omega) (by omega)]; rfl
      have e3 : p (ys[i]'(by omega)) = false := by simpa using hq i hi
      simp -implicitDefEqProofs only [mkE, List.foldl_cons, List.foldl_nil, go_sem, List.reduceReplicate, Nat.reduceAdd, Nat.reduceSub, Nat.reduceLT, Nat.reduceLeDiff, Nat.reduceMul, Nat.reduceEqDiff, reduceCtorEq, Int.reduceLE, Int.reduceLT, Int.reduceEq, Int.reduceNe, Int.reduceBEq, Int.reduceBNe, Int.reduceAdd, Int.reduceSub, e1, hget i (by omega), Stp.av]
      refine CO.intro (h1 _) ?_
      simp -implicitDefEqProofs only [go_sem, List.reduceReplicate, Nat.reduceAdd, Nat.reduceSub, Nat.reduceLT, Nat.reduceLeDiff, Nat.reduceMul, Nat.reduceEqDiff, reduceCtorEq, Int.reduceLE, Int.reduceLT, Int.reduceEq, Int.reduceNe, Int.reduceBEq, Int.reduceBNe, Int.reduceAdd, Int.reduceSub, e2, e3]
      exact hJ
    · intro J
      have e1 : ((k : Int) < ys.length) = True := by simp; omega
      simp -implicitDefEqProofs only [mkE, List.foldl_cons, List.foldl_nil, go_sem, List.reduceReplicate, Nat.reduceAdd, Nat.reduceSub, Nat.reduceLT, Nat.reduceLeDiff, Nat.reduceMul, Nat.reduceEqDiff, reduceCtorEq, Int.reduceLE, Int.reduceLT, Int.reduceEq, Int.reduceNe, Int.reduceBEq, Int.reduceBNe, Int.reduceAdd, Int.reduceSub, e1, hget k hk, Stp.av]
      refine CO.intro (h1 _) ?_
      simp -implicitDefEqProofs only [go_sem, List.reduceReplicate, Nat.reduceAdd, Nat.reduceSub, Nat.reduceLT, Nat.reduceLeDiff, Nat.reduceMul, Nat.reduceEqDiff, reduceCtorEq, Int.reduceLE, Int.reduceLT, Int.reduceEq, Int.reduceNe, Int.reduceBEq, Int.reduceBNe, Int.reduceAdd, Int.reduceSub, hp]
      refine Fini.ret' rfl (int_congr ?_)
      simp [idxF, hf]
theorem scontains_ans (ys : List Stp) (g : FuncId) (fs cs : List AV) (p : Stp → Bool) (h : ∀ s, Ans Try.prog g (fs ++ [s.av] ++ cs) σ (Bo (p s)) σ) (hl : ys.length ≤ 1000) :
    Ans Try.prog 113 [.sl 7 (ys.map Stp.av), .fn g fs cs] σ (Bo (ys.any p)) σ := by
  refine Ans.of_run t113 ?_
  simp -implicitDefEqProofs only [c113, r113, go_sem, List.reduceReplicate, Nat.reduceAdd, Nat.reduceSub, Nat.reduceLT, Nat.reduceLeDiff, Nat.reduceMul, Nat.reduceEqDiff, reduceCtorEq, Int.reduceLE, Int.reduceLT, Int.reduceEq, Int.reduceNe, Int.reduceBEq, Int.reduceBNe, Int.reduceAdd, Int.reduceSub]
  refine CO.intro (sindex_ans σ ys g fs cs p h hl) ?_
  simp -implicitDefEqProofs only [go_sem, List.reduceReplicate, Nat.reduceAdd, Nat.reduceSub, Nat.reduceLT, Nat.reduceLeDiff, Nat.reduceMul, Nat.reduceEqDiff, reduceCtorEq, Int.reduceLE, Int.reduceLT, Int.reduceEq, Int.reduceNe, Int.reduceBEq, Int.reduceBNe, Int.reduceAdd, Int.reduceSub]
  have : decide (0 ≤ idxF p ys) = ys.any p := by
    unfold idxF
    cases hf : ys.findIdx? p with
    | none => 
      have := List.findIdx?_eq_none_iff.1 hf
      simp; intro x hx; simpa using this x hx
    | some k =>
      obtain ⟨hk, hp, hq⟩ := List.findIdx?_eq_some_iff_getElem.1 hf
      simp; exact ⟨ys[k], List.getElem_mem hk, hp⟩
  exact Fini.ret' rfl (bo_congr this)
def Lst (ys : List Stp) (x : AV) : Prop := (x = .nils ∧ ys = []) ∨ x = .sl 7 (ys.map Stp.av)
def pcheck (ys : List Stp) : Bool :=
  if decide ((ys.length : Int) < 1) then false else if decide ((40 : Int) < ys.length) then false
  else !((ys.take (ys.length - 1)).any fun s => !rightS s ys.length false) && (match ys[ys.length - 1]? with | some s => rightS s ys.length true | none => false)
theorem check_ans (ys : List Stp) (x : AV) (hx : Lst ys x) : Ans Try.prog 91 [x] σ (Bo (pcheck ys)) σ := by
  rcases hx with ⟨rfl, rfl⟩ | rfl
  · refine Ans.of_run t91 ?_
    simp -implicitDefEqProofs only [c91, r91, go_sem, List.reduceReplicate, Nat.reduceAdd, Nat.reduceSub, Nat.reduceLT, Nat.reduceLeDiff, Nat.reduceMul, Nat.reduceEqDiff, reduceCtorEq, Int.reduceLE, Int.reduceLT, Int.reduceEq, Int.reduceNe, Int.reduceBEq, Int.reduceBNe, Int.reduceAdd, Int.reduceSub]
    exact Fini.ret rfl
  · refine Ans.of_run t91 ?_
    simp -implicitDefEqProofs only [c91, r91, go_sem, List.reduceReplicate, Nat.reduceAdd, Nat.reduceSub, Nat.reduceLT, Nat.reduceLeDiff, Nat.reduceMul, Nat.reduceEqDiff, reduceCtorEq, Int.reduceLE, Int.reduceLT, Int.reduceEq, Int.reduceNe, Int.reduceBEq, Int.reduceBNe, Int.reduceAdd, Int.reduceSub, List.length_map]
    refine OG.splitN (fun hb => ?_) (fun hb => ?_) <;> simp -implicitDefEqProofs only [hb, go_sem, List.reduceReplicate, Nat.reduceAdd, Nat.reduceSub, Nat.reduceLT, Nat.reduceLeDiff, Nat.reduceMul, Nat.reduceEqDiff, reduceCtorEq, Int.reduceLE, Int.reduceLT, Int.reduceEq, Int.reduceNe, Int.reduceBEq, Int.reduceBNe, Int.reduceAdd, Int.reduceSub, List.length_map]
    · refine Fini.ret' rfl (bo_congr ?_)
      simp [pcheck, hb]
    refine C.split (fun hc => ?_) (fun hc => ?_) <;> simp -implicitDefEqProofs only [hc, go_sem, List.reduceReplicate, Nat.reduceAdd, Nat.reduceSub, Nat.reduceLT, Nat.reduceLeDiff, Nat.reduceMul, Nat.reduceEqDiff, reduceCtorEq, Int.reduceLE, Int.reduceLT, Int.reduceEq, Int.reduceNe, Int.reduceBEq, Int.reduceBNe, Int.reduceAdd, Int.reduceSub, List.length_map]
    · refine Fini.ret' rfl (bo_congr ?_)
      simp [pcheck, hb, hc]
    have hb' : 1 ≤ ys.length := by simp at hb; omega
    have hc' : ys.length ≤ 40 := by simp at hc; omega
    have e1 : IntKind.i64.wrap ((ys.length : Int) - 1) = ((ys.length - 1 : Nat) : Int) := by rw [wrapN (by omega) (by omega)]; omega
    have e2 : (0 : Int) ≤ ((ys.length - 1 : Nat) : Int) := by omega
    have e3 : ((ys.length - 1 : Nat) : Int) ≤ ys.length := by omega
    have e4 : (ys.map Stp.av)[ys.length - 1]? = some (ys[ys.length - 1]'(by omega)).av := by rw [List.getElem?_map, List.getElem?_eq_getElem (by omega)]; rfl
    have e5 : ys[ys.length - 1]? = some (ys[ys.length - 1]'(by omega)) := List.getElem?_eq_getElem (by omega)
    simp -implicitDefEqProofs only [e1, e2, e3, e4, go_sem, List.reduceReplicate, Nat.reduceAdd, Nat.reduceSub, Nat.reduceLT, Nat.reduceLeDiff, Nat.reduceMul, Nat.reduceEqDiff, reduceCtorEq, Int.reduceLE, Int.reduceLT, Int.reduceEq, Int.reduceNe, Int.reduceBEq, Int.reduceBNe, Int.reduceAdd, Int.reduceSub, List.length_map]
    rw [← List.map_take]
    refine CD.intro (scontains_ans σ (ys.take (ys.length - 1)) 114 [] _ (fun s => !rightS s ys.length false) (fun s => right1_ans σ _ ys rfl s) (by simp; omega)) ?_
    simp -implicitDefEqProofs only [e1, e2, e3, e4, go_sem, List.reduceReplicate, Nat.reduceAdd, Nat.reduceSub, Nat.reduceLT, Nat.reduceLeDiff, Nat.reduceMul, Nat.reduceEqDiff, reduceCtorEq, Int.reduceLE, Int.reduceLT, Int.reduceEq, Int.reduceNe, Int.reduceBEq, Int.reduceBNe, Int.reduceAdd, Int.reduceSub, List.length_map]
    refine DG.split (fun hd => ?_) (fun hd => ?_) <;> simp -implicitDefEqProofs only [hd, e1, e2, e3, e4, go_sem, List.reduceReplicate, Nat.reduceAdd, Nat.reduceSub, Nat.reduceLT, Nat.reduceLeDiff, Nat.reduceMul, Nat.reduceEqDiff, reduceCtorEq, Int.reduceLE, Int.reduceLT, Int.reduceEq, Int.reduceNe, Int.reduceBEq, Int.reduceBNe, Int.reduceAdd, Int.reduceSub, List.length_map, Stp.av]
    · refine CD.intro (right_ans σ (ys[ys.length - 1]'(by omega)) _ _) ?_
      simp -implicitDefEqProofs only [go_sem, List.reduceReplicate, Nat.reduceAdd, Nat.reduceSub, Nat.reduceLT, Nat.reduceLeDiff, Nat.reduceMul, Nat.reduceEqDiff, reduceCtorEq, Int.reduceLE, Int.reduceLT, Int.reduceEq, Int.reduceNe, Int.reduceBEq, Int.reduceBNe, Int.reduceAdd, Int.reduceSub]
      refine Fini.ret' rfl (bo_congr ?_)
      rw [pcheck, hb, hc, hd, e5]
      simp
    · refine Fini.ret' rfl (bo_congr ?_)
      rw [pcheck, hb, hc, hd]
      simp
end
end Go.Proofs.Ytoadgajhkhejiaa
namespace Go.Proofs.Ytoadgajhkhejiaa
open Go Go.Ab
set_option maxRecDepth 100000
abbrev W (b : BitVec 64) : AV := U (b.toNat : Int)
def bitW (i : Nat) : BitVec 64 := BitVec.twoPow 64 i
theorem wrapW (b : BitVec 64) : IntKind.u64.wrap (b.toNat : Int) = (b.toNat : Int) := by
  have := b.isLt
  simp only [IntKind.wrap, IntKind.bits, IntKind.signed]; simp; omega
theorem ofIntW (b : BitVec 64) : BitVec.ofInt 64 (b.toNat : Int) = b := by simp
theorem W_or (a b : BitVec 64) : IntKind.u64.wrap (BitVec.ofInt IntKind.u64.bits (a.toNat : Int) ||| BitVec.ofInt IntKind.u64.bits (b.toNat : Int)).toNat = ((a ||| b).toNat : Int) := by
  show IntKind.u64.wrap (((BitVec.ofInt 64 (a.toNat : Int) ||| BitVec.ofInt 64 (b.toNat : Int)).toNat : Nat) : Int) = _
  rw [ofIntW, ofIntW, wrapW]
theorem W_bit (i : Nat) (h : i < 64) : IntKind.u64.wrap (1 * 2 ^ (min ((i : Int)).toNat IntKind.u64.bits)) = ((bitW i).toNat : Int) := by
  rw [Int.toNat_natCast, show min i IntKind.u64.bits = i from Nat.min_eq_left (Nat.le_of_lt h), Int.one_mul, bitW, BitVec.toNat_twoPow_of_lt h]
  have : (2 : Nat) ^ i < 2 ^ 64 := Nat.pow_lt_pow_right (by omega) h
  have e : ((2 : Int) ^ i) = (((2 : Nat) ^ i : Nat) : Int) := by simp
  rw [e]
  generalize (2 : Nat) ^ i = n at this ⊢
  simp only [IntKind.wrap, IntKind.bits, IntKind.signed]; simp; omega
theorem W_get (b : BitVec 64) (i : Nat) (h : i < 64) : (IntKind.u64.wrap (BitVec.ofInt IntKind.u64.bits ((b.toNat : Int).fdiv (2 ^ (min ((i : Int)).toNat IntKind.u64.bits))) &&& BitVec.ofInt IntKind.u64.bits 1).toNat == 1) = b.getLsbD i := by
  rw [Int.toNat_natCast, show min i IntKind.u64.bits = i from Nat.min_eq_left (Nat.le_of_lt h)]
  have e1 : (b.toNat : Int).fdiv (2 ^ i) = ((b >>> i).toNat : Int) := by
    rw [BitVec.toNat_ushiftRight, Nat.shiftRight_eq_div_pow, Int.fdiv_eq_ediv_of_nonneg _ (Int.pow_nonneg (by omega))]
    simp
  show (IntKind.u64.wrap (((BitVec.ofInt 64 ((b.toNat : Int).fdiv (2 ^ i)) &&& BitVec.ofInt 64 1).toNat : Nat) : Int) == 1) = _
  rw [e1, ofIntW, show BitVec.ofInt 64 1 = 1#64 from rfl, wrapW, Bool.eq_iff_iff, beq_iff_eq]
  have e2 : ((b >>> i) &&& 1#64).toNat = (b.getLsbD i).toNat := by
    rw [BitVec.toNat_and, BitVec.toNat_ushiftRight]
    show b.toNat >>> i &&& 1 = _
    rw [Nat.and_one_is_mod, BitVec.getLsbD, Nat.testBit, Nat.and_comm, Nat.and_one_is_mod]
    rcases Nat.mod_two_eq_zero_or_one (b.toNat >>> i) with h | h <;> rw [h] <;> rfl
  rw [e2]
  cases b.getLsbD i <;> simp
def pcome (ys : List Stp) : Nat → Nat → BitVec 64 → BitVec 64 × BitVec 64
  | 0, _, been => (0, been)
  | f + 1, at_, been => if been.getLsbD at_ then (0, been) else
    match ys[at_]? with
    | none => (0, been)
    | some s => if s.op == 2 then
        ((pcome ys f s.x.toNat (been ||| bitW at_)).1 ||| (pcome ys f s.y.toNat (pcome ys f s.x.toNat (been ||| bitW at_)).2).1, (pcome ys f s.y.toNat (pcome ys f s.x.toNat (been ||| bitW at_)).2).2)
      else if s.op == 3 then pcome ys f s.x.toNat (been ||| bitW at_)
      else (bitW at_, been ||| bitW at_)
theorem or_ge (a b : BitVec 64) : a.toNat ≤ (a ||| b).toNat := by rw [BitVec.toNat_or]; exact Nat.left_le_or
theorem or_gt (a : BitVec 64) (i : Nat) (hi : i < 64) (h : a.getLsbD i = false) : a.toNat < (a ||| bitW i).toNat := by
  refine Nat.lt_of_le_of_ne (or_ge _ _) fun e => ?_
  have e' : a = a ||| bitW i := BitVec.eq_of_toNat_eq e
  have := congrArg (·.getLsbD i) e'
  rw [BitVec.getLsbD_or, h] at this
  simp [bitW, BitVec.getLsbD_twoPow, hi] at this
theorem pcome_ge (ys : List Stp) : ∀ (f at_ : Nat) (b : BitVec 64), b.toNat ≤ (pcome ys f at_ b).2.toNat
  | 0, _, _ => Nat.le_refl _
  | f + 1, at_, b => by
    rw [pcome]; split
    · exact Nat.le_refl _
    · split
      · exact Nat.le_refl _
      · have h0 := or_ge b (bitW at_)
        split
        · exact Nat.le_trans h0 (Nat.le_trans (pcome_ge ys f _ _) (pcome_ge ys f _ _))
        · split
          · exact Nat.le_trans h0 (pcome_ge ys f _ _)
          · exact h0
def stepIn (n : Nat) (s : Stp) : Prop := (s.op = 2 → (0 ≤ s.x ∧ s.x < n) ∧ (0 ≤ s.y ∧ s.y < n)) ∧ (s.op = 3 → 0 ≤ s.x ∧ s.x < n)
def stepsIn (ys : List Stp) : Prop := ∀ s ∈ ys, stepIn ys.length s
theorem right_in {s : Stp} {n : Nat} {last : Bool} (h : rightS s n last = true) : stepIn n s := by
  unfold rightS at h
  split at h
  · cases h
  split at h
  · rename_i h1; have h1 : s.op = 1 := by simpa using h1
    exact ⟨fun e => by omega, fun e => by omega⟩
  split at h
  · rename_i h1; have h1 : s.op = 2 := by simpa using h1
    simp only [inR, Bool.and_eq_true, decide_eq_true_eq] at h
    exact ⟨fun _ => h, fun e => by omega⟩
  split at h
  · rename_i h1; have h1 : s.op = 3 := by simpa using h1
    simp only [inR, Bool.and_eq_true, decide_eq_true_eq] at h
    exact ⟨fun e => by omega, fun _ => h.1⟩
  · rename_i h1 h2
    exact ⟨fun e => by simp [e] at h1, fun e => by simp [e] at h2⟩
theorem check_in {ys : List Stp} (h : pcheck ys = true) : stepsIn ys ∧ 1 ≤ ys.length ∧ ys.length ≤ 40 := by
  unfold pcheck at h
  split at h
  · cases h
  split at h
  · cases h
  rename_i h1 h2
  simp only [decide_eq_true_eq, Bool.not_eq_true] at h1 h2
  have h1' : 1 ≤ ys.length := by omega
  have h2' : ys.length ≤ 40 := by omega
  refine ⟨?_, h1', h2'⟩
  rw [List.getElem?_eq_getElem (show ys.length - 1 < ys.length by omega)] at h
  simp only [Bool.and_eq_true, Bool.not_eq_true', List.any_eq_false, Bool.not_eq_false] at h
  intro s hs
  obtain ⟨i, hi, rfl⟩ := List.getElem_of_mem hs
  by_cases he : i = ys.length - 1
  · subst he
    exact right_in h.2
  · have := h.1 (ys[i]) (by
      rw [List.mem_take_iff_getElem]
      exact ⟨i, by omega, rfl⟩)
    exact right_in (by simpa using this)
end Go.Proofs.Ytoadgajhkhejiaa
namespace Go.Proofs.Ytoadgajhkhejiaa
open Go Go.Ab
set_option maxRecDepth 100000
theorem qG {σ : St} {p : Nat} (hp : p < σ.length) (o : Ob) (ex : St) : (σ.set p o ++ ex)[p]? = some o := by
  rw [List.getElem?_append_left (by simpa using hp)]; simp [hp]
theorem qS {σ : St} {p : Nat} (hp : p < σ.length) (o o' : Ob) (ex : St) : (σ.set p o ++ ex).set p o' = σ.set p o' ++ ex := by
  rw [List.set_append_left _ _ (by simpa using hp), List.set_set]
theorem qG0 {σ : St} {p : Nat} (hp : p < σ.length) (o : Ob) : (σ.set p o)[p]? = some o := by simp [hp]
theorem qS0 {σ : St} {p : Nat} (o o' : Ob) : (σ.set p o).set p o' = σ.set p o' := by simp
theorem qL (σ : St) (p : Nat) (o x : Ob) (ex : St) : (σ.set p o ++ x :: ex)[σ.length]? = some x := by
  rw [List.getElem?_append_right (by simp)]; simp
theorem qLs (σ : St) (p : Nat) (o x y : Ob) (ex : St) : (σ.set p o ++ x :: ex).set σ.length y = σ.set p o ++ y :: ex := by
  rw [List.set_append_right _ _ (by simp)]; simp
theorem bel_wbox {σ : St} {p : Nat} {b : BitVec 64} (h : ∀ o ∈ σ.set p (.box [W b]), BelO (σ.set p (.box [W b])).length o) (b' : BitVec 64) :
    ∀ o ∈ σ.set p (.box [W b']), BelO (σ.set p (.box [W b'])).length o := by
  have e : σ.set p (.box [W b']) = (σ.set p (.box [W b])).set p (.box [W b']) := by rw [List.set_set]
  have el : (σ.set p (.box [W b'])).length = (σ.set p (.box [W b])).length := by simp
  rw [el, e]
  refine bel_set h fun x hx => ?_
  simp only [List.mem_cons, List.not_mem_nil, or_false] at hx
  subst hx; exact .pl _
theorem come_ans (ys : List Stp) (hin : stepsIn ys) (hl : ys.length ≤ 40) : ∀ (f at_ : Nat) (b : BitVec 64) (σ : St) (p : Nat), p < σ.length → 2 ^ 64 < b.toNat + f → at_ < ys.length →
    Ans Try.prog 116 [.sl 7 (ys.map Stp.av), I at_, .ptr p 0] (σ.set p (.box [W b])) (W (pcome ys f at_ b).1) (σ.set p (.box [W (pcome ys f at_ b).2]))
  | 0, at_, b, σ, p, hp, hf, ha => by have := b.isLt; omega
  | f + 1, at_, b, σ, p, hp, hf, ha => by
    have h64 : at_ < 64 := by omega
    refine Ans.of_run' t116 (fun hbel _ => ?_)
    have e1 := W_bit at_ h64
    have e2 := W_or b (bitW at_)
    simp -implicitDefEqProofs only [go_sem, List.reduceReplicate, Nat.reduceAdd, Nat.reduceSub, Nat.reduceLT, Nat.reduceLeDiff, Nat.reduceMul, Nat.reduceEqDiff, reduceCtorEq, Int.reduceLE, Int.reduceLT, Int.reduceEq, Int.reduceNe, Int.reduceBEq, Int.reduceBNe, Int.reduceAdd, Int.reduceSub] at e1 e2
    simp -implicitDefEqProofs only [c116, r116, go_sem, List.reduceReplicate, Nat.reduceAdd, Nat.reduceSub, Nat.reduceLT, Nat.reduceLeDiff, Nat.reduceMul, Nat.reduceEqDiff, reduceCtorEq, Int.reduceLE, Int.reduceLT, Int.reduceEq, Int.reduceNe, Int.reduceBEq, Int.reduceBNe, Int.reduceAdd, Int.reduceSub, qG0 hp]
    rw [pcome]
    refine C.split (fun hb => ?_) (fun hb => ?_)
    · have hb' : b.getLsbD at_ = true := (W_get b at_ h64).symm.trans hb
      rw [hb']
      simp -implicitDefEqProofs only [go_sem, List.reduceReplicate, Nat.reduceAdd, Nat.reduceSub, Nat.reduceLT, Nat.reduceLeDiff, Nat.reduceMul, Nat.reduceEqDiff, reduceCtorEq, Int.reduceLE, Int.reduceLT, Int.reduceEq, Int.reduceNe, Int.reduceBEq, Int.reduceBNe, Int.reduceAdd, Int.reduceSub]
      exact Fini.ret rfl
    · have hb' : b.getLsbD at_ = false := (W_get b at_ h64).symm.trans hb
      have hget : (ys.map Stp.av)[at_]? = some (ys[at_]'ha).av := by simp [ha]
      have hy : ys[at_]? = some (ys[at_]'ha) := List.getElem?_eq_getElem ha
      rw [hy, hb']
      have hs := hin _ (List.getElem_mem ha)
      have hgt := or_gt b at_ h64 hb'
      generalize hse : ys[at_] = s at hget hs ⊢
      simp -implicitDefEqProofs only [go_sem, List.reduceReplicate, Nat.reduceAdd, Nat.reduceSub, Nat.reduceLT, Nat.reduceLeDiff, Nat.reduceMul, Nat.reduceEqDiff, reduceCtorEq, Int.reduceLE, Int.reduceLT, Int.reduceEq, Int.reduceNe, Int.reduceBEq, Int.reduceBNe, Int.reduceAdd, Int.reduceSub, qG0 hp, qS0, e1, e2, hget, Stp.av, List.length_set, qL, qLs, qG hp, qS hp, List.drop_nil]
      have rec' : ∀ (a : Nat) (b' : BitVec 64) (ex : St), (b ||| bitW at_).toNat ≤ b'.toNat → a < ys.length →
          Ans Try.prog 116 [.sl 7 (ys.map Stp.av), I a, .ptr p 0] (σ.set p (.box [W b']) ++ ex) (W (pcome ys f a b').1) (σ.set p (.box [W (pcome ys f a b').2]) ++ ex) := fun a b' ex h1 h2 => by
        have := come_ans ys hin hl f a b' (σ.set p (.box [W b']) ++ ex) p (by simp; omega) (by omega) h2
        simpa only [qS hp] using this
      have recI : ∀ (x : Int) (b' : BitVec 64) (ex : St), (b ||| bitW at_).toNat ≤ b'.toNat → 0 ≤ x → x < ys.length →
          Ans Try.prog 116 [.sl 7 (ys.map Stp.av), I x, .ptr p 0] (σ.set p (.box [W b']) ++ ex) (W (pcome ys f x.toNat b').1) (σ.set p (.box [W (pcome ys f x.toNat b').2]) ++ ex) := fun x b' ex h1 h2 h3 => by
        have := rec' x.toNat b' ex h1 (by omega)
        rwa [Int.toNat_of_nonneg h2] at this
      have fin : ∀ (r b' : BitVec 64) (env : Env) (ex : St), resA env (σ.set p (.box [W b']) ++ ex) [.tmp 6] = some (W r) →
          Fini σ.length [.tmp 6] (W r) (σ.set p (.box [W b'])) .ret env (σ.set p (.box [W b']) ++ ex) := fun r b' env ex h =>
        Fini.trim2 (σ' := σ.set p (.box [W b'])) (ex := ex) h rfl (by simp) (.pl _) (bel_wbox hbel _)
      refine C.split (fun h2 => ?_) (fun h2 => ?_)
      · have h2' : s.op = 2 := by simpa using h2
        have hx := hs.1 h2'
        have g1 := pcome_ge ys f s.x.toNat (b ||| bitW at_)
        rw [h2]
        simp -implicitDefEqProofs only [go_sem, List.reduceReplicate, Nat.reduceAdd, Nat.reduceSub, Nat.reduceLT, Nat.reduceLeDiff, Nat.reduceMul, Nat.reduceEqDiff, reduceCtorEq, Int.reduceLE, Int.reduceLT, Int.reduceEq, Int.reduceNe, Int.reduceBEq, Int.reduceBNe, Int.reduceAdd, Int.reduceSub, h2, qL, qG hp]
        refine CD.intro (recI s.x _ _ (Nat.le_refl _) hx.1.1 hx.1.2) ?_
        simp -implicitDefEqProofs only [go_sem, List.reduceReplicate, Nat.reduceAdd, Nat.reduceSub, Nat.reduceLT, Nat.reduceLeDiff, Nat.reduceMul, Nat.reduceEqDiff, reduceCtorEq, Int.reduceLE, Int.reduceLT, Int.reduceEq, Int.reduceNe, Int.reduceBEq, Int.reduceBNe, Int.reduceAdd, Int.reduceSub, qL, qG hp, List.take]
        refine CD.intro (recI s.y _ _ g1 hx.2.1 hx.2.2) ?_
        have e3 := W_or (pcome ys f s.x.toNat (b ||| bitW at_)).1 (pcome ys f s.y.toNat (pcome ys f s.x.toNat (b ||| bitW at_)).2).1
        simp -implicitDefEqProofs only [go_sem, List.reduceReplicate, Nat.reduceAdd, Nat.reduceSub, Nat.reduceLT, Nat.reduceLeDiff, Nat.reduceMul, Nat.reduceEqDiff, reduceCtorEq, Int.reduceLE, Int.reduceLT, Int.reduceEq, Int.reduceNe, Int.reduceBEq, Int.reduceBNe, Int.reduceAdd, Int.reduceSub] at e3
        simp -implicitDefEqProofs only [go_sem, List.reduceReplicate, Nat.reduceAdd, Nat.reduceSub, Nat.reduceLT, Nat.reduceLeDiff, Nat.reduceMul, Nat.reduceEqDiff, reduceCtorEq, Int.reduceLE, Int.reduceLT, Int.reduceEq, Int.reduceNe, Int.reduceBEq, Int.reduceBNe, Int.reduceAdd, Int.reduceSub, qL, qG hp, e3, List.take]
        exact fin _ _ _ _ rfl
      · simp -implicitDefEqProofs only [go_sem, List.reduceReplicate, Nat.reduceAdd, Nat.reduceSub, Nat.reduceLT, Nat.reduceLeDiff, Nat.reduceMul, Nat.reduceEqDiff, reduceCtorEq, Int.reduceLE, Int.reduceLT, Int.reduceEq, Int.reduceNe, Int.reduceBEq, Int.reduceBNe, Int.reduceAdd, Int.reduceSub, h2, qL, qG hp]
        refine C.split (fun h3 => ?_) (fun h3 => ?_)
        · have h3' : s.op = 3 := by simpa using h3
          have hx := hs.2 h3'
          simp -implicitDefEqProofs only [go_sem, List.reduceReplicate, Nat.reduceAdd, Nat.reduceSub, Nat.reduceLT, Nat.reduceLeDiff, Nat.reduceMul, Nat.reduceEqDiff, reduceCtorEq, Int.reduceLE, Int.reduceLT, Int.reduceEq, Int.reduceNe, Int.reduceBEq, Int.reduceBNe, Int.reduceAdd, Int.reduceSub, h3, qL, qG hp]
          refine CO.intro (recI s.x _ _ (Nat.le_refl _) hx.1 hx.2) ?_
          simp -implicitDefEqProofs only [go_sem, List.reduceReplicate, Nat.reduceAdd, Nat.reduceSub, Nat.reduceLT, Nat.reduceLeDiff, Nat.reduceMul, Nat.reduceEqDiff, reduceCtorEq, Int.reduceLE, Int.reduceLT, Int.reduceEq, Int.reduceNe, Int.reduceBEq, Int.reduceBNe, Int.reduceAdd, Int.reduceSub]
          exact fin _ _ _ _ rfl
        · simp -implicitDefEqProofs only [go_sem, List.reduceReplicate, Nat.reduceAdd, Nat.reduceSub, Nat.reduceLT, Nat.reduceLeDiff, Nat.reduceMul, Nat.reduceEqDiff, reduceCtorEq, Int.reduceLE, Int.reduceLT, Int.reduceEq, Int.reduceNe, Int.reduceBEq, Int.reduceBNe, Int.reduceAdd, Int.reduceSub, h3, e1, qL, qG hp]
          exact fin _ _ _ _ rfl
end Go.Proofs.Ytoadgajhkhejiaa
namespace Go.Proofs.Ytoadgajhkhejiaa
open Go Go.Ab
set_option maxRecDepth 100000
namespace Rex
mutual
def lay : Nat → Rex → List Stp
  | n, .mk op a b c d ks =>
    if op == 1 then [⟨1, a, b, c, d, 0, 0⟩]
    else if op == 2 then layL n ks
    else if op == 3 then layW n ((n + (layW n 0 ks).length : Nat) : Int) ks
    else if op == 4 then ⟨2, 0, 0, 0, 0, (n : Int) + 1, ((n + 2 + (layH (n + 1) ks).length : Nat) : Int)⟩ :: (layH (n + 1) ks ++ [⟨3, 0, 0, 0, 0, (n : Int), 0⟩])
    else if op == 5 then layH n ks ++ [⟨2, 0, 0, 0, 0, (n : Int), ((n + (layH n ks).length : Nat) : Int) + 1⟩]
    else if op == 6 then ⟨2, 0, 0, 0, 0, (n : Int) + 1, ((n + 1 + (layH (n + 1) ks).length : Nat) : Int)⟩ :: layH (n + 1) ks
    else []
def layL : Nat → List Rex → List Stp
  | _, [] => []
  | n, x :: xs => lay n x ++ layL (n + (lay n x).length) xs
def layH : Nat → List Rex → List Stp
  | _, [] => []
  | n, x :: _ => lay n x
def layW : Nat → Int → List Rex → List Stp
  | _, _, [] => []
  | n, fin, x :: xs => if xs.isEmpty then lay n x else
      ⟨2, 0, 0, 0, 0, (n : Int) + 1, ((n + 2 + (lay (n + 1) x).length : Nat) : Int)⟩ :: (lay (n + 1) x ++ (⟨3, 0, 0, 0, 0, fin, 0⟩ :: layW (n + 2 + (lay (n + 1) x).length) fin xs))
end
theorem lay_eq (n : Nat) (x : Rex) : lay n x = (if x.op == 1 then [⟨1, x.a, x.b, x.c, x.d, 0, 0⟩]
    else if x.op == 2 then layL n x.ks
    else if x.op == 3 then layW n ((n + (layW n 0 x.ks).length : Nat) : Int) x.ks
    else if x.op == 4 then ⟨2, 0, 0, 0, 0, (n : Int) + 1, ((n + 2 + (layH (n + 1) x.ks).length : Nat) : Int)⟩ :: (layH (n + 1) x.ks ++ [⟨3, 0, 0, 0, 0, (n : Int), 0⟩])
    else if x.op == 5 then layH n x.ks ++ [⟨2, 0, 0, 0, 0, (n : Int), ((n + (layH n x.ks).length : Nat) : Int) + 1⟩]
    else if x.op == 6 then ⟨2, 0, 0, 0, 0, (n : Int) + 1, ((n + 1 + (layH (n + 1) x.ks).length : Nat) : Int)⟩ :: layH (n + 1) x.ks
    else []) := by
  cases x; simp only [lay]; rfl
theorem is_kid {x k : Rex} (h : x.is = true) (hk : k ∈ x.ks) : k.is = true := by
  rw [is_eq] at h
  have key : (plain x && !(x.ks.any fun k => !k.is)) = true → k.is = true := by
    intro h
    simp only [Bool.and_eq_true, Bool.not_eq_true', List.any_eq_false] at h
    simpa using h.2 k hk
  split at h
  · simp at h; rw [h] at hk; cases hk
  · (repeat' split at h) <;> first | exact key h | cases h
theorem is_one_kid {x : Rex} (h : x.is = true) (ho : x.op = 4 ∨ x.op = 5 ∨ x.op = 6) : ∃ k, x.ks = [k] := by
  rw [is_eq] at h
  have key : ¬ ((x.ks.length : Int) != 1) = true → ∃ k, x.ks = [k] := by
    intro h
    simp at h
    match hk : x.ks with
    | [k] => exact ⟨k, rfl⟩
    | [] => rw [hk] at h; simp at h
    | _ :: _ :: _ => rw [hk] at h; simp at h; omega
  rcases ho with ho | ho | ho <;> rw [ho] at h <;> simp at h <;> exact key (by simp; exact_mod_cast h.1)
theorem is_some_kid {x : Rex} (h : x.is = true) (ho : x.op = 3) : x.ks ≠ [] := by
  rw [is_eq, ho] at h
  intro hk
  rw [hk] at h
  simp at h
theorem is_ops {x : Rex} (h : x.is = true) : x.op = 1 ∨ x.op = 2 ∨ x.op = 3 ∨ x.op = 4 ∨ x.op = 5 ∨ x.op = 6 := by
  rw [is_eq] at h
  by_cases h1 : x.op = 1; · exact .inl h1
  by_cases h2 : x.op = 2; · exact .inr (.inl h2)
  by_cases h3 : x.op = 3; · exact .inr (.inr (.inl h3))
  by_cases h4 : x.op = 4; · simp [h4]
  by_cases h5 : x.op = 5; · simp [h5]
  by_cases h6 : x.op = 6; · simp [h6]
  simp [h1, h2, h3, h4, h5, h6] at h
theorem lay_len (n : Nat) (x : Rex) (h : x.is = true) : ((lay n x).length : Int) = x.size := by
  have hL : ∀ (l : List Rex), (∀ k ∈ l, k ∈ x.ks) → ∀ n, ((layL n l).length : Int) = sizeL l := by
    intro l
    induction l with
    | nil => intro _ n; simp [layL, sizeL]
    | cons k l ih =>
      intro hl n
      have h1 := lay_len n k (is_kid h (hl k (by simp)))
      have h2 := ih (fun k hk => hl k (by simp [hk])) (n + (lay n k).length)
      simp only [layL, sizeL, List.length_append]
      omega
  have hW : ∀ (l : List Rex), (∀ k ∈ l, k ∈ x.ks) → ∀ n fin, l ≠ [] → ((layW n fin l).length : Int) = sizeL l + 2 * ((l.length : Int) - 1) := by
    intro l
    induction l with
    | nil => intro _ n fin h; exact absurd rfl h
    | cons k l ih =>
      intro hl n fin _
      cases l with
      | nil =>
        have h1 := lay_len n k (is_kid h (hl k (by simp)))
        simp only [layW, sizeL, List.isEmpty_nil, if_true, List.length_singleton]
        omega
      | cons k' l =>
        have h1 := lay_len (n + 1) k (is_kid h (hl k (by simp)))
        have h2 := ih (fun k hk => hl k (by simp [hk])) (n + 2 + (lay (n + 1) k).length) fin (by simp)
        rw [layW]
        simp only [List.isEmpty_cons, Bool.false_eq_true, if_false, List.length_cons, List.length_append]
        rw [sizeL]
        simp only [List.length_cons] at h2
        omega
  have hH : ∀ k, x.ks = [k] → ∀ n, ((layH n x.ks).length : Int) = sizeL x.ks := by
    intro k hk n
    rw [hk]
    have h1 := lay_len n k (is_kid h (by rw [hk]; simp))
    simp only [layH, sizeL]; omega
  rw [lay_eq, size_eq]
  rcases is_ops h with h1 | h1 | h1 | h1 | h1 | h1
  · simp [h1]
  · simp [h1]; exact hL x.ks (fun _ h => h) n
  · simp [h1]; exact hW x.ks (fun _ h => h) n _ (is_some_kid h h1)
  · obtain ⟨k, hk⟩ := is_one_kid h (.inl h1)
    have := hH k hk (n + 1)
    simp [h1]; omega
  · obtain ⟨k, hk⟩ := is_one_kid h (.inr (.inl h1))
    have := hH k hk n
    simp [h1]; omega
  · obtain ⟨k, hk⟩ := is_one_kid h (.inr (.inr h1))
    have := hH k hk (n + 1)
    simp [h1]; omega
termination_by SizeOf.sizeOf x
decreasing_by
  · exact lt_of_mem (hl k (by simp))
  · exact lt_of_mem (hl k (by simp))
  · exact lt_of_mem (hl k (by simp))
  · exact lt_of_mem (by rw [hk]; simp)
end Rex
end Go.Proofs.Ytoadgajhkhejiaa
namespace Go.Proofs.Ytoadgajhkhejiaa
open Go Go.Ab
set_option maxRecDepth 100000
open Rex
theorem get_mid (A E : St) (o : Ob) : (A ++ o :: E)[A.length]? = some o := by simp
theorem set_mid (A E : St) (o p : Ob) : (A ++ o :: E).set A.length p = A ++ p :: E := by simp
theorem CD.intro' {P : Program} {n0 : Nat} {k : List Fr} {B : Bs} {env : Env} {σ σ₀ σ' : St} {S : List St} {ob : List St → Prop} {f : FuncId} {args args₀ : List AV} {d : Option Tmp} {l : List DOper} {r : AV} (h : Ans P f args₀ σ₀ r σ') (ha : args = args₀) (hs : σ = σ₀)
    (h' : D P n0 l k B (putA env d r) (S ++ [σ']) σ' ob) : CD P n0 f args d l k B env S σ ob := by subst ha; subst hs; exact CD.intro h h'
def rowV (k : Nat) (L : List AV) : AV := if L.isEmpty then .nils else .osl k L.length
def rowS (sz : Nat) (A : St) (L : List AV) (E : St) : St := if L.isEmpty then A ++ E else A ++ .row sz L :: E
theorem rowV_nil (k : Nat) : rowV k [] = .nils := rfl
theorem rowS_nil (sz : Nat) (A : St) : rowS sz A [] [] = A := by simp [rowS]
theorem rowV_ne {k : Nat} {L : List AV} (h : L ≠ []) : rowV k L = .osl k L.length := by simp [rowV, h]
theorem rowS_ne {sz : Nat} {A E : St} {L : List AV} (h : L ≠ []) : rowS sz A L E = A ++ .row sz L :: E := by simp [rowS, h]
abbrev sv (l : List Stp) : List AV := l.map Stp.av
theorem sv_ne {l : List Stp} (h : l ≠ []) : sv l ≠ [] := by simpa [sv] using h
def Lays (x : Rex) : Prop := ∀ (ls : List Stp) (A E : St), (ls = [] → E = []) → (ls.length : Int) + x.size ≤ 1000 →
  Ans Try.prog 112 [rowV A.length (sv ls), x.av] (rowS 7 A (sv ls) E) (rowV A.length (sv (ls ++ lay ls.length x))) (rowS 7 A (sv (ls ++ lay ls.length x)) E)
theorem Lays.own {x : Rex} (h : Lays x) (ls : List Stp) (A E : St) (hne : ls ≠ []) (hb : (ls.length : Int) + x.size ≤ 1000) :
    Ans Try.prog 112 [.osl A.length ls.length, x.av] (A ++ .row 7 (sv ls) :: E) (.osl A.length (ls.length + (lay ls.length x).length)) (A ++ .row 7 (sv (ls ++ lay ls.length x)) :: E) := by
  have := h ls A E (fun e => absurd e hne) hb
  rw [rowV_ne (sv_ne hne), rowS_ne (sv_ne hne), rowV_ne (sv_ne (by simp [hne])), rowS_ne (sv_ne (by simp [hne]))] at this
  simpa [sv] using this
theorem lays_set (x : Rex) (ho : x.op = 1) : Lays x := by
  intro ls A E hE hb
  have e1 : (ls.length + 1 ≤ 2 ^ 32) = True := by
    have : x.size = 1 := by rw [size_eq, ho]; rfl
    simp; omega
  rw [lay_eq, av_eq, ho]
  rcases Classical.em (ls = []) with rfl | hne
  · have := hE rfl; subst this
    rw [sv, List.map_nil, rowV_nil, rowS_nil]
    refine Ans.of_run t112 ?_
    simp -implicitDefEqProofs only [c112, r112, go_sem, List.reduceReplicate, Nat.reduceAdd, Nat.reduceSub, Nat.reduceLT, Nat.reduceLeDiff, Nat.reduceMul, Nat.reduceEqDiff, reduceCtorEq, Int.reduceLE, Int.reduceLT, Int.reduceEq, Int.reduceNe, Int.reduceBEq, Int.reduceBNe, Int.reduceAdd, Int.reduceSub]
    refine Fini.ret2 (n := 0) rfl ?_ ?_
    · simp [rowV, Stp.av]; rfl
    · simp [rowS, Stp.av, ho]
  · rw [rowV_ne (sv_ne hne), rowS_ne (sv_ne hne), rowV_ne (sv_ne (by simp [hne])), rowS_ne (sv_ne (by simp [hne]))]
    refine Ans.of_run t112 ?_
    simp -implicitDefEqProofs only [c112, r112, go_sem, List.reduceReplicate, Nat.reduceAdd, Nat.reduceSub, Nat.reduceLT, Nat.reduceLeDiff, Nat.reduceMul, Nat.reduceEqDiff, reduceCtorEq, Int.reduceLE, Int.reduceLT, Int.reduceEq, Int.reduceNe, Int.reduceBEq, Int.reduceBNe, Int.reduceAdd, Int.reduceSub, List.length_map, get_mid, set_mid, e1]
    refine Fini.ret2 (n := 0) rfl ?_ ?_
    · simp; rfl
    · simp [Stp.av]
def lenA (σ : St) (u : AV) : Option (AV × St) := aop (fun _ => u) σ (.lenv (.tmp 0))
theorem O_lenv {P : Program} {n0 : Nat} {k : List Fr} {B : Bs} {env : Env} {σ : St} {d : Option Tmp} {x : Operand} {l : List AOper} : O P n0 (⟨d, none, .prim (.lenv x)⟩ :: l) k B env σ = (match lenA σ (aev env x) with
    | some (r, σ') => O P n0 l k B (putA env d r) σ'
    | none => False) := by rw [O_prim]; rfl
theorem lenA_sl {σ : St} {sz : Nat} {xs : List AV} : lenA σ (.sl sz xs) = some (.pl (.int .i64 xs.length), σ) := rfl
theorem lenA_row {A E : St} (ls : List Stp) (hE : ls = [] → E = []) : lenA (rowS 7 A (sv ls) E) (rowV A.length (sv ls)) = some (.pl (.int .i64 ls.length), rowS 7 A (sv ls) E) := by
  rcases Classical.em (ls = []) with rfl | hne
  · rfl
  · rw [rowV_ne (sv_ne hne), rowS_ne (sv_ne hne)]
    simp [lenA, aop]
theorem layL_take (n : Nat) : ∀ (l : List Rex) (i : Nat) (hi : i < l.length), layL n (l.take (i + 1)) = layL n (l.take i) ++ lay (n + (layL n (l.take i)).length) l[i]
  | x :: xs, 0, hi => by simp [layL]
  | x :: xs, i + 1, hi => by
    have := layL_take (n + (lay n x).length) xs i (by simpa using hi)
    simp only [List.take_succ_cons, layL, List.getElem_cons_succ, List.append_assoc, this, List.length_append]
    rw [Nat.add_assoc]
theorem lays_seq (x : Rex) (ho : x.op = 2) (h : x.is = true) (ih : ∀ k ∈ x.ks, Lays k) (hl : x.ks.length ≤ 1000) : Lays x := by
  intro ls A E hE hb
  have hget : ∀ i (hi : i < x.ks.length), (x.ks.map av)[i]? = some (x.ks[i]).av := fun i hi => by simp [hi]
  have hsz : x.size = sizeL x.ks := by rw [size_eq, ho]; rfl
  have hnn : ∀ l : List Rex, (∀ k ∈ l, k.is = true) → 0 ≤ sizeL l := by
    intro l
    induction l with
    | nil => intro _; simp [sizeL]
    | cons k l ih =>
      intro hl
      have h1 := lay_len 0 k (hl k (by simp))
      have h2 := ih fun k hk => hl k (by simp [hk])
      simp only [sizeL]; omega
  have hlen : ∀ l : List Rex, (∀ k ∈ l, k.is = true) → ∀ n, ((layL n l).length : Int) = sizeL l := by
    intro l
    induction l with
    | nil => intro _ n; simp [layL, sizeL]
    | cons k l ih =>
      intro hl n
      have h1 := lay_len n k (hl k (by simp))
      have h2 := ih (fun k hk => hl k (by simp [hk])) (n + (lay n k).length)
      simp only [layL, sizeL, List.length_append]; omega
  have htake : ∀ i (hi : i < x.ks.length), sizeL (x.ks.take i) + (x.ks[i]).size ≤ sizeL x.ks := by
    intro i hi
    have e : x.ks = x.ks.take (i + 1) ++ x.ks.drop (i + 1) := by simp
    have h2 := hnn (x.ks.drop (i + 1)) fun k hk => is_kid h (List.mem_of_mem_drop hk)
    have h3 := sizeL_append (x.ks.take (i + 1)) (x.ks.drop (i + 1))
    rw [← e] at h3
    have h4 := sizeL_take x.ks i hi
    omega
  have hend : ls ++ lay ls.length x = ls ++ layL ls.length (x.ks.take x.ks.length) := by rw [lay_eq, ho, List.take_length]; rfl
  rw [hend, av_eq, ho]
  refine Ans.of_run t112 ?_
  simp -implicitDefEqProofs only [c112, r112, go_sem, List.reduceReplicate, Nat.reduceAdd, Nat.reduceSub, Nat.reduceLT, Nat.reduceLeDiff, Nat.reduceMul, Nat.reduceEqDiff, reduceCtorEq, Int.reduceLE, Int.reduceLT, Int.reduceEq, Int.reduceNe, Int.reduceBEq, Int.reduceBNe, Int.reduceAdd, Int.reduceSub, O_lenv, lenA_row ls hE, lenA_sl, List.length_map]
  refine L.count x.ks.length (fun i => mkE 99 [(0, rowV A.length (sv (ls ++ layL ls.length (x.ks.take i)))), (23, .sl 6 (x.ks.map av)), (24, I x.ks.length), (25, I i)]) (fun i => rowS 7 A (sv (ls ++ layL ls.length (x.ks.take i))) E) ?_ ?_ ?_ ?_
  · intro i hi J hJ
    have e1 : ((i : Int) < (x.ks.length : Nat)) = True := by simp; omega
    have e2 : IntKind.i64.wrap ((i : Int) + 1) = ((i + 1 : Nat) : Int) := by rw [wrapN (by omega) (by omega)]; rfl
    have hi1 := htake i hi
    have hi2 := hlen (x.ks.take i) (fun k hk => is_kid h (List.mem_of_mem_take hk)) ls.length
    simp -implicitDefEqProofs only [mkE, List.foldl_cons, List.foldl_nil, go_sem, List.reduceReplicate, Nat.reduceAdd, Nat.reduceSub, Nat.reduceLT, Nat.reduceLeDiff, Nat.reduceMul, Nat.reduceEqDiff, reduceCtorEq, Int.reduceLE, Int.reduceLT, Int.reduceEq, Int.reduceNe, Int.reduceBEq, Int.reduceBNe, Int.reduceAdd, Int.reduceSub, e1, hget i hi]
    rw [av_eq]
    simp -implicitDefEqProofs only [go_sem, List.reduceReplicate, Nat.reduceAdd, Nat.reduceSub, Nat.reduceLT, Nat.reduceLeDiff, Nat.reduceMul, Nat.reduceEqDiff, reduceCtorEq, Int.reduceLE, Int.reduceLT, Int.reduceEq, Int.reduceNe, Int.reduceBEq, Int.reduceBNe, Int.reduceAdd, Int.reduceSub]
    rw [← av_eq]
    refine CO.intro (ih x.ks[i] (List.getElem_mem hi) (ls ++ layL ls.length (x.ks.take i)) A E (fun e => hE (by simp at e; exact e.1)) (by rw [List.length_append]; omega)) ?_
    rw [List.append_assoc, List.length_append, ← layL_take]
    simp -implicitDefEqProofs only [go_sem, List.reduceReplicate, Nat.reduceAdd, Nat.reduceSub, Nat.reduceLT, Nat.reduceLeDiff, Nat.reduceMul, Nat.reduceEqDiff, reduceCtorEq, Int.reduceLE, Int.reduceLT, Int.reduceEq, Int.reduceNe, Int.reduceBEq, Int.reduceBNe, Int.reduceAdd, Int.reduceSub, e2]
    exact hJ
  · intro J
    have e1 : (((x.ks.length : Nat) : Int) < (x.ks.length : Nat)) = False := by simp
    simp -implicitDefEqProofs only [mkE, List.foldl_cons, List.foldl_nil, go_sem, List.reduceReplicate, Nat.reduceAdd, Nat.reduceSub, Nat.reduceLT, Nat.reduceLeDiff, Nat.reduceMul, Nat.reduceEqDiff, reduceCtorEq, Int.reduceLE, Int.reduceLT, Int.reduceEq, Int.reduceNe, Int.reduceBEq, Int.reduceBNe, Int.reduceAdd, Int.reduceSub, e1]
    exact Fini.ret rfl
  · simp [layL, mkE]
  · simp [layL]
end Go.Proofs.Ytoadgajhkhejiaa
namespace Go.Proofs.Ytoadgajhkhejiaa
open Go Go.Ab
set_option maxRecDepth 100000
open Rex
theorem size_kid {x k : Rex} (hk : x.ks = [k]) : sizeL x.ks = k.size := by rw [hk]; simp [sizeL]
theorem map_kid (k : Rex) : List.map av [k] = [.agg [I k.op, U k.a, U k.b, U k.c, U k.d, .sl 6 (k.ks.map av)]] := by rw [List.map_cons, List.map_nil, av_eq]
theorem row_intro {P : Program} {f : FuncId} {more : List AV} {ls M : List Stp} {A E : St} (hE : ls = [] → E = []) (hM : M ≠ [])
    (h1 : ls = [] → Ans P f (.nils :: more) A (.osl A.length M.length) (A ++ [.row 7 (sv M)]))
    (h2 : ls ≠ [] → Ans P f (.osl A.length ls.length :: more) (A ++ .row 7 (sv ls) :: E) (.osl A.length (ls.length + M.length)) (A ++ .row 7 (sv (ls ++ M)) :: E)) :
    Ans P f (rowV A.length (sv ls) :: more) (rowS 7 A (sv ls) E) (rowV A.length (sv (ls ++ M))) (rowS 7 A (sv (ls ++ M)) E) := by
  rw [rowV_ne (sv_ne (show ls ++ M ≠ [] by simp [hM])), rowS_ne (sv_ne (show ls ++ M ≠ [] by simp [hM]))]
  rcases Classical.em (ls = []) with rfl | hne
  · have := hE rfl
    subst this
    have := h1 rfl
    simpa [rowS, rowV, sv] using this
  · have := h2 hne
    rw [rowV_ne (sv_ne hne), rowS_ne (sv_ne hne)]
    simpa [sv] using this
theorem getm {α : Type} (f : α → AV) (l : List α) (a : AV) (M : List AV) : (l.map f ++ a :: M)[l.length]? = some a := by
  rw [List.getElem?_append_right (by simp)]; simp
theorem setm {α : Type} (f : α → AV) (l : List α) (a b : AV) (M : List AV) : (l.map f ++ a :: M).set l.length b = l.map f ++ b :: M := by
  rw [List.set_append_right _ _ (by simp)]; simp
theorem p32 : (1 ≤ 2 ^ 32) = True := by simp
theorem w1 : IntKind.i64.wrap 1 = 1 := by decide
theorem lays_plus (x k : Rex) (ho : x.op = 5) (hk : x.ks = [k]) (h : x.is = true) (ih : Lays k) : Lays x := by
  intro ls A E hE hb
  have hsz : x.size = k.size + 1 := by rw [size_eq, ho, size_kid hk]; rfl
  have hkl := lay_len ls.length k (is_kid h (by rw [hk]; simp))
  have hxl : lay ls.length x = lay ls.length k ++ [⟨2, 0, 0, 0, 0, ls.length, ((ls.length + (lay ls.length k).length : Nat) : Int) + 1⟩] := by rw [lay_eq, ho, hk]; rfl
  rw [hxl, av_eq, ho, hk, map_kid]
  have e3 : IntKind.i64.wrap (((ls.length + (lay ls.length k).length : Nat) : Int) + 1) = ((ls.length + (lay ls.length k).length : Nat) : Int) + 1 := wrapN (by omega) (by omega)
  have e4 : (ls.length + (lay ls.length k).length + 1 ≤ 2 ^ 32) = True := by simp; omega
  have e5 : (ls ++ lay ls.length k).length = ls.length + (lay ls.length k).length := List.length_append
  refine Ans.of_run t112 ?_
  simp -implicitDefEqProofs only [c112, r112, go_sem, List.reduceReplicate, Nat.reduceAdd, Nat.reduceSub, Nat.reduceLT, Nat.reduceLeDiff, Nat.reduceMul, Nat.reduceEqDiff, reduceCtorEq, Int.reduceLE, Int.reduceLT, Int.reduceEq, Int.reduceNe, Int.reduceBEq, Int.reduceBNe, Int.reduceAdd, Int.reduceSub, O_lenv, lenA_row ls hE, lenA_sl, List.length_map]
  refine CO.intro' (ih ls A E hE (by omega)) (by rw [av_eq]; rfl) rfl ?_
  rcases Classical.em (ls ++ lay ls.length k = []) with hne | hne
  · have hls : ls = [] := (List.append_eq_nil_iff.1 hne).1
    have hE' := hE hls
    subst hls; subst hE'
    have hk0 : lay 0 k = [] := by simpa using hne
    have hk1 : lay ([] : List Stp).length k = [] := hk0
    have e6 : IntKind.i64.wrap (0 + 1) = 1 := by decide
    have e6' : IntKind.i64.wrap 1 = 1 := by decide
    rw [hne, hk1]
    rw [sv, List.map_nil, rowV_nil, rowS_nil]
    simp -implicitDefEqProofs only [go_sem, List.reduceReplicate, Nat.reduceAdd, Nat.reduceSub, Nat.reduceLT, Nat.reduceLeDiff, Nat.reduceMul, Nat.reduceEqDiff, reduceCtorEq, Int.reduceLE, Int.reduceLT, Int.reduceEq, Int.reduceNe, Int.reduceBEq, Int.reduceBNe, Int.reduceAdd, Int.reduceSub, e6]
    refine Fini.ret2 (n := 0) rfl ?_ ?_
    · simp [rowV]; rfl
    · simp [rowS, Stp.av, e6']
  · have hne2 : ls ++ (lay ls.length k ++ [⟨2, 0, 0, 0, 0, ls.length, ((ls.length + (lay ls.length k).length : Nat) : Int) + 1⟩]) ≠ [] := by simp
    rw [rowV_ne (sv_ne hne), rowS_ne (sv_ne hne), rowV_ne (sv_ne hne2), rowS_ne (sv_ne hne2)]
    simp -implicitDefEqProofs only [go_sem, List.reduceReplicate, Nat.reduceAdd, Nat.reduceSub, Nat.reduceLT, Nat.reduceLeDiff, Nat.reduceMul, Nat.reduceEqDiff, reduceCtorEq, Int.reduceLE, Int.reduceLT, Int.reduceEq, Int.reduceNe, Int.reduceBEq, Int.reduceBNe, Int.reduceAdd, Int.reduceSub, List.length_map, get_mid, set_mid, e5, e3, e4]
    refine Fini.ret2 (n := 0) rfl ?_ ?_
    · simp; rfl
    · simp [Stp.av]
theorem lays_star (x k : Rex) (ho : x.op = 4) (hk : x.ks = [k]) (h : x.is = true) (ih : Lays k) : Lays x := by
  intro ls A E hE hb
  have hsz : x.size = k.size + 2 := by rw [size_eq, ho, size_kid hk]; rfl
  have hkl := lay_len (ls.length + 1) k (is_kid h (by rw [hk]; simp))
  have hxl : lay ls.length x = ⟨2, 0, 0, 0, 0, (ls.length : Int) + 1, ((ls.length + 2 + (lay (ls.length + 1) k).length : Nat) : Int)⟩ :: (lay (ls.length + 1) k ++ [⟨3, 0, 0, 0, 0, ls.length, 0⟩]) := by rw [lay_eq, ho, hk]; rfl
  rw [hxl, av_eq, ho, hk, map_kid]
  have e3 : IntKind.i64.wrap ((ls.length : Int) + 1) = (ls.length : Int) + 1 := wrapN (by omega) (by omega)
  have e4 : (ls.length + 1 ≤ 2 ^ 32) = True := by simp; omega
  have hkid := (ih.own (ls ++ [⟨2, 0, 0, 0, 0, (ls.length : Int) + 1, 0⟩]) A E (by simp) (by simp; omega))
  have e5 : (ls ++ [(⟨2, 0, 0, 0, 0, (ls.length : Int) + 1, 0⟩ : Stp)]).length = ls.length + 1 := by simp
  rw [e5] at hkid
  generalize lay (ls.length + 1) k = K at hkid hkl ⊢
  refine row_intro hE (by simp) (fun hls => ?_) (fun hne => ?_)
  · have hE' := hE hls
    subst hls; subst hE'
    have e6 : (K.length + 2 ≤ 2 ^ 32) = True := by simp; omega
    have e7 : ((0 : Int) < ((K.length + 2 : Nat) : Int)) = True := by simp; omega
    have e8 : ([] : List Stp).length + 1 + K.length = K.length + 1 := by simp; omega
    rw [e8] at hkid
    refine Ans.of_run t112 ?_
    simp -implicitDefEqProofs only [c112, r112, go_sem, List.reduceReplicate, Nat.reduceAdd, Nat.reduceSub, Nat.reduceLT, Nat.reduceLeDiff, Nat.reduceMul, Nat.reduceEqDiff, reduceCtorEq, Int.reduceLE, Int.reduceLT, Int.reduceEq, Int.reduceNe, Int.reduceBEq, Int.reduceBNe, Int.reduceAdd, Int.reduceSub, p32, w1, Int.toNat_zero]
    refine CD.intro' hkid ?_ ?_ ?_
    · rw [av_eq] <;> rfl
    · simp [Stp.av, sv]
    simp -implicitDefEqProofs only [go_sem, List.reduceReplicate, Nat.reduceAdd, Nat.reduceSub, Nat.reduceLT, Nat.reduceLeDiff, Nat.reduceMul, Nat.reduceEqDiff, reduceCtorEq, Int.reduceLE, Int.reduceLT, Int.reduceEq, Int.reduceNe, Int.reduceBEq, Int.reduceBNe, Int.reduceAdd, Int.reduceSub, get_mid, set_mid, List.length_map, List.length_append, e6, e7, sv, Stp.av, Int.toNat_zero, Nat.add_assoc]
    refine Fini.ret2 (n := 0) rfl ?_ ?_
    · rfl
    · simp [Stp.av]; omega
  · have e6 : (ls.length + (K.length + 2) ≤ 2 ^ 32) = True := by simp; omega
    have e7 : ((ls.length : Int) < ((ls.length + (K.length + 2) : Nat) : Int)) = True := by simp; omega
    have e8 : ls.length + 1 + K.length = ls.length + (K.length + 1) := by omega
    rw [e8] at hkid
    refine Ans.of_run t112 ?_
    simp -implicitDefEqProofs only [c112, r112, go_sem, List.reduceReplicate, Nat.reduceAdd, Nat.reduceSub, Nat.reduceLT, Nat.reduceLeDiff, Nat.reduceMul, Nat.reduceEqDiff, reduceCtorEq, Int.reduceLE, Int.reduceLT, Int.reduceEq, Int.reduceNe, Int.reduceBEq, Int.reduceBNe, Int.reduceAdd, Int.reduceSub, get_mid, set_mid, List.length_map, List.length_append, e4, e3, Int.toNat_zero]
    refine CD.intro' hkid ?_ ?_ ?_
    · rw [av_eq] <;> rfl
    · simp [Stp.av, sv]
    simp -implicitDefEqProofs only [go_sem, List.reduceReplicate, Nat.reduceAdd, Nat.reduceSub, Nat.reduceLT, Nat.reduceLeDiff, Nat.reduceMul, Nat.reduceEqDiff, reduceCtorEq, Int.reduceLE, Int.reduceLT, Int.reduceEq, Int.reduceNe, Int.reduceBEq, Int.reduceBNe, Int.reduceAdd, Int.reduceSub, get_mid, set_mid, List.length_map, List.length_append, List.map_append, List.append_assoc, e6, e7, sv, Stp.av, Nat.add_assoc, getm, setm]
    refine Fini.ret2 (n := 0) rfl ?_ ?_
    · rfl
    · simp [Stp.av]; omega
theorem lays_maybe (x k : Rex) (ho : x.op = 6) (hk : x.ks = [k]) (h : x.is = true) (ih : Lays k) : Lays x := by
  intro ls A E hE hb
  have hsz : x.size = k.size + 1 := by rw [size_eq, ho, size_kid hk]; rfl
  have hkl := lay_len (ls.length + 1) k (is_kid h (by rw [hk]; simp))
  have hxl : lay ls.length x = ⟨2, 0, 0, 0, 0, (ls.length : Int) + 1, ((ls.length + 1 + (lay (ls.length + 1) k).length : Nat) : Int)⟩ :: lay (ls.length + 1) k := by rw [lay_eq, ho, hk]; rfl
  rw [hxl, av_eq, ho, hk, map_kid]
  have e3 : IntKind.i64.wrap ((ls.length : Int) + 1) = (ls.length : Int) + 1 := wrapN (by omega) (by omega)
  have e4 : (ls.length + 1 ≤ 2 ^ 32) = True := by simp; omega
  have hkid := (ih.own (ls ++ [⟨2, 0, 0, 0, 0, (ls.length : Int) + 1, 0⟩]) A E (by simp) (by simp; omega))
  have e5 : (ls ++ [(⟨2, 0, 0, 0, 0, (ls.length : Int) + 1, 0⟩ : Stp)]).length = ls.length + 1 := by simp
  rw [e5] at hkid
  generalize lay (ls.length + 1) k = K at hkid hkl ⊢
  refine row_intro hE (by simp) (fun hls => ?_) (fun hne => ?_)
  · have hE' := hE hls
    subst hls; subst hE'
    have e6 : (K.length + 1 ≤ 2 ^ 32) = True := by simp; omega
    have e7 : ((0 : Int) < ((K.length + 1 : Nat) : Int)) = True := by simp <;> omega
    have e8 : ([] : List Stp).length + 1 + K.length = K.length + 1 := by simp; omega
    rw [e8] at hkid
    refine Ans.of_run t112 ?_
    simp -implicitDefEqProofs only [c112, r112, go_sem, List.reduceReplicate, Nat.reduceAdd, Nat.reduceSub, Nat.reduceLT, Nat.reduceLeDiff, Nat.reduceMul, Nat.reduceEqDiff, reduceCtorEq, Int.reduceLE, Int.reduceLT, Int.reduceEq, Int.reduceNe, Int.reduceBEq, Int.reduceBNe, Int.reduceAdd, Int.reduceSub, p32, w1, Int.toNat_zero]
    refine CD.intro' hkid ?_ ?_ ?_
    · rw [av_eq] <;> rfl
    · simp [Stp.av, sv]
    simp -implicitDefEqProofs only [go_sem, List.reduceReplicate, Nat.reduceAdd, Nat.reduceSub, Nat.reduceLT, Nat.reduceLeDiff, Nat.reduceMul, Nat.reduceEqDiff, reduceCtorEq, Int.reduceLE, Int.reduceLT, Int.reduceEq, Int.reduceNe, Int.reduceBEq, Int.reduceBNe, Int.reduceAdd, Int.reduceSub, get_mid, set_mid, List.length_map, List.length_append, e6, e7, sv, Stp.av, Int.toNat_zero, Nat.add_assoc]
    refine Fini.ret2 (n := 0) rfl ?_ ?_
    · rfl
    · simp [Stp.av]; omega
  · have e6 : (ls.length + (K.length + 1) ≤ 2 ^ 32) = True := by simp; omega
    have e7 : ((ls.length : Int) < ((ls.length + (K.length + 1) : Nat) : Int)) = True := by simp; omega
    have e8 : ls.length + 1 + K.length = ls.length + (K.length + 1) := by omega
    rw [e8] at hkid
    refine Ans.of_run t112 ?_
    simp -implicitDefEqProofs only [c112, r112, go_sem, List.reduceReplicate, Nat.reduceAdd, Nat.reduceSub, Nat.reduceLT, Nat.reduceLeDiff, Nat.reduceMul, Nat.reduceEqDiff, reduceCtorEq, Int.reduceLE, Int.reduceLT, Int.reduceEq, Int.reduceNe, Int.reduceBEq, Int.reduceBNe, Int.reduceAdd, Int.reduceSub, get_mid, set_mid, List.length_map, List.length_append, e4, e3, Int.toNat_zero]
    refine CD.intro' hkid ?_ ?_ ?_
    · rw [av_eq] <;> rfl
    · simp [Stp.av, sv]
    simp -implicitDefEqProofs only [go_sem, List.reduceReplicate, Nat.reduceAdd, Nat.reduceSub, Nat.reduceLT, Nat.reduceLeDiff, Nat.reduceMul, Nat.reduceEqDiff, reduceCtorEq, Int.reduceLE, Int.reduceLT, Int.reduceEq, Int.reduceNe, Int.reduceBEq, Int.reduceBNe, Int.reduceAdd, Int.reduceSub, get_mid, set_mid, List.length_map, List.length_append, List.map_append, List.append_assoc, e6, e7, sv, Stp.av, Nat.add_assoc, getm, setm]
    refine Fini.ret2 (n := 0) rfl ?_ ?_
    · rfl
    · simp [Stp.av]; omega
end Go.Proofs.Ytoadgajhkhejiaa
namespace Go.Proofs.Ytoadgajhkhejiaa
open Go Go.Ab
set_option maxRecDepth 100000
namespace Rex
def preW : Nat → (Nat → Int) → List Rex → List Stp
  | _, _, [] => []
  | n, f, x :: xs => ⟨2, 0, 0, 0, 0, (n : Int) + 1, ((n + 2 + (lay (n + 1) x).length : Nat) : Int)⟩ :: (lay (n + 1) x ++ (⟨3, 0, 0, 0, 0, f 0, 0⟩ :: preW (n + 2 + (lay (n + 1) x).length) (fun t => f (t + 1)) xs))
def jmpW : Nat → List Rex → List Int
  | _, [] => []
  | n, x :: xs => ((n + 1 + (lay (n + 1) x).length : Nat) : Int) :: jmpW (n + 2 + (lay (n + 1) x).length) xs
theorem jmpW_len (n : Nat) (l : List Rex) : (jmpW n l).length = l.length := by
  induction l generalizing n with
  | nil => rfl
  | cons x xs ih => simp [jmpW, ih]
theorem preW_len (n : Nat) (f g : Nat → Int) (l : List Rex) : (preW n f l).length = (preW n g l).length := by
  induction l generalizing n f g with
  | nil => rfl
  | cons x xs ih => simp only [preW, List.length_cons, List.length_append, ih _ (fun t => f (t + 1)) (fun t => g (t + 1))]
theorem layW_pre (n : Nat) (fin : Int) (l : List Rex) (x : Rex) : layW n fin (l ++ [x]) = preW n (fun _ => fin) l ++ lay (n + (preW n (fun _ => 0) l).length) x := by
  induction l generalizing n with
  | nil => simp [layW, preW]
  | cons y ys ih =>
    rw [List.cons_append, layW]
    have : (ys ++ [x]).isEmpty = false := by simp
    rw [this]
    simp only [Bool.false_eq_true, if_false, preW, ih, List.cons_append, List.append_assoc, List.length_cons, List.length_append]
    rw [show n + 2 + (lay (n + 1) y).length + (preW (n + 2 + (lay (n + 1) y).length) (fun _ => 0) ys).length = n + ((lay (n + 1) y).length + ((preW (n + 2 + (lay (n + 1) y).length) (fun _ => 0) ys).length + 1) + 1) by omega]
theorem preW_snoc (n : Nat) (f : Nat → Int) (l : List Rex) (x : Rex) : preW n f (l ++ [x]) = preW n f l ++
    (⟨2, 0, 0, 0, 0, ((n + (preW n f l).length : Nat) : Int) + 1, ((n + (preW n f l).length + 2 + (lay (n + (preW n f l).length + 1) x).length : Nat) : Int)⟩ :: (lay (n + (preW n f l).length + 1) x ++ [⟨3, 0, 0, 0, 0, f l.length, 0⟩])) := by
  induction l generalizing n f with
  | nil => simp [preW]
  | cons y ys ih =>
    have e : n + 2 + (lay (n + 1) y).length + (preW (n + 2 + (lay (n + 1) y).length) (fun t => f (t + 1)) ys).length = n + ((lay (n + 1) y).length + ((preW (n + 2 + (lay (n + 1) y).length) (fun t => f (t + 1)) ys).length + 1) + 1) := by omega
    simp only [List.cons_append, preW, ih, List.append_assoc, List.length_cons, List.length_append, e]
theorem jmpW_snoc (n : Nat) (f : Nat → Int) (l : List Rex) (x : Rex) : jmpW n (l ++ [x]) = jmpW n l ++ [((n + (preW n f l).length + 1 + (lay (n + (preW n f l).length + 1) x).length : Nat) : Int)] := by
  induction l generalizing n f with
  | nil => simp [jmpW, preW]
  | cons y ys ih =>
    have e : n + 2 + (lay (n + 1) y).length + (preW (n + 2 + (lay (n + 1) y).length) (fun t => f (t + 1)) ys).length = n + ((lay (n + 1) y).length + ((preW (n + 2 + (lay (n + 1) y).length) (fun t => f (t + 1)) ys).length + 1) + 1) := by omega
    simp only [List.cons_append, jmpW, preW, ih _ (fun t => f (t + 1)), List.length_cons, List.length_append, e]
theorem jump_at (ls : List Stp) (f : Nat → Int) (l : List Rex) (T : List Stp) (i : Nat) (hi : i < l.length) : ∃ j : Nat, (jmpW ls.length l)[i]? = some (j : Int) ∧ j < (ls ++ preW ls.length f l).length ∧
    (ls ++ (preW ls.length f l ++ T))[j]? = some ⟨3, 0, 0, 0, 0, f i, 0⟩ ∧ ∀ v, (ls ++ (preW ls.length f l ++ T)).set j ⟨3, 0, 0, 0, 0, v, 0⟩ = ls ++ (preW ls.length (fun t => if t = i then v else f t) l ++ T) := by
  induction l generalizing ls f i with
  | nil => simp at hi
  | cons x xs ih =>
    cases i with
    | zero =>
      refine ⟨ls.length + 1 + (lay (ls.length + 1) x).length, by simp [jmpW], by simp [preW]; omega, ?_, fun v => ?_⟩
      · rw [preW, List.getElem?_append_right (by omega)]
        simp only [List.cons_append, List.append_assoc]
        rw [show ls.length + 1 + (lay (ls.length + 1) x).length - ls.length = (lay (ls.length + 1) x).length + 1 by omega, List.getElem?_cons_succ, List.getElem?_append_right (by omega)]
        simp
      · rw [preW, List.set_append_right _ _ (by omega)]
        simp only [List.cons_append, List.append_assoc]
        rw [show ls.length + 1 + (lay (ls.length + 1) x).length - ls.length = (lay (ls.length + 1) x).length + 1 by omega, List.set_cons_succ, List.set_append_right _ _ (by omega)]
        simp [preW]
    | succ i =>
      have e : ls.length + 2 + (lay (ls.length + 1) x).length = (ls ++ ((⟨2, 0, 0, 0, 0, (ls.length : Int) + 1, ((ls.length + 2 + (lay (ls.length + 1) x).length : Nat) : Int)⟩ : Stp) :: (lay (ls.length + 1) x ++ [(⟨3, 0, 0, 0, 0, f 0, 0⟩ : Stp)]))).length := by simp; omega
      obtain ⟨j, h1, h2, h3, h4⟩ := ih (ls ++ (⟨2, 0, 0, 0, 0, (ls.length : Int) + 1, ((ls.length + 2 + (lay (ls.length + 1) x).length : Nat) : Int)⟩ :: (lay (ls.length + 1) x ++ [⟨3, 0, 0, 0, 0, f 0, 0⟩]))) (fun t => f (t + 1)) i (by simpa using hi)
      rw [← e] at h1 h2 h3 h4
      refine ⟨j, by rw [jmpW]; simpa using h1, by simpa [preW] using h2, by simpa [preW] using h3, fun v => ?_⟩
      have := h4 v
      simp only [List.cons_append, List.append_assoc, List.nil_append] at this
      simp only [preW, List.cons_append, List.append_assoc, this]
      simp
end Rex
end Go.Proofs.Ytoadgajhkhejiaa
