/- Trees of patterns: whether they are one, how many steps their programs have. No condition. -/
import Derived.Test.YtoadgajhkhejiaaPTree
set_option linter.unusedSimpArgs false
set_option linter.unusedVariables false
namespace Go.Proofs.Ytoadgajhkhejiaa
open Go Go.Ab
set_option maxRecDepth 100000
namespace Rex
mutual
def size : Rex → Int
  | .mk op _ _ _ _ ks => if op == 1 then 1 else if op == 3 then sizeL ks + 2 * ((ks.length : Int) - 1) else if op == 4 then sizeL ks + 2 else if op == 5 then sizeL ks + 1 else if op == 6 then sizeL ks + 1 else sizeL ks
def sizeL : List Rex → Int
  | [] => 0
  | x :: xs => size x + sizeL xs
end
theorem size_eq (x : Rex) : x.size = if x.op == 1 then 1 else if x.op == 3 then sizeL x.ks + 2 * ((x.ks.length : Int) - 1) else if x.op == 4 then sizeL x.ks + 2 else if x.op == 5 then sizeL x.ks + 1 else if x.op == 6 then sizeL x.ks + 1 else sizeL x.ks := by
  cases x; rfl

theorem len_nodes : ∀ l : List Rex, l.length ≤ nodesL l
  | [] => by simp
  | x :: xs => by
    have := len_nodes xs
    have := nodes_eq x
    simp only [List.length_cons, nodesL]; omega

mutual
theorem size_le : ∀ x : Rex, -(2 * (x.nodes : Int)) ≤ x.size ∧ x.size ≤ 5 * x.nodes - 2
  | .mk op _ _ _ _ ks => by
    have h := sizeL_le ks
    have hl := len_nodes ks
    rw [size, nodes]
    (repeat' split) <;> omega
theorem sizeL_le : ∀ l : List Rex, -(2 * (nodesL l : Int)) ≤ sizeL l ∧ sizeL l + 2 * l.length ≤ 5 * nodesL l
  | [] => by simp [sizeL, nodesL]
  | x :: xs => by
    have h1 := size_le x
    have h2 := sizeL_le xs
    simp only [sizeL, nodesL, List.length_cons]
    omega
end

theorem nodesL_take : ∀ (l : List Rex) (i : Nat), nodesL (l.take i) ≤ nodesL l
  | [], i => by simp [nodesL]
  | x :: xs, 0 => by simp [nodesL]
  | x :: xs, i + 1 => by
    have := nodesL_take xs i
    simp only [List.take_succ_cons, nodesL]; omega

theorem nodes_get : ∀ (l : List Rex) (i : Nat) (hi : i < l.length), (l[i]).nodes ≤ nodesL l
  | x :: xs, 0, _ => by simp [nodesL]
  | x :: xs, i + 1, hi => by
    have := nodes_get xs i (by simpa using hi)
    simp only [List.getElem_cons_succ, nodesL]; omega

theorem sizeL_append : ∀ (l m : List Rex), sizeL (l ++ m) = sizeL l + sizeL m
  | [], m => by simp [sizeL]
  | x :: xs, m => by simp only [List.cons_append, sizeL, sizeL_append xs m]; omega

theorem sizeL_take (l : List Rex) (i : Nat) (hi : i < l.length) : sizeL (l.take (i + 1)) = sizeL (l.take i) + (l[i]).size := by
  rw [List.take_succ_eq_append_getElem hi, sizeL_append]
  simp [sizeL]

def plain (x : Rex) : Bool := x.a == 0 && (x.b == 0 && (x.c == 0 && (x.d == 0 && true)))
mutual
def is : Rex → Bool
  | .mk op a b c d ks =>
    let rest := plain (.mk op a b c d ks) && !notL ks
    if op == 1 then (ks.length : Int) == 0 else if op == 2 then rest
    else if op == 3 then (if (ks.length : Int) == 0 then false else rest)
    else if op == 4 then (if (ks.length : Int) != 1 then false else rest)
    else if op == 5 then (if (ks.length : Int) != 1 then false else rest)
    else if op == 6 then (if (ks.length : Int) != 1 then false else rest)
    else false
def notL : List Rex → Bool
  | [] => false
  | x :: xs => !is x || notL xs
end
theorem notL_eq : ∀ l : List Rex, notL l = l.any fun k => !k.is
  | [] => rfl
  | x :: xs => by rw [notL, notL_eq xs]; rfl
theorem is_eq (x : Rex) : x.is = (if x.op == 1 then (x.ks.length : Int) == 0 else if x.op == 2 then plain x && !(x.ks.any fun k => !k.is)
    else if x.op == 3 then (if (x.ks.length : Int) == 0 then false else plain x && !(x.ks.any fun k => !k.is))
    else if x.op == 4 then (if (x.ks.length : Int) != 1 then false else plain x && !(x.ks.any fun k => !k.is))
    else if x.op == 5 then (if (x.ks.length : Int) != 1 then false else plain x && !(x.ks.any fun k => !k.is))
    else if x.op == 6 then (if (x.ks.length : Int) != 1 then false else plain x && !(x.ks.any fun k => !k.is))
    else false) := by
  cases x; simp only [is, notL_eq]; rfl
end Rex
open Rex

def idxF {α : Type} (p : α → Bool) (ys : List α) : Int := match ys.findIdx? p with | some i => i | none => -1

section
variable (σ : St)

theorem size_ans (x : Rex) (hn : x.nodes ≤ 1000) : Ans Try.prog 128 [x.av] σ (I x.size) σ := by
  rw [av_eq]
  refine Ans.of_run t128 ?_
  simp -implicitDefEqProofs only [c128, r128, go_sem, List.reduceReplicate, Nat.reduceAdd, Nat.reduceSub, Nat.reduceLT, Nat.reduceLeDiff, Nat.reduceMul, Nat.reduceEqDiff, reduceCtorEq, Int.reduceLE, Int.reduceLT, Int.reduceEq, Int.reduceNe, Int.reduceBEq, Int.reduceBNe, Int.reduceAdd, Int.reduceSub, List.length_map]
  have hget : ∀ i (hi : i < x.ks.length), (x.ks.map av)[i]? = some (x.ks[i]).av := fun i hi => by simp [hi]
  have hk := nodes_eq x
  refine L.count x.ks.length (fun i => mkE 41 [(1, .rp [I x.op, U x.a, U x.b, U x.c, U x.d, .sl 6 (x.ks.map av)]), (3, I (sizeL (x.ks.take i))), (7, .sl 6 (x.ks.map av)), (8, I x.ks.length), (9, I i)]) (fun _ => σ) ?_ ?_ ?_ rfl
  · intro i hi J hJ
    have e1 : ((i : Int) < (x.ks.length : Nat)) = True := by simp; omega
    have e2 : IntKind.i64.wrap ((i : Int) + 1) = ((i + 1 : Nat) : Int) := by
      have := len_nodes x.ks
      rw [wrapN (by omega) (by omega)]; rfl
    have hni := nodes_get x.ks i hi
    simp -implicitDefEqProofs only [mkE, List.foldl_cons, List.foldl_nil, go_sem, List.reduceReplicate, Nat.reduceAdd, Nat.reduceSub, Nat.reduceLT, Nat.reduceLeDiff, Nat.reduceMul, Nat.reduceEqDiff, reduceCtorEq, Int.reduceLE, Int.reduceLT, Int.reduceEq, Int.reduceNe, Int.reduceBEq, Int.reduceBNe, Int.reduceAdd, Int.reduceSub, e1, hget i hi]
    rw [av_eq]
    simp -implicitDefEqProofs only [go_sem, List.reduceReplicate, Nat.reduceAdd, Nat.reduceSub, Nat.reduceLT, Nat.reduceLeDiff, Nat.reduceMul, Nat.reduceEqDiff, reduceCtorEq, Int.reduceLE, Int.reduceLT, Int.reduceEq, Int.reduceNe, Int.reduceBEq, Int.reduceBNe, Int.reduceAdd, Int.reduceSub]
    rw [← av_eq]
    refine CO.intro (size_ans x.ks[i] (by omega)) ?_
    have e3 : IntKind.i64.wrap (sizeL (x.ks.take i) + x.ks[i].size) = sizeL (x.ks.take (i + 1)) := by
      have h1 := sizeL_le (x.ks.take i)
      have h2 := size_le x.ks[i]
      have h3 := nodesL_take x.ks i
      rw [wrapN (by omega) (by omega), sizeL_take _ _ hi]
    simp -implicitDefEqProofs only [go_sem, List.reduceReplicate, Nat.reduceAdd, Nat.reduceSub, Nat.reduceLT, Nat.reduceLeDiff, Nat.reduceMul, Nat.reduceEqDiff, reduceCtorEq, Int.reduceLE, Int.reduceLT, Int.reduceEq, Int.reduceNe, Int.reduceBEq, Int.reduceBNe, Int.reduceAdd, Int.reduceSub, e2, e3]
    exact hJ
  · intro J
    have e1 : (((x.ks.length : Nat) : Int) < (x.ks.length : Nat)) = False := by simp
    have h1 := sizeL_le x.ks
    have h2 := len_nodes x.ks
    have e2 : IntKind.i64.wrap (sizeL x.ks + 2) = sizeL x.ks + 2 := wrapN (by omega) (by omega)
    have e3 : IntKind.i64.wrap (sizeL x.ks + 1) = sizeL x.ks + 1 := wrapN (by omega) (by omega)
    have e4 : IntKind.i64.wrap ((x.ks.length : Int) - 1) = (x.ks.length : Int) - 1 := wrapN (by omega) (by omega)
    have e5 : IntKind.i64.wrap (2 * ((x.ks.length : Int) - 1)) = 2 * ((x.ks.length : Int) - 1) := wrapN (by omega) (by omega)
    have e6 : IntKind.i64.wrap (sizeL x.ks + 2 * ((x.ks.length : Int) - 1)) = sizeL x.ks + 2 * ((x.ks.length : Int) - 1) := wrapN (by omega) (by omega)
    simp -implicitDefEqProofs only [mkE, List.foldl_cons, List.foldl_nil, go_sem, List.reduceReplicate, Nat.reduceAdd, Nat.reduceSub, Nat.reduceLT, Nat.reduceLeDiff, Nat.reduceMul, Nat.reduceEqDiff, reduceCtorEq, Int.reduceLE, Int.reduceLT, Int.reduceEq, Int.reduceNe, Int.reduceBEq, Int.reduceBNe, Int.reduceAdd, Int.reduceSub, e1, List.take_length]
    repeat' (refine C.split (fun hb => ?_) (fun hb => ?_) <;> simp -implicitDefEqProofs only [hb, go_sem, List.reduceReplicate, Nat.reduceAdd, Nat.reduceSub, Nat.reduceLT, Nat.reduceLeDiff, Nat.reduceMul, Nat.reduceEqDiff, reduceCtorEq, Int.reduceLE, Int.reduceLT, Int.reduceEq, Int.reduceNe, Int.reduceBEq, Int.reduceBNe, Int.reduceAdd, Int.reduceSub, List.length_map, e2, e3, e4, e5, e6, List.take_length])
    all_goals (refine Fini.ret' rfl (int_congr ?_); rw [size_eq]; simp [*])
  · rfl
termination_by SizeOf.sizeOf x
decreasing_by exact lt_of_mem (List.getElem_mem _)

theorem index_ans (ys : List Rex) (g : FuncId) (fs cs : List AV) (p : Rex → Bool) (h : ∀ s ∈ ys, Ans Try.prog g (fs ++ [s.av] ++ cs) σ (Bo (p s)) σ) (hl : ys.length ≤ 1000) :
    Ans Try.prog 144 [.sl 6 (ys.map av), .fn g fs cs] σ (I (idxF p ys)) σ := by
  refine Ans.of_run t144 ?_
  simp -implicitDefEqProofs only [c144, r144, go_sem, List.reduceReplicate, Nat.reduceAdd, Nat.reduceSub, Nat.reduceLT, Nat.reduceLeDiff, Nat.reduceMul, Nat.reduceEqDiff, reduceCtorEq, Int.reduceLE, Int.reduceLT, Int.reduceEq, Int.reduceNe, Int.reduceBEq, Int.reduceBNe, Int.reduceAdd, Int.reduceSub, List.length_map]
  have hget : ∀ i (hi : i < ys.length), (ys.map av)[i]? = some (ys[i]).av := fun i hi => by simp [hi]
  refine L.scan ys.length (fun i => match ys[i]? with | some y => !p y | none => true) (fun i => mkE 19 [(0, .sl 6 (ys.map av)), (1, .fn g fs cs), (7, I ys.length), (8, I i)]) (fun _ => σ) ?_ ?_ rfl rfl
  · intro i hi hok J hJ
    have e1 : ((i : Int) < (ys.length : Nat)) = True := by simp; omega
    have e2 : IntKind.i64.wrap ((i : Int) + 1) = ((i + 1 : Nat) : Int) := by rw [wrapN (by omega) (by omega)]; rfl
    have e5 : ys[i]? = some ys[i] := List.getElem?_eq_getElem hi
    have h1 := h ys[i] (List.getElem_mem hi)
    simp -implicitDefEqProofs only [mkE, List.foldl_cons, List.foldl_nil, go_sem, List.reduceReplicate, Nat.reduceAdd, Nat.reduceSub, Nat.reduceLT, Nat.reduceLeDiff, Nat.reduceMul, Nat.reduceEqDiff, reduceCtorEq, Int.reduceLE, Int.reduceLT, Int.reduceEq, Int.reduceNe, Int.reduceBEq, Int.reduceBNe, Int.reduceAdd, Int.reduceSub, e1, hget i hi]
    rw [av_eq] at h1 ⊢
    simp -implicitDefEqProofs only [go_sem, List.reduceReplicate, Nat.reduceAdd, Nat.reduceSub, Nat.reduceLT, Nat.reduceLeDiff, Nat.reduceMul, Nat.reduceEqDiff, reduceCtorEq, Int.reduceLE, Int.reduceLT, Int.reduceEq, Int.reduceNe, Int.reduceBEq, Int.reduceBNe, Int.reduceAdd, Int.reduceSub]
    refine CO.intro h1 ?_
    simp -implicitDefEqProofs only [go_sem, List.reduceReplicate, Nat.reduceAdd, Nat.reduceSub, Nat.reduceLT, Nat.reduceLeDiff, Nat.reduceMul, Nat.reduceEqDiff, reduceCtorEq, Int.reduceLE, Int.reduceLT, Int.reduceEq, Int.reduceNe, Int.reduceBEq, Int.reduceBNe, Int.reduceAdd, Int.reduceSub]
    refine C.split (fun hb => ?_) (fun hb => ?_) <;> simp -implicitDefEqProofs only [hb, go_sem, List.reduceReplicate, Nat.reduceAdd, Nat.reduceSub, Nat.reduceLT, Nat.reduceLeDiff, Nat.reduceMul, Nat.reduceEqDiff, reduceCtorEq, Int.reduceLE, Int.reduceLT, Int.reduceEq, Int.reduceNe, Int.reduceBEq, Int.reduceBNe, Int.reduceAdd, Int.reduceSub, e2]
    · refine Fini.ret' rfl (int_congr ?_)
      have : ys.findIdx? p = some i := by
        rw [List.findIdx?_eq_some_iff_getElem]
        refine ⟨hi, hb, fun j hj => ?_⟩
        have := hok j hj
        rw [List.getElem?_eq_getElem (by omega)] at this
        simpa using this
      simp [idxF, this]
    · exact hJ (by rw [e5]; simp [hb])
  · intro hok J
    have e1 : (((ys.length : Nat) : Int) < (ys.length : Nat)) = False := by simp
    simp -implicitDefEqProofs only [mkE, List.foldl_cons, List.foldl_nil, go_sem, List.reduceReplicate, Nat.reduceAdd, Nat.reduceSub, Nat.reduceLT, Nat.reduceLeDiff, Nat.reduceMul, Nat.reduceEqDiff, reduceCtorEq, Int.reduceLE, Int.reduceLT, Int.reduceEq, Int.reduceNe, Int.reduceBEq, Int.reduceBNe, Int.reduceAdd, Int.reduceSub, e1]
    refine Fini.ret' rfl (int_congr ?_)
    have : ys.findIdx? p = none := by
      rw [List.findIdx?_eq_none_iff]
      intro y hy
      obtain ⟨j, hj, rfl⟩ := List.getElem_of_mem hy
      have := hok j hj
      rw [List.getElem?_eq_getElem hj] at this
      simpa using this
    simp [idxF, this]

theorem contains_ans (ys : List Rex) (g : FuncId) (fs cs : List AV) (p : Rex → Bool) (h : ∀ s ∈ ys, Ans Try.prog g (fs ++ [s.av] ++ cs) σ (Bo (p s)) σ) (hl : ys.length ≤ 1000) :
    Ans Try.prog 140 [.sl 6 (ys.map av), .fn g fs cs] σ (Bo (ys.any p)) σ := by
  refine Ans.of_run t140 ?_
  simp -implicitDefEqProofs only [c140, r140, go_sem, List.reduceReplicate, Nat.reduceAdd, Nat.reduceSub, Nat.reduceLT, Nat.reduceLeDiff, Nat.reduceMul, Nat.reduceEqDiff, reduceCtorEq, Int.reduceLE, Int.reduceLT, Int.reduceEq, Int.reduceNe, Int.reduceBEq, Int.reduceBNe, Int.reduceAdd, Int.reduceSub]
  refine CO.intro (index_ans σ ys g fs cs p h hl) ?_
  simp -implicitDefEqProofs only [go_sem, List.reduceReplicate, Nat.reduceAdd, Nat.reduceSub, Nat.reduceLT, Nat.reduceLeDiff, Nat.reduceMul, Nat.reduceEqDiff, reduceCtorEq, Int.reduceLE, Int.reduceLT, Int.reduceEq, Int.reduceNe, Int.reduceBEq, Int.reduceBNe, Int.reduceAdd, Int.reduceSub]
  have : decide (0 ≤ idxF p ys) = ys.any p := by
    unfold idxF
    cases hf : ys.findIdx? p with
    | none =>
      have := List.findIdx?_eq_none_iff.1 hf
      simp; intro x hx; simpa using this x hx
    | some k =>
      obtain ⟨hk, hp, hq⟩ := List.findIdx?_eq_some_iff_getElem.1 hf
      simp; exact ⟨ys[k], List.getElem_mem hk, hp⟩
  exact Fini.ret' rfl (bo_congr this)

theorem is_ans (x : Rex) (hn : x.nodes ≤ 1000) : Ans Try.prog 127 [x.av] σ (Bo x.is) σ := by
  have hk := nodes_eq x
  have hl := len_nodes x.ks
  have hc : Ans Try.prog 140 [.sl 6 (x.ks.map av), .fn 141 [] []] σ (Bo (x.ks.any fun k => !k.is)) σ := by
    refine contains_ans σ x.ks 141 [] [] _ (fun s hs => ?_) (by omega)
    obtain ⟨i, hi, rfl⟩ := List.getElem_of_mem hs
    have hni := nodes_get x.ks i hi
    show Ans Try.prog 141 [(x.ks[i]).av] σ (Bo (!(x.ks[i]).is)) σ
    have h1 := is_ans x.ks[i] (by omega)
    rw [av_eq] at h1 ⊢
    refine Ans.of_run t141 ?_
    simp -implicitDefEqProofs only [c141, r141, go_sem, List.reduceReplicate, Nat.reduceAdd, Nat.reduceSub, Nat.reduceLT, Nat.reduceLeDiff, Nat.reduceMul, Nat.reduceEqDiff, reduceCtorEq, Int.reduceLE, Int.reduceLT, Int.reduceEq, Int.reduceNe, Int.reduceBEq, Int.reduceBNe, Int.reduceAdd, Int.reduceSub]
    refine CO.intro h1 ?_
    simp -implicitDefEqProofs only [go_sem, List.reduceReplicate, Nat.reduceAdd, Nat.reduceSub, Nat.reduceLT, Nat.reduceLeDiff, Nat.reduceMul, Nat.reduceEqDiff, reduceCtorEq, Int.reduceLE, Int.reduceLT, Int.reduceEq, Int.reduceNe, Int.reduceBEq, Int.reduceBNe, Int.reduceAdd, Int.reduceSub]
    exact Fini.ret rfl
  rw [av_eq]
  refine Ans.of_run t127 ?_
  simp -implicitDefEqProofs only [c127, r127, go_sem, List.reduceReplicate, Nat.reduceAdd, Nat.reduceSub, Nat.reduceLT, Nat.reduceLeDiff, Nat.reduceMul, Nat.reduceEqDiff, reduceCtorEq, Int.reduceLE, Int.reduceLT, Int.reduceEq, Int.reduceNe, Int.reduceBEq, Int.reduceBNe, Int.reduceAdd, Int.reduceSub, List.length_map]
  repeat' (first | (refine CO.intro hc ?_; simp -implicitDefEqProofs only [go_sem, List.reduceReplicate, Nat.reduceAdd, Nat.reduceSub, Nat.reduceLT, Nat.reduceLeDiff, Nat.reduceMul, Nat.reduceEqDiff, reduceCtorEq, Int.reduceLE, Int.reduceLT, Int.reduceEq, Int.reduceNe, Int.reduceBEq, Int.reduceBNe, Int.reduceAdd, Int.reduceSub, Bool.true_xor]) | (refine C.split (fun hb => ?_) (fun hb => ?_) <;> simp -implicitDefEqProofs only [hb, go_sem, List.reduceReplicate, Nat.reduceAdd, Nat.reduceSub, Nat.reduceLT, Nat.reduceLeDiff, Nat.reduceMul, Nat.reduceEqDiff, reduceCtorEq, Int.reduceLE, Int.reduceLT, Int.reduceEq, Int.reduceNe, Int.reduceBEq, Int.reduceBNe, Int.reduceAdd, Int.reduceSub, List.length_map, Bool.true_xor]) | (refine OG.split (fun hb => ?_) (fun hb => ?_) <;> simp -implicitDefEqProofs only [hb, go_sem, List.reduceReplicate, Nat.reduceAdd, Nat.reduceSub, Nat.reduceLT, Nat.reduceLeDiff, Nat.reduceMul, Nat.reduceEqDiff, reduceCtorEq, Int.reduceLE, Int.reduceLT, Int.reduceEq, Int.reduceNe, Int.reduceBEq, Int.reduceBNe, Int.reduceAdd, Int.reduceSub, List.length_map, Bool.true_xor]))
  all_goals (refine Fini.ret' rfl (bo_congr ?_); rw [is_eq]; simp [plain, *])
termination_by SizeOf.sizeOf x
decreasing_by exact lt_of_mem (List.getElem_mem _)

def full (x : Rex) : Int := if !x.is then 0 else x.size + 1

theorem Size_ans (x : Rex) (hn : x.nodes ≤ 1000) : Ans Try.prog 111 [x.av] σ (I (full x)) σ := by
  have h1 := is_ans σ x hn
  have h2 := size_ans σ x hn
  have hs := size_le x
  have e1 : IntKind.i64.wrap (x.size + 1) = x.size + 1 := wrapN (by omega) (by omega)
  rw [av_eq] at h1 h2 ⊢
  refine Ans.of_run t111 ?_
  simp -implicitDefEqProofs only [c111, r111, go_sem, List.reduceReplicate, Nat.reduceAdd, Nat.reduceSub, Nat.reduceLT, Nat.reduceLeDiff, Nat.reduceMul, Nat.reduceEqDiff, reduceCtorEq, Int.reduceLE, Int.reduceLT, Int.reduceEq, Int.reduceNe, Int.reduceBEq, Int.reduceBNe, Int.reduceAdd, Int.reduceSub]
  refine CO.intro h1 ?_
  simp -implicitDefEqProofs only [go_sem, List.reduceReplicate, Nat.reduceAdd, Nat.reduceSub, Nat.reduceLT, Nat.reduceLeDiff, Nat.reduceMul, Nat.reduceEqDiff, reduceCtorEq, Int.reduceLE, Int.reduceLT, Int.reduceEq, Int.reduceNe, Int.reduceBEq, Int.reduceBNe, Int.reduceAdd, Int.reduceSub]
  refine C.splitN (fun hb => ?_) (fun hb => ?_) <;> simp -implicitDefEqProofs only [go_sem, List.reduceReplicate, Nat.reduceAdd, Nat.reduceSub, Nat.reduceLT, Nat.reduceLeDiff, Nat.reduceMul, Nat.reduceEqDiff, reduceCtorEq, Int.reduceLE, Int.reduceLT, Int.reduceEq, Int.reduceNe, Int.reduceBEq, Int.reduceBNe, Int.reduceAdd, Int.reduceSub]
  · refine CO.intro h2 ?_
    simp -implicitDefEqProofs only [go_sem, List.reduceReplicate, Nat.reduceAdd, Nat.reduceSub, Nat.reduceLT, Nat.reduceLeDiff, Nat.reduceMul, Nat.reduceEqDiff, reduceCtorEq, Int.reduceLE, Int.reduceLT, Int.reduceEq, Int.reduceNe, Int.reduceBEq, Int.reduceBNe, Int.reduceAdd, Int.reduceSub, e1]
    refine Fini.ret' rfl (int_congr ?_)
    simp [full, hb]
  · refine Fini.ret' rfl (int_congr ?_)
    simp [full, hb]
end
end Go.Proofs.Ytoadgajhkhejiaa
