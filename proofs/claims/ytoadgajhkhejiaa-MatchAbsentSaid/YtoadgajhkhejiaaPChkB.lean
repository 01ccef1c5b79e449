/- prog.Check over a list of steps. No condition. -/
import Derived.Test.YtoadgajhkhejiaaPTree2
set_option linter.unusedSimpArgs false
set_option linter.unusedVariables false
namespace Go.Proofs.Ytoadgajhkhejiaa
open Go Go.Ab
set_option maxRecDepth 100000


structure Stp where
  op : Int
  a : Int
  b : Int
  c : Int
  d : Int
  x : Int
  y : Int
def Stp.av (s : Stp) : AV := .agg [I s.op, U s.a, U s.b, U s.c, U s.d, I s.x, I s.y]

def inR (n at_ : Int) : Bool := decide (0 ≤ at_) && decide (at_ < n)
def Stp.none (s : Stp) : Bool := s.a == 0 && (s.b == 0 && (s.c == 0 && (s.d == 0 && true)))
def rightS (s : Stp) (n : Int) (last : Bool) : Bool :=
  if (s.op != 1) && !s.none then false
  else if s.op == 1 then (s.x == 0 && s.y == 0) && !last
  else if s.op == 2 then inR n s.x && inR n s.y
  else if s.op == 3 then inR n s.x && s.y == 0
  else (s.op == 4 && s.x == 0) && s.y == 0

section
variable (σ : St)

theorem in_ans (n at_ : Int) : Ans Try.prog 131 [I at_, .rp [I n]] σ (Bo (inR n at_)) σ := by
  refine Ans.of_run t131 ?_
  simp -implicitDefEqProofs only [c131, r131, go_sem, List.reduceReplicate, Nat.reduceAdd, Nat.reduceSub, Nat.reduceLT, Nat.reduceLeDiff, Nat.reduceMul, Nat.reduceEqDiff, reduceCtorEq, Int.reduceLE, Int.reduceLT, Int.reduceEq, Int.reduceNe, Int.reduceBEq, Int.reduceBNe, Int.reduceAdd, Int.reduceSub]
  repeat' (first | (refine C.split (fun hb => ?_) (fun hb => ?_) <;> simp -implicitDefEqProofs only [hb, go_sem, List.reduceReplicate, Nat.reduceAdd, Nat.reduceSub, Nat.reduceLT, Nat.reduceLeDiff, Nat.reduceMul, Nat.reduceEqDiff, reduceCtorEq, Int.reduceLE, Int.reduceLT, Int.reduceEq, Int.reduceNe, Int.reduceBEq, Int.reduceBNe, Int.reduceAdd, Int.reduceSub]) | (refine OG.split (fun hb => ?_) (fun hb => ?_) <;> simp -implicitDefEqProofs only [hb, go_sem, List.reduceReplicate, Nat.reduceAdd, Nat.reduceSub, Nat.reduceLT, Nat.reduceLeDiff, Nat.reduceMul, Nat.reduceEqDiff, reduceCtorEq, Int.reduceLE, Int.reduceLT, Int.reduceEq, Int.reduceNe, Int.reduceBEq, Int.reduceBNe, Int.reduceAdd, Int.reduceSub]) | (refine DG.split (fun hb => ?_) (fun hb => ?_) <;> simp -implicitDefEqProofs only [hb, go_sem, List.reduceReplicate, Nat.reduceAdd, Nat.reduceSub, Nat.reduceLT, Nat.reduceLeDiff, Nat.reduceMul, Nat.reduceEqDiff, reduceCtorEq, Int.reduceLE, Int.reduceLT, Int.reduceEq, Int.reduceNe, Int.reduceBEq, Int.reduceBNe, Int.reduceAdd, Int.reduceSub]))
  all_goals (refine Fini.ret' rfl (bo_congr ?_); simp [inR, *])

theorem right_ans (s : Stp) (n : Int) (last : Bool) : Ans Try.prog 115 [s.av, I n, Bo last] σ (Bo (rightS s n last)) σ := by
  refine Ans.of_run t115 ?_
  simp -implicitDefEqProofs only [c115, r115, Stp.av, go_sem, List.reduceReplicate, Nat.reduceAdd, Nat.reduceSub, Nat.reduceLT, Nat.reduceLeDiff, Nat.reduceMul, Nat.reduceEqDiff, reduceCtorEq, Int.reduceLE, Int.reduceLT, Int.reduceEq, Int.reduceNe, Int.reduceBEq, Int.reduceBNe, Int.reduceAdd, Int.reduceSub, Bool.true_xor]
  repeat' (first | (refine CO.intro (in_ans _ _ _) ?_; simp -implicitDefEqProofs only [go_sem, List.reduceReplicate, Nat.reduceAdd, Nat.reduceSub, Nat.reduceLT, Nat.reduceLeDiff, Nat.reduceMul, Nat.reduceEqDiff, reduceCtorEq, Int.reduceLE, Int.reduceLT, Int.reduceEq, Int.reduceNe, Int.reduceBEq, Int.reduceBNe, Int.reduceAdd, Int.reduceSub]) | (refine C.split (fun hb => ?_) (fun hb => ?_) <;> simp -implicitDefEqProofs only [hb, go_sem, List.reduceReplicate, Nat.reduceAdd, Nat.reduceSub, Nat.reduceLT, Nat.reduceLeDiff, Nat.reduceMul, Nat.reduceEqDiff, reduceCtorEq, Int.reduceLE, Int.reduceLT, Int.reduceEq, Int.reduceNe, Int.reduceBEq, Int.reduceBNe, Int.reduceAdd, Int.reduceSub, Bool.true_xor]) | (refine OG.split (fun hb => ?_) (fun hb => ?_) <;> simp -implicitDefEqProofs only [hb, go_sem, List.reduceReplicate, Nat.reduceAdd, Nat.reduceSub, Nat.reduceLT, Nat.reduceLeDiff, Nat.reduceMul, Nat.reduceEqDiff, reduceCtorEq, Int.reduceLE, Int.reduceLT, Int.reduceEq, Int.reduceNe, Int.reduceBEq, Int.reduceBNe, Int.reduceAdd, Int.reduceSub, Bool.true_xor]))
  all_goals (refine Fini.ret' rfl (bo_congr ?_); simp [rightS, Stp.none, *])

theorem right1_ans (xs : AV) (ys : List Stp) (hx : xs = .sl 7 (ys.map Stp.av)) (s : Stp) : Ans Try.prog 114 [s.av, .rp [xs]] σ (Bo (!rightS s ys.length false)) σ := by
  subst hx
  refine Ans.of_run t114 ?_
  simp -implicitDefEqProofs only [c114, r114, Stp.av, go_sem, List.reduceReplicate, Nat.reduceAdd, Nat.reduceSub, Nat.reduceLT, Nat.reduceLeDiff, Nat.reduceMul, Nat.reduceEqDiff, reduceCtorEq, Int.reduceLE, Int.reduceLT, Int.reduceEq, Int.reduceNe, Int.reduceBEq, Int.reduceBNe, Int.reduceAdd, Int.reduceSub, List.length_map]
  refine CO.intro (right_ans _ s _ _) ?_
  simp -implicitDefEqProofs only [go_sem, List.reduceReplicate, Nat.reduceAdd, Nat.reduceSub, Nat.reduceLT, Nat.reduceLeDiff, Nat.reduceMul, Nat.reduceEqDiff, reduceCtorEq, Int.reduceLE, Int.reduceLT, Int.reduceEq, Int.reduceNe, Int.reduceBEq, Int.reduceBNe, Int.reduceAdd, Int.reduceSub]
  exact Fini.ret rfl

theorem sindex_ans (ys : List Stp) (g : FuncId) (fs cs : List AV) (p : Stp → Bool) (h : ∀ s, Ans Try.prog g (fs ++ [s.av] ++ cs) σ (Bo (p s)) σ) (hl : ys.length ≤ 1000) :
    Ans Try.prog 130 [.sl 7 (ys.map Stp.av), .fn g fs cs] σ (I (idxF p ys)) σ := by
  have h1 : ∀ s, Ans Try.prog g (fs ++ [s.av] ++ cs) σ (Bo (p s)) σ := h
  simp only [Stp.av] at h1
  refine Ans.of_run t130 ?_
  simp -implicitDefEqProofs only [c130, r130, go_sem, List.reduceReplicate, Nat.reduceAdd, Nat.reduceSub, Nat.reduceLT, Nat.reduceLeDiff, Nat.reduceMul, Nat.reduceEqDiff, reduceCtorEq, Int.reduceLE, Int.reduceLT, Int.reduceEq, Int.reduceNe, Int.reduceBEq, Int.reduceBNe, Int.reduceAdd, Int.reduceSub, List.length_map]
  have hget : ∀ i (hi : i < ys.length), (ys.map Stp.av)[i]? = some (ys[i]).av := fun i hi => by simp [hi]
  cases hf : ys.findIdx? p with
  | none =>
    refine L.count ys.length (fun i => mkE 19 [(0, .sl 7 (ys.map Stp.av)), (1, .fn g fs cs), (7, I ys.length), (8, I i)]) (fun _ => σ) ?_ ?_ rfl rfl
    · intro i hi J hJ
      have e1 : ((i : Int) < ys.length) = True := by simp; omega
      have e2 : IntKind.i64.wrap ((i : Int) + 1) = ((i + 1 : Nat) : Int) := by rw [wrapN (by omega) (by omega)]; rfl
      have e3 : p ys[i] = false := by
        have := List.findIdx?_eq_none_iff.1 hf (ys[i]) (List.getElem_mem hi)
        simpa using this
      simp -implicitDefEqProofs only [mkE, List.foldl_cons, List.foldl_nil, go_sem, List.reduceReplicate, Nat.reduceAdd, Nat.reduceSub, Nat.reduceLT, Nat.reduceLeDiff, Nat.reduceMul, Nat.reduceEqDiff, reduceCtorEq, Int.reduceLE, Int.reduceLT, Int.reduceEq, Int.reduceNe, Int.reduceBEq, Int.reduceBNe, Int.reduceAdd, Int.reduceSub, e1, hget i hi, Stp.av]
      refine CO.intro (h1 _) ?_
      simp -implicitDefEqProofs only [go_sem, List.reduceReplicate, Nat.reduceAdd, Nat.reduceSub, Nat.reduceLT, Nat.reduceLeDiff, Nat.reduceMul, Nat.reduceEqDiff, reduceCtorEq, Int.reduceLE, Int.reduceLT, Int.reduceEq, Int.reduceNe, Int.reduceBEq, Int.reduceBNe, Int.reduceAdd, Int.reduceSub, e2, e3]
      exact hJ
    · intro J
      have e1 : ((ys.length : Int) < ys.length) = False := by simp
      simp -implicitDefEqProofs only [mkE, List.foldl_cons, List.foldl_nil, go_sem, List.reduceReplicate, Nat.reduceAdd, Nat.reduceSub, Nat.reduceLT, Nat.reduceLeDiff, Nat.reduceMul, Nat.reduceEqDiff, reduceCtorEq, Int.reduceLE, Int.reduceLT, Int.reduceEq, Int.reduceNe, Int.reduceBEq, Int.reduceBNe, Int.reduceAdd, Int.reduceSub, e1]
      refine Fini.ret' rfl (int_congr ?_)
      simp [idxF, hf]
  | some k =>
    obtain ⟨hk, hp, hq⟩ := List.findIdx?_eq_some_iff_getElem.1 hf
    refine L.count k (fun i => mkE 19 [(0, .sl 7 (ys.map Stp.av)), (1, .fn g fs cs), (7, I ys.length), (8, I i)]) (fun _ => σ) ?_ ?_ rfl rfl
    · intro i hi J hJ
      have e1 : ((i : Int) < ys.length) = True := by simp; omega
      have e2 : IntKind.i64.wrap ((i : Int) + 1) = ((i + 1 : Nat) : Int) := by rw [wrapN (by omega) (by omega)]; rfl
      have e3 : p (ys[i]'(by omega)) = false := by simpa using hq i hi
      simp -implicitDefEqProofs only [mkE, List.foldl_cons, List.foldl_nil, go_sem, List.reduceReplicate, Nat.reduceAdd, Nat.reduceSub, Nat.reduceLT, Nat.reduceLeDiff, Nat.reduceMul, Nat.reduceEqDiff, reduceCtorEq, Int.reduceLE, Int.reduceLT, Int.reduceEq, Int.reduceNe, Int.reduceBEq, Int.reduceBNe, Int.reduceAdd, Int.reduceSub, e1, hget i (by omega), Stp.av]
      refine CO.intro (h1 _) ?_
      simp -implicitDefEqProofs only [go_sem, List.reduceReplicate, Nat.reduceAdd, Nat.reduceSub, Nat.reduceLT, Nat.reduceLeDiff, Nat.reduceMul, Nat.reduceEqDiff, reduceCtorEq, Int.reduceLE, Int.reduceLT, Int.reduceEq, Int.reduceNe, Int.reduceBEq, Int.reduceBNe, Int.reduceAdd, Int.reduceSub, e2, e3]
      exact hJ
    · intro J
      have e1 : ((k : Int) < ys.length) = True := by simp; omega
      simp -implicitDefEqProofs only [mkE, List.foldl_cons, List.foldl_nil, go_sem, List.reduceReplicate, Nat.reduceAdd, Nat.reduceSub, Nat.reduceLT, Nat.reduceLeDiff, Nat.reduceMul, Nat.reduceEqDiff, reduceCtorEq, Int.reduceLE, Int.reduceLT, Int.reduceEq, Int.reduceNe, Int.reduceBEq, Int.reduceBNe, Int.reduceAdd, Int.reduceSub, e1, hget k hk, Stp.av]
      refine CO.intro (h1 _) ?_
      simp -implicitDefEqProofs only [go_sem, List.reduceReplicate, Nat.reduceAdd, Nat.reduceSub, Nat.reduceLT, Nat.reduceLeDiff, Nat.reduceMul, Nat.reduceEqDiff, reduceCtorEq, Int.reduceLE, Int.reduceLT, Int.reduceEq, Int.reduceNe, Int.reduceBEq, Int.reduceBNe, Int.reduceAdd, Int.reduceSub, hp]
      refine Fini.ret' rfl (int_congr ?_)
      simp [idxF, hf]

theorem scontains_ans (ys : List Stp) (g : FuncId) (fs cs : List AV) (p : Stp → Bool) (h : ∀ s, Ans Try.prog g (fs ++ [s.av] ++ cs) σ (Bo (p s)) σ) (hl : ys.length ≤ 1000) :
    Ans Try.prog 113 [.sl 7 (ys.map Stp.av), .fn g fs cs] σ (Bo (ys.any p)) σ := by
  refine Ans.of_run t113 ?_
  simp -implicitDefEqProofs only [c113, r113, go_sem, List.reduceReplicate, Nat.reduceAdd, Nat.reduceSub, Nat.reduceLT, Nat.reduceLeDiff, Nat.reduceMul, Nat.reduceEqDiff, reduceCtorEq, Int.reduceLE, Int.reduceLT, Int.reduceEq, Int.reduceNe, Int.reduceBEq, Int.reduceBNe, Int.reduceAdd, Int.reduceSub]
  refine CO.intro (sindex_ans σ ys g fs cs p h hl) ?_
  simp -implicitDefEqProofs only [go_sem, List.reduceReplicate, Nat.reduceAdd, Nat.reduceSub, Nat.reduceLT, Nat.reduceLeDiff, Nat.reduceMul, Nat.reduceEqDiff, reduceCtorEq, Int.reduceLE, Int.reduceLT, Int.reduceEq, Int.reduceNe, Int.reduceBEq, Int.reduceBNe, Int.reduceAdd, Int.reduceSub]
  have : decide (0 ≤ idxF p ys) = ys.any p := by
    unfold idxF
    cases hf : ys.findIdx? p with
    | none => 
      have := List.findIdx?_eq_none_iff.1 hf
      simp; intro x hx; simpa using this x hx
    | some k =>
      obtain ⟨hk, hp, hq⟩ := List.findIdx?_eq_some_iff_getElem.1 hf
      simp; exact ⟨ys[k], List.getElem_mem hk, hp⟩
  exact Fini.ret' rfl (bo_congr this)

/-- The list as a value. -/
def Lst (ys : List Stp) (x : AV) : Prop := (x = .nils ∧ ys = []) ∨ x = .sl 7 (ys.map Stp.av)

def pcheck (ys : List Stp) : Bool :=
  if decide ((ys.length : Int) < 1) then false else if decide ((40 : Int) < ys.length) then false
  else !((ys.take (ys.length - 1)).any fun s => !rightS s ys.length false) && (match ys[ys.length - 1]? with | some s => rightS s ys.length true | none => false)

theorem check_ans (ys : List Stp) (x : AV) (hx : Lst ys x) : Ans Try.prog 91 [x] σ (Bo (pcheck ys)) σ := by
  rcases hx with ⟨rfl, rfl⟩ | rfl
  · refine Ans.of_run t91 ?_
    simp -implicitDefEqProofs only [c91, r91, go_sem, List.reduceReplicate, Nat.reduceAdd, Nat.reduceSub, Nat.reduceLT, Nat.reduceLeDiff, Nat.reduceMul, Nat.reduceEqDiff, reduceCtorEq, Int.reduceLE, Int.reduceLT, Int.reduceEq, Int.reduceNe, Int.reduceBEq, Int.reduceBNe, Int.reduceAdd, Int.reduceSub]
    exact Fini.ret rfl
  · refine Ans.of_run t91 ?_
    simp -implicitDefEqProofs only [c91, r91, go_sem, List.reduceReplicate, Nat.reduceAdd, Nat.reduceSub, Nat.reduceLT, Nat.reduceLeDiff, Nat.reduceMul, Nat.reduceEqDiff, reduceCtorEq, Int.reduceLE, Int.reduceLT, Int.reduceEq, Int.reduceNe, Int.reduceBEq, Int.reduceBNe, Int.reduceAdd, Int.reduceSub, List.length_map]
    refine OG.splitN (fun hb => ?_) (fun hb => ?_) <;> simp -implicitDefEqProofs only [hb, go_sem, List.reduceReplicate, Nat.reduceAdd, Nat.reduceSub, Nat.reduceLT, Nat.reduceLeDiff, Nat.reduceMul, Nat.reduceEqDiff, reduceCtorEq, Int.reduceLE, Int.reduceLT, Int.reduceEq, Int.reduceNe, Int.reduceBEq, Int.reduceBNe, Int.reduceAdd, Int.reduceSub, List.length_map]
    · refine Fini.ret' rfl (bo_congr ?_)
      simp [pcheck, hb]
    refine C.split (fun hc => ?_) (fun hc => ?_) <;> simp -implicitDefEqProofs only [hc, go_sem, List.reduceReplicate, Nat.reduceAdd, Nat.reduceSub, Nat.reduceLT, Nat.reduceLeDiff, Nat.reduceMul, Nat.reduceEqDiff, reduceCtorEq, Int.reduceLE, Int.reduceLT, Int.reduceEq, Int.reduceNe, Int.reduceBEq, Int.reduceBNe, Int.reduceAdd, Int.reduceSub, List.length_map]
    · refine Fini.ret' rfl (bo_congr ?_)
      simp [pcheck, hb, hc]
    have hb' : 1 ≤ ys.length := by simp at hb; omega
    have hc' : ys.length ≤ 40 := by simp at hc; omega
    have e1 : IntKind.i64.wrap ((ys.length : Int) - 1) = ((ys.length - 1 : Nat) : Int) := by rw [wrapN (by omega) (by omega)]; omega
    have e2 : (0 : Int) ≤ ((ys.length - 1 : Nat) : Int) := by omega
    have e3 : ((ys.length - 1 : Nat) : Int) ≤ ys.length := by omega
    have e4 : (ys.map Stp.av)[ys.length - 1]? = some (ys[ys.length - 1]'(by omega)).av := by rw [List.getElem?_map, List.getElem?_eq_getElem (by omega)]; rfl
    have e5 : ys[ys.length - 1]? = some (ys[ys.length - 1]'(by omega)) := List.getElem?_eq_getElem (by omega)
    simp -implicitDefEqProofs only [e1, e2, e3, e4, go_sem, List.reduceReplicate, Nat.reduceAdd, Nat.reduceSub, Nat.reduceLT, Nat.reduceLeDiff, Nat.reduceMul, Nat.reduceEqDiff, reduceCtorEq, Int.reduceLE, Int.reduceLT, Int.reduceEq, Int.reduceNe, Int.reduceBEq, Int.reduceBNe, Int.reduceAdd, Int.reduceSub, List.length_map]
    rw [← List.map_take]
    refine CD.intro (scontains_ans σ (ys.take (ys.length - 1)) 114 [] _ (fun s => !rightS s ys.length false) (fun s => right1_ans σ _ ys rfl s) (by simp; omega)) ?_
    simp -implicitDefEqProofs only [e1, e2, e3, e4, go_sem, List.reduceReplicate, Nat.reduceAdd, Nat.reduceSub, Nat.reduceLT, Nat.reduceLeDiff, Nat.reduceMul, Nat.reduceEqDiff, reduceCtorEq, Int.reduceLE, Int.reduceLT, Int.reduceEq, Int.reduceNe, Int.reduceBEq, Int.reduceBNe, Int.reduceAdd, Int.reduceSub, List.length_map]
    refine DG.split (fun hd => ?_) (fun hd => ?_) <;> simp -implicitDefEqProofs only [hd, e1, e2, e3, e4, go_sem, List.reduceReplicate, Nat.reduceAdd, Nat.reduceSub, Nat.reduceLT, Nat.reduceLeDiff, Nat.reduceMul, Nat.reduceEqDiff, reduceCtorEq, Int.reduceLE, Int.reduceLT, Int.reduceEq, Int.reduceNe, Int.reduceBEq, Int.reduceBNe, Int.reduceAdd, Int.reduceSub, List.length_map, Stp.av]
    · refine CD.intro (right_ans σ (ys[ys.length - 1]'(by omega)) _ _) ?_
      simp -implicitDefEqProofs only [go_sem, List.reduceReplicate, Nat.reduceAdd, Nat.reduceSub, Nat.reduceLT, Nat.reduceLeDiff, Nat.reduceMul, Nat.reduceEqDiff, reduceCtorEq, Int.reduceLE, Int.reduceLT, Int.reduceEq, Int.reduceNe, Int.reduceBEq, Int.reduceBNe, Int.reduceAdd, Int.reduceSub]
      refine Fini.ret' rfl (bo_congr ?_)
      rw [pcheck, hb, hc, hd, e5]
      simp
    · refine Fini.ret' rfl (bo_congr ?_)
      rw [pcheck, hb, hc, hd]
      simp
end
end Go.Proofs.Ytoadgajhkhejiaa
