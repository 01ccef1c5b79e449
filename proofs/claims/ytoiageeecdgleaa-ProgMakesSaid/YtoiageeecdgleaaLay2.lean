/- How the program lays the steps of a tree behind others. No condition. -/
import Derived.Test.YtoiageeecdgleaaLay
set_option linter.unusedSimpArgs false
set_option linter.unusedVariables false
namespace Go.Proofs.Ytoiageeecdgleaa
open Go Go.Ab
set_option maxRecDepth 100000
open Rex

theorem get_mid (A E : St) (o : Ob) : (A ++ o :: E)[A.length]? = some o := by simp
theorem set_mid (A E : St) (o p : Ob) : (A ++ o :: E).set A.length p = A ++ p :: E := by simp

theorem Fini.ret2 {n m : Nat} {rvs : List RV} {r r' : AV} {σ σ' : St} {env : Env} (h : resA env σ rvs = some r') (e : r' = r) (e' : σ = σ') : Fini m rvs r σ' .ret env σ := by
  subst e; subst e'; exact Fini.ret h

theorem CO.intro' {P : Program} {n0 : Nat} {k : List Fr} {B : Bs} {env : Env} {σ σ₀ σ' : St} {f : FuncId} {args args₀ : List AV} {d : Option Tmp} {l : List AOper} {r : AV} (h : Ans P f args₀ σ₀ r σ') (ha : args = args₀) (hs : σ = σ₀)
    (h' : O P n0 l k B (putA env d r) σ') : CO P n0 f args d l k B env σ := by subst ha; subst hs; exact CO.intro h h'
theorem CD.intro' {P : Program} {n0 : Nat} {k : List Fr} {B : Bs} {env : Env} {σ σ₀ σ' : St} {S : List St} {ob : List St → Prop} {f : FuncId} {args args₀ : List AV} {d : Option Tmp} {l : List DOper} {r : AV} (h : Ans P f args₀ σ₀ r σ') (ha : args = args₀) (hs : σ = σ₀)
    (h' : D P n0 l k B (putA env d r) (S ++ [σ']) σ' ob) : CD P n0 f args d l k B env S σ ob := by subst ha; subst hs; exact CD.intro h h'

/-- A row of one's own, or none yet, at some place. -/
def rowV (k : Nat) (L : List AV) : AV := if L.isEmpty then .nils else .osl k L.length
def rowS (sz : Nat) (A : St) (L : List AV) (E : St) : St := if L.isEmpty then A ++ E else A ++ .row sz L :: E
theorem rowV_nil (k : Nat) : rowV k [] = .nils := rfl
theorem rowS_nil (sz : Nat) (A : St) : rowS sz A [] [] = A := by simp [rowS]
theorem rowV_ne {k : Nat} {L : List AV} (h : L ≠ []) : rowV k L = .osl k L.length := by simp [rowV, h]
theorem rowS_ne {sz : Nat} {A E : St} {L : List AV} (h : L ≠ []) : rowS sz A L E = A ++ .row sz L :: E := by simp [rowS, h]

abbrev sv (l : List Stp) : List AV := l.map Stp.av
theorem sv_ne {l : List Stp} (h : l ≠ []) : sv l ≠ [] := by simpa [sv] using h

/-- That a call of the layer lays a tree's steps behind those that are there. -/
def Lays (x : Rex) : Prop := ∀ (ls : List Stp) (A E : St), (ls = [] → E = []) → (ls.length : Int) + x.size ≤ 1000 →
  Ans Try.prog 21 [rowV A.length (sv ls), x.av] (rowS 7 A (sv ls) E) (rowV A.length (sv (ls ++ lay ls.length x))) (rowS 7 A (sv (ls ++ lay ls.length x)) E)

theorem Lays.own {x : Rex} (h : Lays x) (ls : List Stp) (A E : St) (hne : ls ≠ []) (hb : (ls.length : Int) + x.size ≤ 1000) :
    Ans Try.prog 21 [.osl A.length ls.length, x.av] (A ++ .row 7 (sv ls) :: E) (.osl A.length (ls.length + (lay ls.length x).length)) (A ++ .row 7 (sv (ls ++ lay ls.length x)) :: E) := by
  have := h ls A E (fun e => absurd e hne) hb
  rw [rowV_ne (sv_ne hne), rowS_ne (sv_ne hne), rowV_ne (sv_ne (by simp [hne])), rowS_ne (sv_ne (by simp [hne]))] at this
  simpa [sv] using this

theorem lays_set (x : Rex) (ho : x.op = 1) : Lays x := by
  intro ls A E hE hb
  have e1 : (ls.length + 1 ≤ 2 ^ 32) = True := by
    have : x.size = 1 := by rw [size_eq, ho]; rfl
    simp; omega
  rw [lay_eq, av_eq, ho]
  rcases Classical.em (ls = []) with rfl | hne
  · have := hE rfl; subst this
    rw [sv, List.map_nil, rowV_nil, rowS_nil]
    refine Ans.of_run t21 ?_
    simp -implicitDefEqProofs only [c21, r21, go_sem, List.reduceReplicate, Nat.reduceAdd, Nat.reduceSub, Nat.reduceLT, Nat.reduceLeDiff, Nat.reduceMul, Nat.reduceEqDiff, reduceCtorEq, Int.reduceLE, Int.reduceLT, Int.reduceEq, Int.reduceNe, Int.reduceBEq, Int.reduceBNe, Int.reduceAdd, Int.reduceSub]
    refine Fini.ret2 (n := 0) rfl ?_ ?_
    · simp [rowV, Stp.av]; rfl
    · simp [rowS, Stp.av, ho]
  · rw [rowV_ne (sv_ne hne), rowS_ne (sv_ne hne), rowV_ne (sv_ne (by simp [hne])), rowS_ne (sv_ne (by simp [hne]))]
    refine Ans.of_run t21 ?_
    simp -implicitDefEqProofs only [c21, r21, go_sem, List.reduceReplicate, Nat.reduceAdd, Nat.reduceSub, Nat.reduceLT, Nat.reduceLeDiff, Nat.reduceMul, Nat.reduceEqDiff, reduceCtorEq, Int.reduceLE, Int.reduceLT, Int.reduceEq, Int.reduceNe, Int.reduceBEq, Int.reduceBNe, Int.reduceAdd, Int.reduceSub, List.length_map, get_mid, set_mid, e1]
    refine Fini.ret2 (n := 0) rfl ?_ ?_
    · simp; rfl
    · simp [Stp.av]

def lenA (σ : St) (u : AV) : Option (AV × St) := aop (fun _ => u) σ (.lenv (.tmp 0))
theorem O_lenv {P : Program} {n0 : Nat} {k : List Fr} {B : Bs} {env : Env} {σ : St} {d : Option Tmp} {x : Operand} {l : List AOper} : O P n0 (⟨d, none, .prim (.lenv x)⟩ :: l) k B env σ = (match lenA σ (aev env x) with
    | some (r, σ') => O P n0 l k B (putA env d r) σ'
    | none => False) := by rw [O_prim]; rfl
theorem lenA_sl {σ : St} {sz : Nat} {xs : List AV} : lenA σ (.sl sz xs) = some (.pl (.int .i64 xs.length), σ) := rfl
theorem lenA_row {A E : St} (ls : List Stp) (hE : ls = [] → E = []) : lenA (rowS 7 A (sv ls) E) (rowV A.length (sv ls)) = some (.pl (.int .i64 ls.length), rowS 7 A (sv ls) E) := by
  rcases Classical.em (ls = []) with rfl | hne
  · rfl
  · rw [rowV_ne (sv_ne hne), rowS_ne (sv_ne hne)]
    simp [lenA, aop]

theorem layL_take (n : Nat) : ∀ (l : List Rex) (i : Nat) (hi : i < l.length), layL n (l.take (i + 1)) = layL n (l.take i) ++ lay (n + (layL n (l.take i)).length) l[i]
  | x :: xs, 0, hi => by simp [layL]
  | x :: xs, i + 1, hi => by
    have := layL_take (n + (lay n x).length) xs i (by simpa using hi)
    simp only [List.take_succ_cons, layL, List.getElem_cons_succ, List.append_assoc, this, List.length_append]
    rw [Nat.add_assoc]

theorem lays_seq (x : Rex) (ho : x.op = 2) (h : x.is = true) (ih : ∀ k ∈ x.ks, Lays k) (hl : x.ks.length ≤ 1000) : Lays x := by
  intro ls A E hE hb
  have hget : ∀ i (hi : i < x.ks.length), (x.ks.map av)[i]? = some (x.ks[i]).av := fun i hi => by simp [hi]
  have hsz : x.size = sizeL x.ks := by rw [size_eq, ho]; rfl
  have hnn : ∀ l : List Rex, (∀ k ∈ l, k.is = true) → 0 ≤ sizeL l := by
    intro l
    induction l with
    | nil => intro _; simp [sizeL]
    | cons k l ih =>
      intro hl
      have h1 := lay_len 0 k (hl k (by simp))
      have h2 := ih fun k hk => hl k (by simp [hk])
      simp only [sizeL]; omega
  have hlen : ∀ l : List Rex, (∀ k ∈ l, k.is = true) → ∀ n, ((layL n l).length : Int) = sizeL l := by
    intro l
    induction l with
    | nil => intro _ n; simp [layL, sizeL]
    | cons k l ih =>
      intro hl n
      have h1 := lay_len n k (hl k (by simp))
      have h2 := ih (fun k hk => hl k (by simp [hk])) (n + (lay n k).length)
      simp only [layL, sizeL, List.length_append]; omega
  have htake : ∀ i (hi : i < x.ks.length), sizeL (x.ks.take i) + (x.ks[i]).size ≤ sizeL x.ks := by
    intro i hi
    have e : x.ks = x.ks.take (i + 1) ++ x.ks.drop (i + 1) := by simp
    have h2 := hnn (x.ks.drop (i + 1)) fun k hk => is_kid h (List.mem_of_mem_drop hk)
    have h3 := sizeL_append (x.ks.take (i + 1)) (x.ks.drop (i + 1))
    rw [← e] at h3
    have h4 := sizeL_take x.ks i hi
    omega
  have hend : ls ++ lay ls.length x = ls ++ layL ls.length (x.ks.take x.ks.length) := by rw [lay_eq, ho, List.take_length]; rfl
  rw [hend, av_eq, ho]
  refine Ans.of_run t21 ?_
  simp -implicitDefEqProofs only [c21, r21, go_sem, List.reduceReplicate, Nat.reduceAdd, Nat.reduceSub, Nat.reduceLT, Nat.reduceLeDiff, Nat.reduceMul, Nat.reduceEqDiff, reduceCtorEq, Int.reduceLE, Int.reduceLT, Int.reduceEq, Int.reduceNe, Int.reduceBEq, Int.reduceBNe, Int.reduceAdd, Int.reduceSub, O_lenv, lenA_row ls hE, lenA_sl, List.length_map]
  refine L.count x.ks.length (fun i => mkE 99 [(0, rowV A.length (sv (ls ++ layL ls.length (x.ks.take i)))), (23, .sl 6 (x.ks.map av)), (24, I x.ks.length), (25, I i)]) (fun i => rowS 7 A (sv (ls ++ layL ls.length (x.ks.take i))) E) ?_ ?_ ?_ ?_
  · intro i hi J hJ
    have e1 : ((i : Int) < (x.ks.length : Nat)) = True := by simp; omega
    have e2 : IntKind.i64.wrap ((i : Int) + 1) = ((i + 1 : Nat) : Int) := by rw [wrapN (by omega) (by omega)]; rfl
    have hi1 := htake i hi
    have hi2 := hlen (x.ks.take i) (fun k hk => is_kid h (List.mem_of_mem_take hk)) ls.length
    simp -implicitDefEqProofs only [mkE, List.foldl_cons, List.foldl_nil, go_sem, List.reduceReplicate, Nat.reduceAdd, Nat.reduceSub, Nat.reduceLT, Nat.reduceLeDiff, Nat.reduceMul, Nat.reduceEqDiff, reduceCtorEq, Int.reduceLE, Int.reduceLT, Int.reduceEq, Int.reduceNe, Int.reduceBEq, Int.reduceBNe, Int.reduceAdd, Int.reduceSub, e1, hget i hi]
    rw [av_eq]
    simp -implicitDefEqProofs only [go_sem, List.reduceReplicate, Nat.reduceAdd, Nat.reduceSub, Nat.reduceLT, Nat.reduceLeDiff, Nat.reduceMul, Nat.reduceEqDiff, reduceCtorEq, Int.reduceLE, Int.reduceLT, Int.reduceEq, Int.reduceNe, Int.reduceBEq, Int.reduceBNe, Int.reduceAdd, Int.reduceSub]
    rw [← av_eq]
    refine CO.intro (ih x.ks[i] (List.getElem_mem hi) (ls ++ layL ls.length (x.ks.take i)) A E (fun e => hE (by simp at e; exact e.1)) (by rw [List.length_append]; omega)) ?_
    rw [List.append_assoc, List.length_append, ← layL_take]
    simp -implicitDefEqProofs only [go_sem, List.reduceReplicate, Nat.reduceAdd, Nat.reduceSub, Nat.reduceLT, Nat.reduceLeDiff, Nat.reduceMul, Nat.reduceEqDiff, reduceCtorEq, Int.reduceLE, Int.reduceLT, Int.reduceEq, Int.reduceNe, Int.reduceBEq, Int.reduceBNe, Int.reduceAdd, Int.reduceSub, e2]
    exact hJ
  · intro J
    have e1 : (((x.ks.length : Nat) : Int) < (x.ks.length : Nat)) = False := by simp
    simp -implicitDefEqProofs only [mkE, List.foldl_cons, List.foldl_nil, go_sem, List.reduceReplicate, Nat.reduceAdd, Nat.reduceSub, Nat.reduceLT, Nat.reduceLeDiff, Nat.reduceMul, Nat.reduceEqDiff, reduceCtorEq, Int.reduceLE, Int.reduceLT, Int.reduceEq, Int.reduceNe, Int.reduceBEq, Int.reduceBNe, Int.reduceAdd, Int.reduceSub, e1]
    exact Fini.ret rfl
  · simp [layL, mkE]
  · simp [layL]
end Go.Proofs.Ytoiageeecdgleaa
