/- The steps of a tree of a pattern, as a plain list. No condition. -/
import Derived.Test.YtoadgajhkhejiaaScan2
set_option linter.unusedSimpArgs false
set_option linter.unusedVariables false
namespace Go.Proofs.Ytoadgajhkhejiaa
open Go Go.Ab
set_option maxRecDepth 100000
namespace Rex
mutual
def lay : Nat → Rex → List Stp
  | n, .mk op a b c d ks =>
    if op == 1 then [⟨1, a, b, c, d, 0, 0⟩]
    else if op == 2 then layL n ks
    else if op == 3 then layW n ((n + (layW n 0 ks).length : Nat) : Int) ks
    else if op == 4 then ⟨2, 0, 0, 0, 0, (n : Int) + 1, ((n + 2 + (layH (n + 1) ks).length : Nat) : Int)⟩ :: (layH (n + 1) ks ++ [⟨3, 0, 0, 0, 0, (n : Int), 0⟩])
    else if op == 5 then layH n ks ++ [⟨2, 0, 0, 0, 0, (n : Int), ((n + (layH n ks).length : Nat) : Int) + 1⟩]
    else if op == 6 then ⟨2, 0, 0, 0, 0, (n : Int) + 1, ((n + 1 + (layH (n + 1) ks).length : Nat) : Int)⟩ :: layH (n + 1) ks
    else []
def layL : Nat → List Rex → List Stp
  | _, [] => []
  | n, x :: xs => lay n x ++ layL (n + (lay n x).length) xs
def layH : Nat → List Rex → List Stp
  | _, [] => []
  | n, x :: _ => lay n x
def layW : Nat → Int → List Rex → List Stp
  | _, _, [] => []
  | n, fin, x :: xs => if xs.isEmpty then lay n x else
      ⟨2, 0, 0, 0, 0, (n : Int) + 1, ((n + 2 + (lay (n + 1) x).length : Nat) : Int)⟩ :: (lay (n + 1) x ++ (⟨3, 0, 0, 0, 0, fin, 0⟩ :: layW (n + 2 + (lay (n + 1) x).length) fin xs))
end
theorem lay_eq (n : Nat) (x : Rex) : lay n x = (if x.op == 1 then [⟨1, x.a, x.b, x.c, x.d, 0, 0⟩]
    else if x.op == 2 then layL n x.ks
    else if x.op == 3 then layW n ((n + (layW n 0 x.ks).length : Nat) : Int) x.ks
    else if x.op == 4 then ⟨2, 0, 0, 0, 0, (n : Int) + 1, ((n + 2 + (layH (n + 1) x.ks).length : Nat) : Int)⟩ :: (layH (n + 1) x.ks ++ [⟨3, 0, 0, 0, 0, (n : Int), 0⟩])
    else if x.op == 5 then layH n x.ks ++ [⟨2, 0, 0, 0, 0, (n : Int), ((n + (layH n x.ks).length : Nat) : Int) + 1⟩]
    else if x.op == 6 then ⟨2, 0, 0, 0, 0, (n : Int) + 1, ((n + 1 + (layH (n + 1) x.ks).length : Nat) : Int)⟩ :: layH (n + 1) x.ks
    else []) := by
  cases x; simp only [lay]; rfl
theorem is_kid {x k : Rex} (h : x.is = true) (hk : k ∈ x.ks) : k.is = true := by
  rw [is_eq] at h
  have key : (plain x && !(x.ks.any fun k => !k.is)) = true → k.is = true := by
    intro h
    simp only [Bool.and_eq_true, Bool.not_eq_true', List.any_eq_false] at h
    simpa using h.2 k hk
  split at h
  · simp at h; rw [h] at hk; cases hk
  · (repeat' split at h) <;> first | exact key h | cases h
theorem is_one_kid {x : Rex} (h : x.is = true) (ho : x.op = 4 ∨ x.op = 5 ∨ x.op = 6) : ∃ k, x.ks = [k] := by
  rw [is_eq] at h
  have key : ¬ ((x.ks.length : Int) != 1) = true → ∃ k, x.ks = [k] := by
    intro h
    simp at h
    match hk : x.ks with
    | [k] => exact ⟨k, rfl⟩
    | [] => rw [hk] at h; simp at h
    | _ :: _ :: _ => rw [hk] at h; simp at h; omega
  rcases ho with ho | ho | ho <;> rw [ho] at h <;> simp at h <;> exact key (by simp; exact_mod_cast h.1)
theorem is_some_kid {x : Rex} (h : x.is = true) (ho : x.op = 3) : x.ks ≠ [] := by
  rw [is_eq, ho] at h
  intro hk
  rw [hk] at h
  simp at h
theorem is_ops {x : Rex} (h : x.is = true) : x.op = 1 ∨ x.op = 2 ∨ x.op = 3 ∨ x.op = 4 ∨ x.op = 5 ∨ x.op = 6 := by
  rw [is_eq] at h
  by_cases h1 : x.op = 1; · exact .inl h1
  by_cases h2 : x.op = 2; · exact .inr (.inl h2)
  by_cases h3 : x.op = 3; · exact .inr (.inr (.inl h3))
  by_cases h4 : x.op = 4; · simp [h4]
  by_cases h5 : x.op = 5; · simp [h5]
  by_cases h6 : x.op = 6; · simp [h6]
  simp [h1, h2, h3, h4, h5, h6] at h
theorem lay_len (n : Nat) (x : Rex) (h : x.is = true) : ((lay n x).length : Int) = x.size := by
  have hL : ∀ (l : List Rex), (∀ k ∈ l, k ∈ x.ks) → ∀ n, ((layL n l).length : Int) = sizeL l := by
    intro l
    induction l with
    | nil => intro _ n; simp [layL, sizeL]
    | cons k l ih =>
      intro hl n
      have h1 := lay_len n k (is_kid h (hl k (by simp)))
      have h2 := ih (fun k hk => hl k (by simp [hk])) (n + (lay n k).length)
      simp only [layL, sizeL, List.length_append]
      omega
  have hW : ∀ (l : List Rex), (∀ k ∈ l, k ∈ x.ks) → ∀ n fin, l ≠ [] → ((layW n fin l).length : Int) = sizeL l + 2 * ((l.length : Int) - 1) := by
    intro l
    induction l with
    | nil => intro _ n fin h; exact absurd rfl h
    | cons k l ih =>
      intro hl n fin _
      cases l with
      | nil =>
        have h1 := lay_len n k (is_kid h (hl k (by simp)))
        simp only [layW, sizeL, List.isEmpty_nil, if_true, List.length_singleton]
        omega
      | cons k' l =>
        have h1 := lay_len (n + 1) k (is_kid h (hl k (by simp)))
        have h2 := ih (fun k hk => hl k (by simp [hk])) (n + 2 + (lay (n + 1) k).length) fin (by simp)
        rw [layW]
        simp only [List.isEmpty_cons, Bool.false_eq_true, if_false, List.length_cons, List.length_append]
        rw [sizeL]
        simp only [List.length_cons] at h2
        omega
  have hH : ∀ k, x.ks = [k] → ∀ n, ((layH n x.ks).length : Int) = sizeL x.ks := by
    intro k hk n
    rw [hk]
    have h1 := lay_len n k (is_kid h (by rw [hk]; simp))
    simp only [layH, sizeL]; omega
  rw [lay_eq, size_eq]
  rcases is_ops h with h1 | h1 | h1 | h1 | h1 | h1
  · simp [h1]
  · simp [h1]; exact hL x.ks (fun _ h => h) n
  · simp [h1]; exact hW x.ks (fun _ h => h) n _ (is_some_kid h h1)
  · obtain ⟨k, hk⟩ := is_one_kid h (.inl h1)
    have := hH k hk (n + 1)
    simp [h1]; omega
  · obtain ⟨k, hk⟩ := is_one_kid h (.inr (.inl h1))
    have := hH k hk n
    simp [h1]; omega
  · obtain ⟨k, hk⟩ := is_one_kid h (.inr (.inr h1))
    have := hH k hk (n + 1)
    simp [h1]; omega
termination_by SizeOf.sizeOf x
decreasing_by
  · exact lt_of_mem (hl k (by simp))
  · exact lt_of_mem (hl k (by simp))
  · exact lt_of_mem (hl k (by simp))
  · exact lt_of_mem (by rw [hk]; simp)
end Rex
end Go.Proofs.Ytoadgajhkhejiaa
namespace Go.Proofs.Ytoadgajhkhejiaa
open Go Go.Ab
set_option maxRecDepth 100000
open Rex
theorem get_mid (A E : St) (o : Ob) : (A ++ o :: E)[A.length]? = some o := by simp
theorem set_mid (A E : St) (o p : Ob) : (A ++ o :: E).set A.length p = A ++ p :: E := by simp
theorem CD.intro' {P : Program} {n0 : Nat} {k : List Fr} {B : Bs} {env : Env} {σ σ₀ σ' : St} {S : List St} {ob : List St → Prop} {f : FuncId} {args args₀ : List AV} {d : Option Tmp} {l : List DOper} {r : AV} (h : Ans P f args₀ σ₀ r σ') (ha : args = args₀) (hs : σ = σ₀)
    (h' : D P n0 l k B (putA env d r) (S ++ [σ']) σ' ob) : CD P n0 f args d l k B env S σ ob := by subst ha; subst hs; exact CD.intro h h'
def rowV (k : Nat) (L : List AV) : AV := if L.isEmpty then .nils else .osl k L.length
def rowS (sz : Nat) (A : St) (L : List AV) (E : St) : St := if L.isEmpty then A ++ E else A ++ .row sz L :: E
theorem rowV_nil (k : Nat) : rowV k [] = .nils := rfl
theorem rowS_nil (sz : Nat) (A : St) : rowS sz A [] [] = A := by simp [rowS]
theorem rowV_ne {k : Nat} {L : List AV} (h : L ≠ []) : rowV k L = .osl k L.length := by simp [rowV, h]
theorem rowS_ne {sz : Nat} {A E : St} {L : List AV} (h : L ≠ []) : rowS sz A L E = A ++ .row sz L :: E := by simp [rowS, h]
abbrev sv (l : List Stp) : List AV := l.map Stp.av
theorem sv_ne {l : List Stp} (h : l ≠ []) : sv l ≠ [] := by simpa [sv] using h
def Lays (x : Rex) : Prop := ∀ (ls : List Stp) (A E : St), (ls = [] → E = []) → (ls.length : Int) + x.size ≤ 1000 →
  Ans Try.prog 112 [rowV A.length (sv ls), x.av] (rowS 7 A (sv ls) E) (rowV A.length (sv (ls ++ lay ls.length x))) (rowS 7 A (sv (ls ++ lay ls.length x)) E)
theorem Lays.own {x : Rex} (h : Lays x) (ls : List Stp) (A E : St) (hne : ls ≠ []) (hb : (ls.length : Int) + x.size ≤ 1000) :
    Ans Try.prog 112 [.osl A.length ls.length, x.av] (A ++ .row 7 (sv ls) :: E) (.osl A.length (ls.length + (lay ls.length x).length)) (A ++ .row 7 (sv (ls ++ lay ls.length x)) :: E) := by
  have := h ls A E (fun e => absurd e hne) hb
  rw [rowV_ne (sv_ne hne), rowS_ne (sv_ne hne), rowV_ne (sv_ne (by simp [hne])), rowS_ne (sv_ne (by simp [hne]))] at this
  simpa [sv] using this
theorem lays_set (x : Rex) (ho : x.op = 1) : Lays x := by
  intro ls A E hE hb
  have e1 : (ls.length + 1 ≤ 2 ^ 32) = True := by
    have : x.size = 1 := by rw [size_eq, ho]; rfl
    simp; omega
  rw [lay_eq, av_eq, ho]
  rcases Classical.em (ls = []) with rfl | hne
  · have := hE rfl; subst this
    rw [sv, List.map_nil, rowV_nil, rowS_nil]
    refine Ans.of_run t112 ?_
    simp -implicitDefEqProofs only [c112, r112, go_sem, List.reduceReplicate, Nat.reduceAdd, Nat.reduceSub, Nat.reduceLT, Nat.reduceLeDiff, Nat.reduceMul, Nat.reduceEqDiff, reduceCtorEq, Int.reduceLE, Int.reduceLT, Int.reduceEq, Int.reduceNe, Int.reduceBEq, Int.reduceBNe, Int.reduceAdd, Int.reduceSub]
    refine Fini.ret2 (n := 0) rfl ?_ ?_
    · simp [rowV, Stp.av]; rfl
    · simp [rowS, Stp.av, ho]
  · rw [rowV_ne (sv_ne hne), rowS_ne (sv_ne hne), rowV_ne (sv_ne (by simp [hne])), rowS_ne (sv_ne (by simp [hne]))]
    refine Ans.of_run t112 ?_
    simp -implicitDefEqProofs only [c112, r112, go_sem, List.reduceReplicate, Nat.reduceAdd, Nat.reduceSub, Nat.reduceLT, Nat.reduceLeDiff, Nat.reduceMul, Nat.reduceEqDiff, reduceCtorEq, Int.reduceLE, Int.reduceLT, Int.reduceEq, Int.reduceNe, Int.reduceBEq, Int.reduceBNe, Int.reduceAdd, Int.reduceSub, List.length_map, get_mid, set_mid, e1]
    refine Fini.ret2 (n := 0) rfl ?_ ?_
    · simp; rfl
    · simp [Stp.av]
def lenA (σ : St) (u : AV) : Option (AV × St) := aop (fun _ => u) σ (.lenv (.tmp 0))
theorem O_lenv {P : Program} {n0 : Nat} {k : List Fr} {B : Bs} {env : Env} {σ : St} {d : Option Tmp} {x : Operand} {l : List AOper} : O P n0 (⟨d, none, .prim (.lenv x)⟩ :: l) k B env σ = (match lenA σ (aev env x) with
    | some (r, σ') => O P n0 l k B (putA env d r) σ'
    | none => False) := by rw [O_prim]; rfl
theorem lenA_sl {σ : St} {sz : Nat} {xs : List AV} : lenA σ (.sl sz xs) = some (.pl (.int .i64 xs.length), σ) := rfl
theorem lenA_row {A E : St} (ls : List Stp) (hE : ls = [] → E = []) : lenA (rowS 7 A (sv ls) E) (rowV A.length (sv ls)) = some (.pl (.int .i64 ls.length), rowS 7 A (sv ls) E) := by
  rcases Classical.em (ls = []) with rfl | hne
  · rfl
  · rw [rowV_ne (sv_ne hne), rowS_ne (sv_ne hne)]
    simp [lenA, aop]
theorem layL_take (n : Nat) : ∀ (l : List Rex) (i : Nat) (hi : i < l.length), layL n (l.take (i + 1)) = layL n (l.take i) ++ lay (n + (layL n (l.take i)).length) l[i]
  | x :: xs, 0, hi => by simp [layL]
  | x :: xs, i + 1, hi => by
    have := layL_take (n + (lay n x).length) xs i (by simpa using hi)
    simp only [List.take_succ_cons, layL, List.getElem_cons_succ, List.append_assoc, this, List.length_append]
    rw [Nat.add_assoc]
theorem lays_seq (x : Rex) (ho : x.op = 2) (h : x.is = true) (ih : ∀ k ∈ x.ks, Lays k) (hl : x.ks.length ≤ 1000) : Lays x := by
  intro ls A E hE hb
  have hget : ∀ i (hi : i < x.ks.length), (x.ks.map av)[i]? = some (x.ks[i]).av := fun i hi => by simp [hi]
  have hsz : x.size = sizeL x.ks := by rw [size_eq, ho]; rfl
  have hnn : ∀ l : List Rex, (∀ k ∈ l, k.is = true) → 0 ≤ sizeL l := by
    intro l
    induction l with
    | nil => intro _; simp [sizeL]
    | cons k l ih =>
      intro hl
      have h1 := lay_len 0 k (hl k (by simp))
      have h2 := ih fun k hk => hl k (by simp [hk])
      simp only [sizeL]; omega
  have hlen : ∀ l : List Rex, (∀ k ∈ l, k.is = true) → ∀ n, ((layL n l).length : Int) = sizeL l := by
    intro l
    induction l with
    | nil => intro _ n; simp [layL, sizeL]
    | cons k l ih =>
      intro hl n
      have h1 := lay_len n k (hl k (by simp))
      have h2 := ih (fun k hk => hl k (by simp [hk])) (n + (lay n k).length)
      simp only [layL, sizeL, List.length_append]; omega
  have htake : ∀ i (hi : i < x.ks.length), sizeL (x.ks.take i) + (x.ks[i]).size ≤ sizeL x.ks := by
    intro i hi
    have e : x.ks = x.ks.take (i + 1) ++ x.ks.drop (i + 1) := by simp
    have h2 := hnn (x.ks.drop (i + 1)) fun k hk => is_kid h (List.mem_of_mem_drop hk)
    have h3 := sizeL_append (x.ks.take (i + 1)) (x.ks.drop (i + 1))
    rw [← e] at h3
    have h4 := sizeL_take x.ks i hi
    omega
  have hend : ls ++ lay ls.length x = ls ++ layL ls.length (x.ks.take x.ks.length) := by rw [lay_eq, ho, List.take_length]; rfl
  rw [hend, av_eq, ho]
  refine Ans.of_run t112 ?_
  simp -implicitDefEqProofs only [c112, r112, go_sem, List.reduceReplicate, Nat.reduceAdd, Nat.reduceSub, Nat.reduceLT, Nat.reduceLeDiff, Nat.reduceMul, Nat.reduceEqDiff, reduceCtorEq, Int.reduceLE, Int.reduceLT, Int.reduceEq, Int.reduceNe, Int.reduceBEq, Int.reduceBNe, Int.reduceAdd, Int.reduceSub, O_lenv, lenA_row ls hE, lenA_sl, List.length_map]
  refine L.count x.ks.length (fun i => mkE 99 [(0, rowV A.length (sv (ls ++ layL ls.length (x.ks.take i)))), (23, .sl 6 (x.ks.map av)), (24, I x.ks.length), (25, I i)]) (fun i => rowS 7 A (sv (ls ++ layL ls.length (x.ks.take i))) E) ?_ ?_ ?_ ?_
  · intro i hi J hJ
    have e1 : ((i : Int) < (x.ks.length : Nat)) = True := by simp; omega
    have e2 : IntKind.i64.wrap ((i : Int) + 1) = ((i + 1 : Nat) : Int) := by rw [wrapN (by omega) (by omega)]; rfl
    have hi1 := htake i hi
    have hi2 := hlen (x.ks.take i) (fun k hk => is_kid h (List.mem_of_mem_take hk)) ls.length
    simp -implicitDefEqProofs only [mkE, List.foldl_cons, List.foldl_nil, go_sem, List.reduceReplicate, Nat.reduceAdd, Nat.reduceSub, Nat.reduceLT, Nat.reduceLeDiff, Nat.reduceMul, Nat.reduceEqDiff, reduceCtorEq, Int.reduceLE, Int.reduceLT, Int.reduceEq, Int.reduceNe, Int.reduceBEq, Int.reduceBNe, Int.reduceAdd, Int.reduceSub, e1, hget i hi]
    rw [av_eq]
    simp -implicitDefEqProofs only [go_sem, List.reduceReplicate, Nat.reduceAdd, Nat.reduceSub, Nat.reduceLT, Nat.reduceLeDiff, Nat.reduceMul, Nat.reduceEqDiff, reduceCtorEq, Int.reduceLE, Int.reduceLT, Int.reduceEq, Int.reduceNe, Int.reduceBEq, Int.reduceBNe, Int.reduceAdd, Int.reduceSub]
    rw [← av_eq]
    refine CO.intro (ih x.ks[i] (List.getElem_mem hi) (ls ++ layL ls.length (x.ks.take i)) A E (fun e => hE (by simp at e; exact e.1)) (by rw [List.length_append]; omega)) ?_
    rw [List.append_assoc, List.length_append, ← layL_take]
    simp -implicitDefEqProofs only [go_sem, List.reduceReplicate, Nat.reduceAdd, Nat.reduceSub, Nat.reduceLT, Nat.reduceLeDiff, Nat.reduceMul, Nat.reduceEqDiff, reduceCtorEq, Int.reduceLE, Int.reduceLT, Int.reduceEq, Int.reduceNe, Int.reduceBEq, Int.reduceBNe, Int.reduceAdd, Int.reduceSub, e2]
    exact hJ
  · intro J
    have e1 : (((x.ks.length : Nat) : Int) < (x.ks.length : Nat)) = False := by simp
    simp -implicitDefEqProofs only [mkE, List.foldl_cons, List.foldl_nil, go_sem, List.reduceReplicate, Nat.reduceAdd, Nat.reduceSub, Nat.reduceLT, Nat.reduceLeDiff, Nat.reduceMul, Nat.reduceEqDiff, reduceCtorEq, Int.reduceLE, Int.reduceLT, Int.reduceEq, Int.reduceNe, Int.reduceBEq, Int.reduceBNe, Int.reduceAdd, Int.reduceSub, e1]
    exact Fini.ret rfl
  · simp [layL, mkE]
  · simp [layL]
end Go.Proofs.Ytoadgajhkhejiaa
namespace Go.Proofs.Ytoadgajhkhejiaa
open Go Go.Ab
set_option maxRecDepth 100000
open Rex
theorem size_kid {x k : Rex} (hk : x.ks = [k]) : sizeL x.ks = k.size := by rw [hk]; simp [sizeL]
theorem map_kid (k : Rex) : List.map av [k] = [.agg [I k.op, U k.a, U k.b, U k.c, U k.d, .sl 6 (k.ks.map av)]] := by rw [List.map_cons, List.map_nil, av_eq]
theorem row_intro {P : Program} {f : FuncId} {more : List AV} {ls M : List Stp} {A E : St} (hE : ls = [] → E = []) (hM : M ≠ [])
    (h1 : ls = [] → Ans P f (.nils :: more) A (.osl A.length M.length) (A ++ [.row 7 (sv M)]))
    (h2 : ls ≠ [] → Ans P f (.osl A.length ls.length :: more) (A ++ .row 7 (sv ls) :: E) (.osl A.length (ls.length + M.length)) (A ++ .row 7 (sv (ls ++ M)) :: E)) :
    Ans P f (rowV A.length (sv ls) :: more) (rowS 7 A (sv ls) E) (rowV A.length (sv (ls ++ M))) (rowS 7 A (sv (ls ++ M)) E) := by
  rw [rowV_ne (sv_ne (show ls ++ M ≠ [] by simp [hM])), rowS_ne (sv_ne (show ls ++ M ≠ [] by simp [hM]))]
  rcases Classical.em (ls = []) with rfl | hne
  · have := hE rfl
    subst this
    have := h1 rfl
    simpa [rowS, rowV, sv] using this
  · have := h2 hne
    rw [rowV_ne (sv_ne hne), rowS_ne (sv_ne hne)]
    simpa [sv] using this
theorem getm {α : Type} (f : α → AV) (l : List α) (a : AV) (M : List AV) : (l.map f ++ a :: M)[l.length]? = some a := by
  rw [List.getElem?_append_right (by simp)]; simp
theorem setm {α : Type} (f : α → AV) (l : List α) (a b : AV) (M : List AV) : (l.map f ++ a :: M).set l.length b = l.map f ++ b :: M := by
  rw [List.set_append_right _ _ (by simp)]; simp
theorem p32 : (1 ≤ 2 ^ 32) = True := by simp
theorem w1 : IntKind.i64.wrap 1 = 1 := by decide
theorem lays_plus (x k : Rex) (ho : x.op = 5) (hk : x.ks = [k]) (h : x.is = true) (ih : Lays k) : Lays x := by
  intro ls A E hE hb
  have hsz : x.size = k.size + 1 := by rw [size_eq, ho, size_kid hk]; rfl
  have hkl := lay_len ls.length k (is_kid h (by rw [hk]; simp))
  have hxl : lay ls.length x = lay ls.length k ++ [⟨2, 0, 0, 0, 0, ls.length, ((ls.length + (lay ls.length k).length : Nat) : Int) + 1⟩] := by rw [lay_eq, ho, hk]; rfl
  rw [hxl, av_eq, ho, hk, map_kid]
  have e3 : IntKind.i64.wrap (((ls.length + (lay ls.length k).length : Nat) : Int) + 1) = ((ls.length + (lay ls.length k).length : Nat) : Int) + 1 := wrapN (by omega) (by omega)
  have e4 : (ls.length + (lay ls.length k).length + 1 ≤ 2 ^ 32) = True := by simp; omega
  have e5 : (ls ++ lay ls.length k).length = ls.length + (lay ls.length k).length := List.length_append
  refine Ans.of_run t112 ?_
  simp -implicitDefEqProofs only [c112, r112, go_sem, List.reduceReplicate, Nat.reduceAdd, Nat.reduceSub, Nat.reduceLT, Nat.reduceLeDiff, Nat.reduceMul, Nat.reduceEqDiff, reduceCtorEq, Int.reduceLE, Int.reduceLT, Int.reduceEq, Int.reduceNe, Int.reduceBEq, Int.reduceBNe, Int.reduceAdd, Int.reduceSub, O_lenv, lenA_row ls hE, lenA_sl, List.length_map]
  refine CO.intro' (ih ls A E hE (by omega)) (by rw [av_eq]; rfl) rfl ?_
  rcases Classical.em (ls ++ lay ls.length k = []) with hne | hne
  · have hls : ls = [] := (List.append_eq_nil_iff.1 hne).1
    have hE' := hE hls
    subst hls; subst hE'
    have hk0 : lay 0 k = [] := by simpa using hne
    have hk1 : lay ([] : List Stp).length k = [] := hk0
    have e6 : IntKind.i64.wrap (0 + 1) = 1 := by decide
    have e6' : IntKind.i64.wrap 1 = 1 := by decide
    rw [hne, hk1]
    rw [sv, List.map_nil, rowV_nil, rowS_nil]
    simp -implicitDefEqProofs only [go_sem, List.reduceReplicate, Nat.reduceAdd, Nat.reduceSub, Nat.reduceLT, Nat.reduceLeDiff, Nat.reduceMul, Nat.reduceEqDiff, reduceCtorEq, Int.reduceLE, Int.reduceLT, Int.reduceEq, Int.reduceNe, Int.reduceBEq, Int.reduceBNe, Int.reduceAdd, Int.reduceSub, e6]
    refine Fini.ret2 (n := 0) rfl ?_ ?_
    · simp [rowV]; rfl
    · simp [rowS, Stp.av, e6']
  · have hne2 : ls ++ (lay ls.length k ++ [⟨2, 0, 0, 0, 0, ls.length, ((ls.length + (lay ls.length k).length : Nat) : Int) + 1⟩]) ≠ [] := by simp
    rw [rowV_ne (sv_ne hne), rowS_ne (sv_ne hne), rowV_ne (sv_ne hne2), rowS_ne (sv_ne hne2)]
    simp -implicitDefEqProofs only [go_sem, List.reduceReplicate, Nat.reduceAdd, Nat.reduceSub, Nat.reduceLT, Nat.reduceLeDiff, Nat.reduceMul, Nat.reduceEqDiff, reduceCtorEq, Int.reduceLE, Int.reduceLT, Int.reduceEq, Int.reduceNe, Int.reduceBEq, Int.reduceBNe, Int.reduceAdd, Int.reduceSub, List.length_map, get_mid, set_mid, e5, e3, e4]
    refine Fini.ret2 (n := 0) rfl ?_ ?_
    · simp; rfl
    · simp [Stp.av]
theorem lays_star (x k : Rex) (ho : x.op = 4) (hk : x.ks = [k]) (h : x.is = true) (ih : Lays k) : Lays x := by
  intro ls A E hE hb
  have hsz : x.size = k.size + 2 := by rw [size_eq, ho, size_kid hk]; rfl
  have hkl := lay_len (ls.length + 1) k (is_kid h (by rw [hk]; simp))
  have hxl : lay ls.length x = ⟨2, 0, 0, 0, 0, (ls.length : Int) + 1, ((ls.length + 2 + (lay (ls.length + 1) k).length : Nat) : Int)⟩ :: (lay (ls.length + 1) k ++ [⟨3, 0, 0, 0, 0, ls.length, 0⟩]) := by rw [lay_eq, ho, hk]; rfl
  rw [hxl, av_eq, ho, hk, map_kid]
  have e3 : IntKind.i64.wrap ((ls.length : Int) + 1) = (ls.length : Int) + 1 := wrapN (by omega) (by omega)
  have e4 : (ls.length + 1 ≤ 2 ^ 32) = True := by simp; omega
  have hkid := (ih.own (ls ++ [⟨2, 0, 0, 0, 0, (ls.length : Int) + 1, 0⟩]) A E (by simp) (by simp; omega))
  have e5 : (ls ++ [(⟨2, 0, 0, 0, 0, (ls.length : Int) + 1, 0⟩ : Stp)]).length = ls.length + 1 := by simp
  rw [e5] at hkid
  generalize lay (ls.length + 1) k = K at hkid hkl ⊢
  refine row_intro hE (by simp) (fun hls => ?_) (fun hne => ?_)
  · have hE' := hE hls
    subst hls; subst hE'
    have e6 : (K.length + 2 ≤ 2 ^ 32) = True := by simp; omega
    have e7 : ((0 : Int) < ((K.length + 2 : Nat) : Int)) = True := by simp; omega
    have e8 : ([] : List Stp).length + 1 + K.length = K.length + 1 := by simp; omega
    rw [e8] at hkid
    refine Ans.of_run t112 ?_
    simp -implicitDefEqProofs only [c112, r112, go_sem, List.reduceReplicate, Nat.reduceAdd, Nat.reduceSub, Nat.reduceLT, Nat.reduceLeDiff, Nat.reduceMul, Nat.reduceEqDiff, reduceCtorEq, Int.reduceLE, Int.reduceLT, Int.reduceEq, Int.reduceNe, Int.reduceBEq, Int.reduceBNe, Int.reduceAdd, Int.reduceSub, p32, w1, Int.toNat_zero]
    refine CD.intro' hkid ?_ ?_ ?_
    · rw [av_eq] <;> rfl
    · simp [Stp.av, sv]
    simp -implicitDefEqProofs only [go_sem, List.reduceReplicate, Nat.reduceAdd, Nat.reduceSub, Nat.reduceLT, Nat.reduceLeDiff, Nat.reduceMul, Nat.reduceEqDiff, reduceCtorEq, Int.reduceLE, Int.reduceLT, Int.reduceEq, Int.reduceNe, Int.reduceBEq, Int.reduceBNe, Int.reduceAdd, Int.reduceSub, get_mid, set_mid, List.length_map, List.length_append, e6, e7, sv, Stp.av, Int.toNat_zero, Nat.add_assoc]
    refine Fini.ret2 (n := 0) rfl ?_ ?_
    · rfl
    · simp [Stp.av]; omega
  · have e6 : (ls.length + (K.length + 2) ≤ 2 ^ 32) = True := by simp; omega
    have e7 : ((ls.length : Int) < ((ls.length + (K.length + 2) : Nat) : Int)) = True := by simp; omega
    have e8 : ls.length + 1 + K.length = ls.length + (K.length + 1) := by omega
    rw [e8] at hkid
    refine Ans.of_run t112 ?_
    simp -implicitDefEqProofs only [c112, r112, go_sem, List.reduceReplicate, Nat.reduceAdd, Nat.reduceSub, Nat.reduceLT, Nat.reduceLeDiff, Nat.reduceMul, Nat.reduceEqDiff, reduceCtorEq, Int.reduceLE, Int.reduceLT, Int.reduceEq, Int.reduceNe, Int.reduceBEq, Int.reduceBNe, Int.reduceAdd, Int.reduceSub, get_mid, set_mid, List.length_map, List.length_append, e4, e3, Int.toNat_zero]
    refine CD.intro' hkid ?_ ?_ ?_
    · rw [av_eq] <;> rfl
    · simp [Stp.av, sv]
    simp -implicitDefEqProofs only [go_sem, List.reduceReplicate, Nat.reduceAdd, Nat.reduceSub, Nat.reduceLT, Nat.reduceLeDiff, Nat.reduceMul, Nat.reduceEqDiff, reduceCtorEq, Int.reduceLE, Int.reduceLT, Int.reduceEq, Int.reduceNe, Int.reduceBEq, Int.reduceBNe, Int.reduceAdd, Int.reduceSub, get_mid, set_mid, List.length_map, List.length_append, List.map_append, List.append_assoc, e6, e7, sv, Stp.av, Nat.add_assoc, getm, setm]
    refine Fini.ret2 (n := 0) rfl ?_ ?_
    · rfl
    · simp [Stp.av]; omega
theorem lays_maybe (x k : Rex) (ho : x.op = 6) (hk : x.ks = [k]) (h : x.is = true) (ih : Lays k) : Lays x := by
  intro ls A E hE hb
  have hsz : x.size = k.size + 1 := by rw [size_eq, ho, size_kid hk]; rfl
  have hkl := lay_len (ls.length + 1) k (is_kid h (by rw [hk]; simp))
  have hxl : lay ls.length x = ⟨2, 0, 0, 0, 0, (ls.length : Int) + 1, ((ls.length + 1 + (lay (ls.length + 1) k).length : Nat) : Int)⟩ :: lay (ls.length + 1) k := by rw [lay_eq, ho, hk]; rfl
  rw [hxl, av_eq, ho, hk, map_kid]
  have e3 : IntKind.i64.wrap ((ls.length : Int) + 1) = (ls.length : Int) + 1 := wrapN (by omega) (by omega)
  have e4 : (ls.length + 1 ≤ 2 ^ 32) = True := by simp; omega
  have hkid := (ih.own (ls ++ [⟨2, 0, 0, 0, 0, (ls.length : Int) + 1, 0⟩]) A E (by simp) (by simp; omega))
  have e5 : (ls ++ [(⟨2, 0, 0, 0, 0, (ls.length : Int) + 1, 0⟩ : Stp)]).length = ls.length + 1 := by simp
  rw [e5] at hkid
  generalize lay (ls.length + 1) k = K at hkid hkl ⊢
  refine row_intro hE (by simp) (fun hls => ?_) (fun hne => ?_)
  · have hE' := hE hls
    subst hls; subst hE'
    have e6 : (K.length + 1 ≤ 2 ^ 32) = True := by simp; omega
    have e7 : ((0 : Int) < ((K.length + 1 : Nat) : Int)) = True := by simp <;> omega
    have e8 : ([] : List Stp).length + 1 + K.length = K.length + 1 := by simp; omega
    rw [e8] at hkid
    refine Ans.of_run t112 ?_
    simp -implicitDefEqProofs only [c112, r112, go_sem, List.reduceReplicate, Nat.reduceAdd, Nat.reduceSub, Nat.reduceLT, Nat.reduceLeDiff, Nat.reduceMul, Nat.reduceEqDiff, reduceCtorEq, Int.reduceLE, Int.reduceLT, Int.reduceEq, Int.reduceNe, Int.reduceBEq, Int.reduceBNe, Int.reduceAdd, Int.reduceSub, p32, w1, Int.toNat_zero]
    refine CD.intro' hkid ?_ ?_ ?_
    · rw [av_eq] <;> rfl
    · simp [Stp.av, sv]
    simp -implicitDefEqProofs only [go_sem, List.reduceReplicate, Nat.reduceAdd, Nat.reduceSub, Nat.reduceLT, Nat.reduceLeDiff, Nat.reduceMul, Nat.reduceEqDiff, reduceCtorEq, Int.reduceLE, Int.reduceLT, Int.reduceEq, Int.reduceNe, Int.reduceBEq, Int.reduceBNe, Int.reduceAdd, Int.reduceSub, get_mid, set_mid, List.length_map, List.length_append, e6, e7, sv, Stp.av, Int.toNat_zero, Nat.add_assoc]
    refine Fini.ret2 (n := 0) rfl ?_ ?_
    · rfl
    · simp [Stp.av]; omega
  · have e6 : (ls.length + (K.length + 1) ≤ 2 ^ 32) = True := by simp; omega
    have e7 : ((ls.length : Int) < ((ls.length + (K.length + 1) : Nat) : Int)) = True := by simp; omega
    have e8 : ls.length + 1 + K.length = ls.length + (K.length + 1) := by omega
    rw [e8] at hkid
    refine Ans.of_run t112 ?_
    simp -implicitDefEqProofs only [c112, r112, go_sem, List.reduceReplicate, Nat.reduceAdd, Nat.reduceSub, Nat.reduceLT, Nat.reduceLeDiff, Nat.reduceMul, Nat.reduceEqDiff, reduceCtorEq, Int.reduceLE, Int.reduceLT, Int.reduceEq, Int.reduceNe, Int.reduceBEq, Int.reduceBNe, Int.reduceAdd, Int.reduceSub, get_mid, set_mid, List.length_map, List.length_append, e4, e3, Int.toNat_zero]
    refine CD.intro' hkid ?_ ?_ ?_
    · rw [av_eq] <;> rfl
    · simp [Stp.av, sv]
    simp -implicitDefEqProofs only [go_sem, List.reduceReplicate, Nat.reduceAdd, Nat.reduceSub, Nat.reduceLT, Nat.reduceLeDiff, Nat.reduceMul, Nat.reduceEqDiff, reduceCtorEq, Int.reduceLE, Int.reduceLT, Int.reduceEq, Int.reduceNe, Int.reduceBEq, Int.reduceBNe, Int.reduceAdd, Int.reduceSub, get_mid, set_mid, List.length_map, List.length_append, List.map_append, List.append_assoc, e6, e7, sv, Stp.av, Nat.add_assoc, getm, setm]
    refine Fini.ret2 (n := 0) rfl ?_ ?_
    · rfl
    · simp [Stp.av]; omega
end Go.Proofs.Ytoadgajhkhejiaa
namespace Go.Proofs.Ytoadgajhkhejiaa
open Go Go.Ab
set_option maxRecDepth 100000
namespace Rex
def preW : Nat → (Nat → Int) → List Rex → List Stp
  | _, _, [] => []
  | n, f, x :: xs => ⟨2, 0, 0, 0, 0, (n : Int) + 1, ((n + 2 + (lay (n + 1) x).length : Nat) : Int)⟩ :: (lay (n + 1) x ++ (⟨3, 0, 0, 0, 0, f 0, 0⟩ :: preW (n + 2 + (lay (n + 1) x).length) (fun t => f (t + 1)) xs))
def jmpW : Nat → List Rex → List Int
  | _, [] => []
  | n, x :: xs => ((n + 1 + (lay (n + 1) x).length : Nat) : Int) :: jmpW (n + 2 + (lay (n + 1) x).length) xs
theorem jmpW_len (n : Nat) (l : List Rex) : (jmpW n l).length = l.length := by
  induction l generalizing n with
  | nil => rfl
  | cons x xs ih => simp [jmpW, ih]
theorem preW_len (n : Nat) (f g : Nat → Int) (l : List Rex) : (preW n f l).length = (preW n g l).length := by
  induction l generalizing n f g with
  | nil => rfl
  | cons x xs ih => simp only [preW, List.length_cons, List.length_append, ih _ (fun t => f (t + 1)) (fun t => g (t + 1))]
theorem layW_pre (n : Nat) (fin : Int) (l : List Rex) (x : Rex) : layW n fin (l ++ [x]) = preW n (fun _ => fin) l ++ lay (n + (preW n (fun _ => 0) l).length) x := by
  induction l generalizing n with
  | nil => simp [layW, preW]
  | cons y ys ih =>
    rw [List.cons_append, layW]
    have : (ys ++ [x]).isEmpty = false := by simp
    rw [this]
    simp only [Bool.false_eq_true, if_false, preW, ih, List.cons_append, List.append_assoc, List.length_cons, List.length_append]
    rw [show n + 2 + (lay (n + 1) y).length + (preW (n + 2 + (lay (n + 1) y).length) (fun _ => 0) ys).length = n + ((lay (n + 1) y).length + ((preW (n + 2 + (lay (n + 1) y).length) (fun _ => 0) ys).length + 1) + 1) by omega]
theorem preW_snoc (n : Nat) (f : Nat → Int) (l : List Rex) (x : Rex) : preW n f (l ++ [x]) = preW n f l ++
    (⟨2, 0, 0, 0, 0, ((n + (preW n f l).length : Nat) : Int) + 1, ((n + (preW n f l).length + 2 + (lay (n + (preW n f l).length + 1) x).length : Nat) : Int)⟩ :: (lay (n + (preW n f l).length + 1) x ++ [⟨3, 0, 0, 0, 0, f l.length, 0⟩])) := by
  induction l generalizing n f with
  | nil => simp [preW]
  | cons y ys ih =>
    have e : n + 2 + (lay (n + 1) y).length + (preW (n + 2 + (lay (n + 1) y).length) (fun t => f (t + 1)) ys).length = n + ((lay (n + 1) y).length + ((preW (n + 2 + (lay (n + 1) y).length) (fun t => f (t + 1)) ys).length + 1) + 1) := by omega
    simp only [List.cons_append, preW, ih, List.append_assoc, List.length_cons, List.length_append, e]
theorem jmpW_snoc (n : Nat) (f : Nat → Int) (l : List Rex) (x : Rex) : jmpW n (l ++ [x]) = jmpW n l ++ [((n + (preW n f l).length + 1 + (lay (n + (preW n f l).length + 1) x).length : Nat) : Int)] := by
  induction l generalizing n f with
  | nil => simp [jmpW, preW]
  | cons y ys ih =>
    have e : n + 2 + (lay (n + 1) y).length + (preW (n + 2 + (lay (n + 1) y).length) (fun t => f (t + 1)) ys).length = n + ((lay (n + 1) y).length + ((preW (n + 2 + (lay (n + 1) y).length) (fun t => f (t + 1)) ys).length + 1) + 1) := by omega
    simp only [List.cons_append, jmpW, preW, ih _ (fun t => f (t + 1)), List.length_cons, List.length_append, e]
theorem jump_at (ls : List Stp) (f : Nat → Int) (l : List Rex) (T : List Stp) (i : Nat) (hi : i < l.length) : ∃ j : Nat, (jmpW ls.length l)[i]? = some (j : Int) ∧ j < (ls ++ preW ls.length f l).length ∧
    (ls ++ (preW ls.length f l ++ T))[j]? = some ⟨3, 0, 0, 0, 0, f i, 0⟩ ∧ ∀ v, (ls ++ (preW ls.length f l ++ T)).set j ⟨3, 0, 0, 0, 0, v, 0⟩ = ls ++ (preW ls.length (fun t => if t = i then v else f t) l ++ T) := by
  induction l generalizing ls f i with
  | nil => simp at hi
  | cons x xs ih =>
    cases i with
    | zero =>
      refine ⟨ls.length + 1 + (lay (ls.length + 1) x).length, by simp [jmpW], by simp [preW]; omega, ?_, fun v => ?_⟩
      · rw [preW, List.getElem?_append_right (by omega)]
        simp only [List.cons_append, List.append_assoc]
        rw [show ls.length + 1 + (lay (ls.length + 1) x).length - ls.length = (lay (ls.length + 1) x).length + 1 by omega, List.getElem?_cons_succ, List.getElem?_append_right (by omega)]
        simp
      · rw [preW, List.set_append_right _ _ (by omega)]
        simp only [List.cons_append, List.append_assoc]
        rw [show ls.length + 1 + (lay (ls.length + 1) x).length - ls.length = (lay (ls.length + 1) x).length + 1 by omega, List.set_cons_succ, List.set_append_right _ _ (by omega)]
        simp [preW]
    | succ i =>
      have e : ls.length + 2 + (lay (ls.length + 1) x).length = (ls ++ ((⟨2, 0, 0, 0, 0, (ls.length : Int) + 1, ((ls.length + 2 + (lay (ls.length + 1) x).length : Nat) : Int)⟩ : Stp) :: (lay (ls.length + 1) x ++ [(⟨3, 0, 0, 0, 0, f 0, 0⟩ : Stp)]))).length := by simp; omega
      obtain ⟨j, h1, h2, h3, h4⟩ := ih (ls ++ (⟨2, 0, 0, 0, 0, (ls.length : Int) + 1, ((ls.length + 2 + (lay (ls.length + 1) x).length : Nat) : Int)⟩ :: (lay (ls.length + 1) x ++ [⟨3, 0, 0, 0, 0, f 0, 0⟩]))) (fun t => f (t + 1)) i (by simpa using hi)
      rw [← e] at h1 h2 h3 h4
      refine ⟨j, by rw [jmpW]; simpa using h1, by simpa [preW] using h2, by simpa [preW] using h3, fun v => ?_⟩
      have := h4 v
      simp only [List.cons_append, List.append_assoc, List.nil_append] at this
      simp only [preW, List.cons_append, List.append_assoc, this]
      simp
end Rex
end Go.Proofs.Ytoadgajhkhejiaa
