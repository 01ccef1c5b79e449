/- What statements draw: names, values, patterns, matchers. No condition. -/
import Derived.Test.YtoadgajhkhejiaaMDr1
import Derived.Test.YtoadgajhkhejiaaAbSX
import Derived.Test.YtoadgajhkhejiaaAbFrame
import Derived.Test.YtoadgajhkhejiaaAbStay
set_option linter.unusedSimpArgs false
set_option linter.unusedVariables false
namespace Go.Proofs.Ytoadgajhkhejiaa
open Go Go.Ab
set_option maxRecDepth 100000

abbrev I (n : Int) : AV := .pl (.int .i64 n)
abbrev Bo (b : Bool) : AV := .pl (.bool b)
abbrev Sx (s : ByteArray) : AV := .pl (.string s)
theorem wrapN {n : Int} (h : -9223372036854775808 ≤ n) (h' : n < 9223372036854775808) : IntKind.i64.wrap n = n := by
  simp only [IntKind.wrap, IntKind.bits, IntKind.signed]; simp; omega
theorem bel_all {args : List AV} (h : belL 0 args = true) : ∀ a ∈ args, Bel 0 a := fun a ha => by
  obtain ⟨i, hi, rfl⟩ := List.getElem_of_mem ha
  exact Bel.of_mem (belL_ok 0 args h) i hi
theorem Fini.ret2 {n m : Nat} {rvs : List RV} {r r' : AV} {σ σ' : St} {env : Env} (h : resA env σ rvs = some r') (e : r' = r) (e' : σ = σ') : Fini m rvs r σ' .ret env σ := by
  subst e; subst e'; exact Fini.ret h
theorem Fini.trim2 {m : Nat} {rvs : List RV} {r : AV} {σ σ' ex : St} {env : Env} (h : resA env σ rvs = some r) (he : σ = σ' ++ ex) (hl : m ≤ σ'.length) (hb : Bel σ'.length r) (ho : ∀ o ∈ σ', BelO σ'.length o) : Fini m rvs r σ' .ret env σ := by
  subst he
  exact ⟨r, σ' ++ ex, h, rfl, rfl, .inr ⟨hl, by simp, hb, ho⟩⟩

def names : List ByteArray := [⟨#[115, 101, 118]⟩, ⟨#[106, 111, 98]⟩, ⟨#[104, 111, 115, 116]⟩, ⟨#[95, 120]⟩, ⟨#[90, 111, 110, 101, 57]⟩]
def values : List ByteArray := [⟨#[97]⟩, ⟨#[98]⟩, ⟨#[99, 114, 105, 116]⟩, ⟨#[119, 97, 114, 110]⟩, ⟨#[97, 98]⟩, ⟨#[0, 255]⟩, ⟨#[97, 98, 97, 98, 97, 98, 97, 98, 97, 98, 97, 98, 97, 98, 97, 98, 97, 98, 97, 98, 97, 98, 97, 98]⟩]
def pats : List ByteArray := [⟨#[97, 124, 98]⟩, ⟨#[]⟩, ⟨#[40, 99, 114, 105, 116, 124, 119, 97, 114, 110, 41]⟩, ⟨#[91, 97, 45, 99, 93, 43, 46, 42]⟩, ⟨#[46, 43]⟩, ⟨#[40, 97, 98, 41, 42]⟩, ⟨#[97, 63, 98, 63]⟩, ⟨#[91, 94, 97, 93, 42]⟩, ⟨#[97, 42, 97, 42, 97, 42, 97, 42, 97, 42, 97, 42, 97, 42, 97, 42, 97, 42, 97, 42, 97, 42, 97, 42, 97, 42, 97, 42]⟩]

def emodW (n lo hi : Int) : Int := lo + n % (hi - lo + 1)
def inD (n lo hi : Int) : Int := if lo ≤ n ∧ n ≤ hi then n else emodW n lo hi
theorem emodW_in (n lo hi : Int) (h : lo ≤ hi) : lo ≤ emodW n lo hi ∧ emodW n lo hi ≤ hi := by
  unfold emodW
  have h1 := Int.emod_nonneg n (show hi - lo + 1 ≠ 0 by omega)
  have h2 := Int.emod_lt_of_pos n (show 0 < hi - lo + 1 by omega)
  omega
theorem inD_in (n lo hi : Int) (h : lo ≤ hi) : lo ≤ inD n lo hi ∧ inD n lo hi ≤ hi := by
  unfold inD
  split
  · assumption
  · exact emodW_in n lo hi h
def nameOf (n : Int) : ByteArray := names.getD (inD n 0 4).toNat ⟨#[]⟩
def valueOf (n : Int) : ByteArray := values.getD (inD n 0 6).toNat ⟨#[]⟩
def patOf (n : Int) : ByteArray := pats.getD (inD n 0 8).toNat ⟨#[]⟩
theorem getD_mem {l : List ByteArray} {k : Nat} (h : k < l.length) (d : ByteArray) : l.getD k d ∈ l := by
  rw [List.getD_eq_getElem?_getD, List.getElem?_eq_getElem h]; exact List.getElem_mem h
theorem nameOf_mem (n : Int) : nameOf n ∈ names := by
  have h := inD_in n 0 4 (by omega)
  unfold nameOf
  have : (inD n 0 4).toNat < 5 := by omega
  exact getD_mem this _
theorem valueOf_mem (n : Int) : valueOf n ∈ values := by
  have h := inD_in n 0 6 (by omega)
  unfold valueOf
  have : (inD n 0 6).toNat < 7 := by omega
  exact getD_mem this _
theorem patOf_mem (n : Int) : patOf n ∈ pats := by
  have h := inD_in n 0 8 (by omega)
  unfold patOf
  have : (inD n 0 8).toNat < 9 := by omega
  exact getD_mem this _

section
variable (σ : St)
theorem within_ans (n lo hi : Int) (h0 : 0 ≤ lo) (h1 : lo ≤ hi) (h2 : hi ≤ 100) : Ans Try.prog 60 [I n, I lo, I hi] σ (I (emodW n lo hi)) σ := by
  have e1 : IntKind.i64.wrap (hi - lo) = hi - lo := wrapN (by omega) (by omega)
  have e2 : IntKind.i64.wrap (hi - lo + 1) = hi - lo + 1 := wrapN (by omega) (by omega)
  have e3 : ((hi - lo + 1) = 0) = False := by simp; omega
  have h3 := Int.emod_nonneg n (show hi - lo + 1 ≠ 0 by omega)
  have h4 := Int.emod_lt_of_pos n (show 0 < hi - lo + 1 by omega)
  have h5 := Int.tmod_eq_emod (a := n) (b := hi - lo + 1)
  unfold emodW
  generalize hm : n % (hi - lo + 1) = m at h3 h4 h5
  have h6 : n.tmod (hi - lo + 1) = m ∨ n.tmod (hi - lo + 1) = m - (hi - lo + 1) := by
    rw [h5]
    split
    · left; omega
    · right; omega
  refine Ans.of_run t60 ?_
  simp -implicitDefEqProofs only [c60, r60, go_sem, List.reduceReplicate, Nat.reduceAdd, Nat.reduceSub, Nat.reduceLT, Nat.reduceLeDiff, Nat.reduceMul, Nat.reduceEqDiff, reduceCtorEq, Int.reduceLE, Int.reduceLT, Int.reduceEq, Int.reduceNe, Int.reduceBEq, Int.reduceBNe, Int.reduceAdd, Int.reduceSub, e1, e2, e3]
  generalize n.tmod (hi - lo + 1) = r at h6
  rcases h6 with rfl | rfl
  · have d1 : decide (r < 0) = false := by simp; omega
    have e4 : IntKind.i64.wrap (lo + r) = lo + r := wrapN (by omega) (by omega)
    simp -implicitDefEqProofs only [go_sem, List.reduceReplicate, Nat.reduceAdd, Nat.reduceSub, Nat.reduceLT, Nat.reduceLeDiff, Nat.reduceMul, Nat.reduceEqDiff, reduceCtorEq, Int.reduceLE, Int.reduceLT, Int.reduceEq, Int.reduceNe, Int.reduceBEq, Int.reduceBNe, Int.reduceAdd, Int.reduceSub, d1, e4]
    exact Fini.ret rfl
  · have d1 : decide (m - (hi - lo + 1) < 0) = true := by simp; omega
    have e4 : IntKind.i64.wrap (m - (hi - lo + 1) + hi) = m - (hi - lo + 1) + hi := wrapN (by omega) (by omega)
    have e5 : IntKind.i64.wrap (m - (hi - lo + 1) + hi - lo) = m - (hi - lo + 1) + hi - lo := wrapN (by omega) (by omega)
    have e6 : IntKind.i64.wrap (m - (hi - lo + 1) + hi - lo + 1) = m := by rw [wrapN (by omega) (by omega)]; omega
    have e7 : IntKind.i64.wrap (lo + m) = lo + m := wrapN (by omega) (by omega)
    simp -implicitDefEqProofs only [go_sem, List.reduceReplicate, Nat.reduceAdd, Nat.reduceSub, Nat.reduceLT, Nat.reduceLeDiff, Nat.reduceMul, Nat.reduceEqDiff, reduceCtorEq, Int.reduceLE, Int.reduceLT, Int.reduceEq, Int.reduceNe, Int.reduceBEq, Int.reduceBNe, Int.reduceAdd, Int.reduceSub, d1, e4, e5, e6, e7]
    exact Fini.ret rfl
theorem in_ans' (n lo hi : Int) (h0 : 0 ≤ lo) (h1 : lo ≤ hi) (h2 : hi ≤ 100) : Ans Try.prog 63 [I n, I lo, I hi] σ (I (inD n lo hi)) σ := by
  have hw := within_ans σ n lo hi h0 h1 h2
  unfold inD
  refine Ans.of_run t63 ?_
  simp -implicitDefEqProofs only [c63, r63, go_sem, List.reduceReplicate, Nat.reduceAdd, Nat.reduceSub, Nat.reduceLT, Nat.reduceLeDiff, Nat.reduceMul, Nat.reduceEqDiff, reduceCtorEq, Int.reduceLE, Int.reduceLT, Int.reduceEq, Int.reduceNe, Int.reduceBEq, Int.reduceBNe, Int.reduceAdd, Int.reduceSub]
  by_cases d1 : lo ≤ n
  · by_cases d2 : n ≤ hi
    · have d1' : decide (lo ≤ n) = true := by simpa using d1
      have d2' : decide (n ≤ hi) = true := by simpa using d2
      simp -implicitDefEqProofs only [go_sem, List.reduceReplicate, Nat.reduceAdd, Nat.reduceSub, Nat.reduceLT, Nat.reduceLeDiff, Nat.reduceMul, Nat.reduceEqDiff, reduceCtorEq, Int.reduceLE, Int.reduceLT, Int.reduceEq, Int.reduceNe, Int.reduceBEq, Int.reduceBNe, Int.reduceAdd, Int.reduceSub, d1', d2']
      rw [if_pos ⟨d1, d2⟩]
      exact Fini.ret rfl
    · have d1' : decide (lo ≤ n) = true := by simpa using d1
      have d2' : decide (n ≤ hi) = false := by simpa using d2
      simp -implicitDefEqProofs only [go_sem, List.reduceReplicate, Nat.reduceAdd, Nat.reduceSub, Nat.reduceLT, Nat.reduceLeDiff, Nat.reduceMul, Nat.reduceEqDiff, reduceCtorEq, Int.reduceLE, Int.reduceLT, Int.reduceEq, Int.reduceNe, Int.reduceBEq, Int.reduceBNe, Int.reduceAdd, Int.reduceSub, d1', d2']
      refine CO.intro hw ?_
      simp -implicitDefEqProofs only [go_sem, List.reduceReplicate, Nat.reduceAdd, Nat.reduceSub, Nat.reduceLT, Nat.reduceLeDiff, Nat.reduceMul, Nat.reduceEqDiff, reduceCtorEq, Int.reduceLE, Int.reduceLT, Int.reduceEq, Int.reduceNe, Int.reduceBEq, Int.reduceBNe, Int.reduceAdd, Int.reduceSub]
      rw [if_neg (fun h => d2 h.2)]
      exact Fini.ret rfl
  · have d1' : decide (lo ≤ n) = false := by simpa using d1
    simp -implicitDefEqProofs only [go_sem, List.reduceReplicate, Nat.reduceAdd, Nat.reduceSub, Nat.reduceLT, Nat.reduceLeDiff, Nat.reduceMul, Nat.reduceEqDiff, reduceCtorEq, Int.reduceLE, Int.reduceLT, Int.reduceEq, Int.reduceNe, Int.reduceBEq, Int.reduceBNe, Int.reduceAdd, Int.reduceSub, d1']
    refine CO.intro hw ?_
    simp -implicitDefEqProofs only [go_sem, List.reduceReplicate, Nat.reduceAdd, Nat.reduceSub, Nat.reduceLT, Nat.reduceLeDiff, Nat.reduceMul, Nat.reduceEqDiff, reduceCtorEq, Int.reduceLE, Int.reduceLT, Int.reduceEq, Int.reduceNe, Int.reduceBEq, Int.reduceBNe, Int.reduceAdd, Int.reduceSub]
    rw [if_neg (fun h => d1 h.1)]
    exact Fini.ret rfl
theorem name_ans (n : Int) : Ans Try.prog 59 [I n] σ (Sx (nameOf n)) σ := by
  have h := inD_in n 0 4 (by omega)
  have hi := in_ans' σ n 0 4 (by omega) (by omega) (by omega)
  unfold nameOf
  generalize inD n 0 4 = r at h hi ⊢
  refine Ans.of_run t59 ?_
  simp -implicitDefEqProofs only [c59, r59, go_sem, List.reduceReplicate, Nat.reduceAdd, Nat.reduceSub, Nat.reduceLT, Nat.reduceLeDiff, Nat.reduceMul, Nat.reduceEqDiff, reduceCtorEq, Int.reduceLE, Int.reduceLT, Int.reduceEq, Int.reduceNe, Int.reduceBEq, Int.reduceBNe, Int.reduceAdd, Int.reduceSub]
  refine CO.intro hi ?_
  have h5 : r = 0 ∨ r = 1 ∨ r = 2 ∨ r = 3 ∨ r = 4 := by omega
  rcases h5 with rfl | rfl | rfl | rfl | rfl
  all_goals (
    simp -implicitDefEqProofs only [go_sem, List.reduceReplicate, Nat.reduceAdd, Nat.reduceSub, Nat.reduceLT, Nat.reduceLeDiff, Nat.reduceMul, Nat.reduceEqDiff, reduceCtorEq, Int.reduceLE, Int.reduceLT, Int.reduceEq, Int.reduceNe, Int.reduceBEq, Int.reduceBNe, Int.reduceAdd, Int.reduceSub]
    exact Fini.ret rfl)
theorem value_ans (n : Int) : Ans Try.prog 61 [I n] σ (Sx (valueOf n)) σ := by
  have h := inD_in n 0 6 (by omega)
  have hi := in_ans' σ n 0 6 (by omega) (by omega) (by omega)
  unfold valueOf
  generalize inD n 0 6 = r at h hi ⊢
  refine Ans.of_run t61 ?_
  simp -implicitDefEqProofs only [c61, r61, go_sem, List.reduceReplicate, Nat.reduceAdd, Nat.reduceSub, Nat.reduceLT, Nat.reduceLeDiff, Nat.reduceMul, Nat.reduceEqDiff, reduceCtorEq, Int.reduceLE, Int.reduceLT, Int.reduceEq, Int.reduceNe, Int.reduceBEq, Int.reduceBNe, Int.reduceAdd, Int.reduceSub]
  refine CO.intro hi ?_
  have h5 : r = 0 ∨ r = 1 ∨ r = 2 ∨ r = 3 ∨ r = 4 ∨ r = 5 ∨ r = 6 := by omega
  rcases h5 with rfl | rfl | rfl | rfl | rfl | rfl | rfl
  all_goals (
    simp -implicitDefEqProofs only [go_sem, List.reduceReplicate, Nat.reduceAdd, Nat.reduceSub, Nat.reduceLT, Nat.reduceLeDiff, Nat.reduceMul, Nat.reduceEqDiff, reduceCtorEq, Int.reduceLE, Int.reduceLT, Int.reduceEq, Int.reduceNe, Int.reduceBEq, Int.reduceBNe, Int.reduceAdd, Int.reduceSub]
    exact Fini.ret rfl)
theorem pattern_ans (n : Int) : Ans Try.prog 64 [I n] σ (Sx (patOf n)) σ := by
  have h := inD_in n 0 8 (by omega)
  have hi := in_ans' σ n 0 8 (by omega) (by omega) (by omega)
  unfold patOf
  generalize inD n 0 8 = r at h hi ⊢
  refine Ans.of_run t64 ?_
  simp -implicitDefEqProofs only [c64, r64, go_sem, List.reduceReplicate, Nat.reduceAdd, Nat.reduceSub, Nat.reduceLT, Nat.reduceLeDiff, Nat.reduceMul, Nat.reduceEqDiff, reduceCtorEq, Int.reduceLE, Int.reduceLT, Int.reduceEq, Int.reduceNe, Int.reduceBEq, Int.reduceBNe, Int.reduceAdd, Int.reduceSub]
  refine CO.intro hi ?_
  have h5 : r = 0 ∨ r = 1 ∨ r = 2 ∨ r = 3 ∨ r = 4 ∨ r = 5 ∨ r = 6 ∨ r = 7 ∨ r = 8 := by omega
  rcases h5 with rfl | rfl | rfl | rfl | rfl | rfl | rfl | rfl | rfl
  all_goals (
    simp -implicitDefEqProofs only [go_sem, List.reduceReplicate, Nat.reduceAdd, Nat.reduceSub, Nat.reduceLT, Nat.reduceLeDiff, Nat.reduceMul, Nat.reduceEqDiff, reduceCtorEq, Int.reduceLE, Int.reduceLT, Int.reduceEq, Int.reduceNe, Int.reduceBEq, Int.reduceBNe, Int.reduceAdd, Int.reduceSub]
    exact Fini.ret rfl)

abbrev mat (k : Int) (n v : ByteArray) : AV := .agg [I k, Sx n, Sx v]
def matVal (k v : Int) : ByteArray := if inD k 1 4 < 3 then (if v < 0 then ⟨#[]⟩ else valueOf v) else patOf v
theorem bel_mat (m : Nat) (k : Int) (n v : ByteArray) : Bel m (mat k n v) := by
  refine .agg _ fun i hi => ?_
  have : ∀ y ∈ [I k, Sx n, Sx v], Bel m y := by
    intro y hy
    simp only [List.mem_cons, List.not_mem_nil, or_false] at hy
    rcases hy with rfl | rfl | rfl <;> exact .pl _
  exact this _ (List.getElem_mem hi)
theorem matcher_ans (k n v : Int) : Ans Try.prog 22 [.agg [I k, I n, I v]] σ (mat (inD k 1 4) (nameOf n) (matVal k v)) σ := by
  have k0 : ∀ (x y : Ob), (σ ++ [x, y])[σ.length]? = some x := fun x y => by rw [List.getElem?_append_right (by simp)]; simp
  have k0' : ∀ (x : Ob), (σ ++ [x])[σ.length]? = some x := fun x => by rw [List.getElem?_append_right (by simp)]; simp
  have k1 : ∀ (x y : Ob), (σ ++ [x, y])[σ.length + 1]? = some y := fun x y => by rw [List.getElem?_append_right (by simp)]; simp
  have s0 : ∀ (x y z : Ob), (σ ++ [x, y]).set σ.length z = σ ++ [z, y] := fun x y z => by rw [List.set_append_right _ _ (by simp)]; simp
  have s1 : ∀ (x y z : Ob), (σ ++ [x, y]).set (σ.length + 1) z = σ ++ [x, z] := fun x y z => by rw [List.set_append_right _ _ (by simp)]; simp
  have hb := bel_mat σ.length (inD k 1 4) (nameOf n) (matVal k v)
  refine Ans.of_run' t22 (fun hbel _ => ?_)
  simp -implicitDefEqProofs only [c22, r22, go_sem, List.reduceReplicate, Nat.reduceAdd, Nat.reduceSub, Nat.reduceLT, Nat.reduceLeDiff, Nat.reduceMul, Nat.reduceEqDiff, reduceCtorEq, Int.reduceLE, Int.reduceLT, Int.reduceEq, Int.reduceNe, Int.reduceBEq, Int.reduceBNe, Int.reduceAdd, Int.reduceSub, D_callS, List.append_assoc, List.length_append]
  refine CS.intro (fun s => in_ans' s k 1 4 (by omega) (by omega) (by omega)) ?_
  simp -implicitDefEqProofs only [go_sem, List.reduceReplicate, Nat.reduceAdd, Nat.reduceSub, Nat.reduceLT, Nat.reduceLeDiff, Nat.reduceMul, Nat.reduceEqDiff, reduceCtorEq, Int.reduceLE, Int.reduceLT, Int.reduceEq, Int.reduceNe, Int.reduceBEq, Int.reduceBNe, Int.reduceAdd, Int.reduceSub, D_callS, List.append_assoc, List.length_append]
  refine CS.intro (fun s => name_ans s n) ?_
  simp -implicitDefEqProofs only [go_sem, List.reduceReplicate, Nat.reduceAdd, Nat.reduceSub, Nat.reduceLT, Nat.reduceLeDiff, Nat.reduceMul, Nat.reduceEqDiff, reduceCtorEq, Int.reduceLE, Int.reduceLT, Int.reduceEq, Int.reduceNe, Int.reduceBEq, Int.reduceBNe, Int.reduceAdd, Int.reduceSub, D_callS, List.append_assoc, List.length_append]
  refine CS.intro (fun s => pattern_ans s v) ?_
  simp -implicitDefEqProofs only [go_sem, List.reduceReplicate, Nat.reduceAdd, Nat.reduceSub, Nat.reduceLT, Nat.reduceLeDiff, Nat.reduceMul, Nat.reduceEqDiff, reduceCtorEq, Int.reduceLE, Int.reduceLT, Int.reduceEq, Int.reduceNe, Int.reduceBEq, Int.reduceBNe, Int.reduceAdd, Int.reduceSub, D_callS, List.append_assoc, List.length_append, k0, k1, s0, s1]
  unfold matVal at hb ⊢
  by_cases h3 : inD k 1 4 < 3
  · have h3' : decide (inD k 1 4 < 3) = true := by simpa using h3
    rw [if_pos h3] at hb ⊢
    simp -implicitDefEqProofs only [go_sem, List.reduceReplicate, Nat.reduceAdd, Nat.reduceSub, Nat.reduceLT, Nat.reduceLeDiff, Nat.reduceMul, Nat.reduceEqDiff, reduceCtorEq, Int.reduceLE, Int.reduceLT, Int.reduceEq, Int.reduceNe, Int.reduceBEq, Int.reduceBNe, Int.reduceAdd, Int.reduceSub, h3']
    refine CO.intro (value_ans _ v) ?_
    by_cases h0 : v < 0
    · have h0' : decide (v < 0) = true := by simpa using h0
      rw [if_pos h0] at hb ⊢
      simp -implicitDefEqProofs only [go_sem, List.reduceReplicate, Nat.reduceAdd, Nat.reduceSub, Nat.reduceLT, Nat.reduceLeDiff, Nat.reduceMul, Nat.reduceEqDiff, reduceCtorEq, Int.reduceLE, Int.reduceLT, Int.reduceEq, Int.reduceNe, Int.reduceBEq, Int.reduceBNe, Int.reduceAdd, Int.reduceSub, h0', k0, k1, s0, s1]
      exact Fini.trim2 (σ' := σ) (ex := [_, _]) (by simp -implicitDefEqProofs only [go_sem, List.reduceReplicate, Nat.reduceAdd, Nat.reduceSub, Nat.reduceLT, Nat.reduceLeDiff, Nat.reduceMul, Nat.reduceEqDiff, reduceCtorEq, Int.reduceLE, Int.reduceLT, Int.reduceEq, Int.reduceNe, Int.reduceBEq, Int.reduceBNe, Int.reduceAdd, Int.reduceSub, resA, allSome, rvA, oneOf, k0]) rfl (Nat.le_refl _) hb hbel
    · have h0' : decide (v < 0) = false := by simpa using h0
      rw [if_neg h0] at hb ⊢
      simp -implicitDefEqProofs only [go_sem, List.reduceReplicate, Nat.reduceAdd, Nat.reduceSub, Nat.reduceLT, Nat.reduceLeDiff, Nat.reduceMul, Nat.reduceEqDiff, reduceCtorEq, Int.reduceLE, Int.reduceLT, Int.reduceEq, Int.reduceNe, Int.reduceBEq, Int.reduceBNe, Int.reduceAdd, Int.reduceSub, h0', k0, k1, s0, s1]
      exact Fini.trim2 (σ' := σ) (ex := [_, _]) (by simp -implicitDefEqProofs only [go_sem, List.reduceReplicate, Nat.reduceAdd, Nat.reduceSub, Nat.reduceLT, Nat.reduceLeDiff, Nat.reduceMul, Nat.reduceEqDiff, reduceCtorEq, Int.reduceLE, Int.reduceLT, Int.reduceEq, Int.reduceNe, Int.reduceBEq, Int.reduceBNe, Int.reduceAdd, Int.reduceSub, resA, allSome, rvA, oneOf, k0]) rfl (Nat.le_refl _) hb hbel
  · have h3' : decide (inD k 1 4 < 3) = false := by simpa using h3
    rw [if_neg h3] at hb ⊢
    simp -implicitDefEqProofs only [go_sem, List.reduceReplicate, Nat.reduceAdd, Nat.reduceSub, Nat.reduceLT, Nat.reduceLeDiff, Nat.reduceMul, Nat.reduceEqDiff, reduceCtorEq, Int.reduceLE, Int.reduceLT, Int.reduceEq, Int.reduceNe, Int.reduceBEq, Int.reduceBNe, Int.reduceAdd, Int.reduceSub, h3', k0, k1, s0, s1]
    exact Fini.trim2 (σ' := σ) (ex := [_, _]) (by simp -implicitDefEqProofs only [go_sem, List.reduceReplicate, Nat.reduceAdd, Nat.reduceSub, Nat.reduceLT, Nat.reduceLeDiff, Nat.reduceMul, Nat.reduceEqDiff, reduceCtorEq, Int.reduceLE, Int.reduceLT, Int.reduceEq, Int.reduceNe, Int.reduceBEq, Int.reduceBNe, Int.reduceAdd, Int.reduceSub, resA, allSome, rvA, oneOf, k0]) rfl (Nat.le_refl _) hb hbel
end
end Go.Proofs.Ytoadgajhkhejiaa
