/- What statements draw: names, values, patterns, matchers. No condition. -/
import Derived.Test.YtoadgajhkhejiaaMDr1
import Derived.Test.YtoadgajhkhejiaaAbSX
import Derived.Test.YtoadgajhkhejiaaAbFrame
import Derived.Test.YtoadgajhkhejiaaAbStay
set_option linter.unusedSimpArgs false
set_option linter.unusedVariables false
namespace Go.Proofs.Ytoadgajhkhejiaa
open Go Go.Ab
set_option maxRecDepth 100000
abbrev I (n : Int) : AV := .pl (.int .i64 n)
abbrev Bo (b : Bool) : AV := .pl (.bool b)
abbrev Sx (s : ByteArray) : AV := .pl (.string s)
theorem wrapN {n : Int} (h : -9223372036854775808 ≤ n) (h' : n < 9223372036854775808) : IntKind.i64.wrap n = n := by
  simp only [IntKind.wrap, IntKind.bits, IntKind.signed]; simp; omega
theorem bel_all {args : List AV} (h : belL 0 args = true) : ∀ a ∈ args, Bel 0 a := fun a ha => by
  obtain ⟨i, hi, rfl⟩ := List.getElem_of_mem ha
  exact Bel.of_mem (belL_ok 0 args h) i hi
theorem Fini.ret2 {n m : Nat} {rvs : List RV} {r r' : AV} {σ σ' : St} {env : Env} (h : resA env σ rvs = some r') (e : r' = r) (e' : σ = σ') : Fini m rvs r σ' .ret env σ := by
  subst e; subst e'; exact Fini.ret h
theorem Fini.trim2 {m : Nat} {rvs : List RV} {r : AV} {σ σ' ex : St} {env : Env} (h : resA env σ rvs = some r) (he : σ = σ' ++ ex) (hl : m ≤ σ'.length) (hb : Bel σ'.length r) (ho : ∀ o ∈ σ', BelO σ'.length o) : Fini m rvs r σ' .ret env σ := by
  subst he
  exact ⟨r, σ' ++ ex, h, rfl, rfl, .inr ⟨hl, by simp, hb, ho⟩⟩
section
variable (σ : St)
abbrev mat (k : Int) (n v : ByteArray) : AV := .agg [I k, Sx n, Sx v]
end
end Go.Proofs.Ytoadgajhkhejiaa
namespace Go.Proofs.Ytoadgajhkhejiaa
open Go Go.Ab
set_option maxRecDepth 100000
abbrev Lab := ByteArray × ByteArray
abbrev lv (x : Lab) : AV := .agg [Sx x.1, Sx x.2]
def lvs (L : List Lab) : List AV := L.map lv
theorem lvs_len (L : List Lab) : (lvs L).length = L.length := List.length_map ..
theorem lvs_get (L : List Lab) (i : Nat) (h : i < L.length) : (lvs L)[i]? = some (lv L[i]) := by simp [lvs, h]
def getL : List Lab → ByteArray → ByteArray
  | [], _ => ⟨#[]⟩
  | x :: xs, nm => if x.1.toList == nm.toList then x.2 else getL xs nm
theorem getL_mem (L : List Lab) (nm : ByteArray) : getL L nm = ⟨#[]⟩ ∨ ∃ x ∈ L, getL L nm = x.2 := by
  induction L with
  | nil => exact .inl rfl
  | cons x xs ih =>
    rw [getL]
    split
    · exact .inr ⟨x, List.mem_cons_self, rfl⟩
    · rcases ih with h | ⟨y, hy, h⟩
      · exact .inl h
      · exact .inr ⟨y, List.mem_cons_of_mem _ hy, h⟩
section
variable (σ : St)
theorem nat_lt {i n : Nat} (h : i < n) : ((i : Int) < (n : Nat)) = True := by simp; omega
theorem nat_nlt {i n : Nat} (h : ¬ i < n) : ((i : Int) < (n : Nat)) = False := by simp; omega
theorem dec_lt {i n : Nat} (h : i < n) : decide ((i : Int) < (n : Nat)) = true := by simp; omega
theorem dec_nlt {i n : Nat} (h : ¬ i < n) : decide ((i : Int) < (n : Nat)) = false := by simp; omega
theorem wrap_succ {i : Nat} (h : i ≤ 100000) : IntKind.i64.wrap ((i : Int) + 1) = ((i + 1 : Nat) : Int) := by rw [wrapN (by omega) (by omega)]; rfl
def idxL : List Lab → ByteArray → Nat → Int
  | [], _, _ => -1
  | x :: xs, nm, i => if x.1.toList == nm.toList then i else idxL xs nm (i + 1)
theorem idxL_get (L : List Lab) (nm : ByteArray) : ∀ i, i ≤ L.length → (idxL (L.drop i) nm i = -1 ∧ getL (L.drop i) nm = ⟨#[]⟩) ∨ ∃ j, ∃ (h : j < L.length), idxL (L.drop i) nm i = j ∧ getL (L.drop i) nm = L[j].2 := by
  intro i hi
  obtain ⟨k, hk⟩ : ∃ k, k = L.length - i := ⟨_, rfl⟩
  induction k generalizing i with
  | zero =>
    have : i = L.length := by omega
    subst this
    rw [List.drop_length]
    exact .inl ⟨rfl, rfl⟩
  | succ k ih =>
    have hlt : i < L.length := by omega
    rw [List.drop_eq_getElem_cons hlt, idxL, getL]
    split
    · exact .inr ⟨i, hlt, rfl, rfl⟩
    · exact ih (i + 1) hlt (by omega)
theorem eq_ans (x : Lab) (nm : ByteArray) : Ans Try.prog 89 [lv x, .rp [Sx nm]] σ (Bo (x.1.toList == nm.toList)) σ := by
  refine Ans.of_run t89 ?_
  simp -implicitDefEqProofs only [c89, r89, go_sem, List.reduceReplicate, Nat.reduceAdd, Nat.reduceSub, Nat.reduceLT, Nat.reduceLeDiff, Nat.reduceMul, Nat.reduceEqDiff, reduceCtorEq, Int.reduceLE, Int.reduceLT, Int.reduceEq, Int.reduceNe, Int.reduceBEq, Int.reduceBNe, Int.reduceAdd, Int.reduceSub]
  exact Fini.ret rfl
theorem idx_ans (L : List Lab) (nm : ByteArray) (hl : L.length ≤ 1000) : Ans Try.prog 88 [.sl 2 (lvs L), .fn 89 [] [.rp [Sx nm]]] σ (I (idxL L nm 0)) σ := by
  refine Ans.of_run t88 ?_
  simp -implicitDefEqProofs only [c88, r88, go_sem, List.reduceReplicate, Nat.reduceAdd, Nat.reduceSub, Nat.reduceLT, Nat.reduceLeDiff, Nat.reduceMul, Nat.reduceEqDiff, reduceCtorEq, Int.reduceLE, Int.reduceLT, Int.reduceEq, Int.reduceNe, Int.reduceBEq, Int.reduceBNe, Int.reduceAdd, Int.reduceSub]
  generalize hres : idxL L nm 0 = res
  refine Go.Ab.L.intro (α := { i : Nat // i ≤ L.length ∧ idxL (L.drop i) nm i = res }) (fun x => L.length - x.1)
    (fun x => mkE 19 [(0, .sl 2 (lvs L)), (1, .fn 89 [] [.rp [Sx nm]]), (7, I ((lvs L).length : Nat)), (8, I x.1)]) (fun _ => σ) (fun x J hJ => ?_) ⟨0, Nat.zero_le _, hres⟩ rfl rfl
  obtain ⟨i, hi, hg⟩ := x
  simp only at hJ ⊢
  rw [lvs_len] at hJ ⊢
  by_cases hlt : i < L.length
  · rw [List.drop_eq_getElem_cons hlt, idxL] at hg
    have hx := lvs_get L i hlt
    simp -implicitDefEqProofs only [mkE, List.foldl_cons, List.foldl_nil, go_sem, List.reduceReplicate, Nat.reduceAdd, Nat.reduceSub, Nat.reduceLT, Nat.reduceLeDiff, Nat.reduceMul, Nat.reduceEqDiff, reduceCtorEq, Int.reduceLE, Int.reduceLT, Int.reduceEq, Int.reduceNe, Int.reduceBEq, Int.reduceBNe, Int.reduceAdd, Int.reduceSub, nat_lt hlt, dec_lt hlt, hx, lvs_len]
    refine CO.intro (eq_ans σ L[i] nm) ?_
    cases he : L[i].1.toList == nm.toList
    · rw [he, if_neg Bool.false_ne_true] at hg
      have hJ' := hJ ⟨i + 1, hlt, hg⟩ (by simp only; omega)
      simp only at hJ'
      simp -implicitDefEqProofs only [go_sem, List.reduceReplicate, Nat.reduceAdd, Nat.reduceSub, Nat.reduceLT, Nat.reduceLeDiff, Nat.reduceMul, Nat.reduceEqDiff, reduceCtorEq, Int.reduceLE, Int.reduceLT, Int.reduceEq, Int.reduceNe, Int.reduceBEq, Int.reduceBNe, Int.reduceAdd, Int.reduceSub, wrap_succ (show i ≤ 100000 by omega)]
      exact hJ'
    · rw [he, if_pos rfl] at hg
      simp -implicitDefEqProofs only [go_sem, List.reduceReplicate, Nat.reduceAdd, Nat.reduceSub, Nat.reduceLT, Nat.reduceLeDiff, Nat.reduceMul, Nat.reduceEqDiff, reduceCtorEq, Int.reduceLE, Int.reduceLT, Int.reduceEq, Int.reduceNe, Int.reduceBEq, Int.reduceBNe, Int.reduceAdd, Int.reduceSub]
      rw [← hg]
      exact Fini.ret rfl
  · have : i = L.length := by omega
    subst this
    rw [List.drop_length, idxL] at hg
    simp -implicitDefEqProofs only [mkE, List.foldl_cons, List.foldl_nil, go_sem, List.reduceReplicate, Nat.reduceAdd, Nat.reduceSub, Nat.reduceLT, Nat.reduceLeDiff, Nat.reduceMul, Nat.reduceEqDiff, reduceCtorEq, Int.reduceLE, Int.reduceLT, Int.reduceEq, Int.reduceNe, Int.reduceBEq, Int.reduceBNe, Int.reduceAdd, Int.reduceSub, nat_nlt hlt, dec_nlt hlt, lvs_len]
    rw [← hg]
    exact Fini.ret rfl
theorem get_ans (L : List Lab) (nm : ByteArray) (hl : L.length ≤ 1000) : Ans Try.prog 48 [.sl 2 (lvs L), Sx nm] σ (Sx (getL L nm)) σ := by
  have hi := idx_ans σ L nm hl
  refine Ans.of_run t48 ?_
  simp -implicitDefEqProofs only [c48, r48, go_sem, List.reduceReplicate, Nat.reduceAdd, Nat.reduceSub, Nat.reduceLT, Nat.reduceLeDiff, Nat.reduceMul, Nat.reduceEqDiff, reduceCtorEq, Int.reduceLE, Int.reduceLT, Int.reduceEq, Int.reduceNe, Int.reduceBEq, Int.reduceBNe, Int.reduceAdd, Int.reduceSub]
  refine CO.intro hi ?_
  rcases idxL_get L nm 0 (Nat.zero_le _) with ⟨h1, h2⟩ | ⟨j, hj, h1, h2⟩
  · rw [List.drop_zero] at h1 h2
    rw [h1, h2]
    simp -implicitDefEqProofs only [go_sem, List.reduceReplicate, Nat.reduceAdd, Nat.reduceSub, Nat.reduceLT, Nat.reduceLeDiff, Nat.reduceMul, Nat.reduceEqDiff, reduceCtorEq, Int.reduceLE, Int.reduceLT, Int.reduceEq, Int.reduceNe, Int.reduceBEq, Int.reduceBNe, Int.reduceAdd, Int.reduceSub]
    exact Fini.ret rfl
  · rw [List.drop_zero] at h1 h2
    rw [h1, h2]
    have d1 : decide (((j : Nat) : Int) < 0) = false := by simp
    simp -implicitDefEqProofs only [go_sem, List.reduceReplicate, Nat.reduceAdd, Nat.reduceSub, Nat.reduceLT, Nat.reduceLeDiff, Nat.reduceMul, Nat.reduceEqDiff, reduceCtorEq, Int.reduceLE, Int.reduceLT, Int.reduceEq, Int.reduceNe, Int.reduceBEq, Int.reduceBNe, Int.reduceAdd, Int.reduceSub, d1, lvs_get L j hj, lvs_len, nat_lt hj]
    exact Fini.ret rfl
end
end Go.Proofs.Ytoadgajhkhejiaa
namespace Go.Proofs.Ytoadgajhkhejiaa
open Go Go.Ab
set_option maxRecDepth 100000
abbrev noL : Lab := (⟨#[]⟩, ⟨#[]⟩)
def pos (out : List Lab) (x : Lab) : Nat → Nat
  | 0 => 0
  | n + 1 => if Op.bytesLess x.1.toList (out.getD n noL).1.toList then pos out x n else n + 1
theorem bel_lv (n : Nat) (x : Lab) : Bel n (lv x) := by
  refine .agg _ fun i hi => ?_
  have : ∀ y ∈ [Sx x.1, Sx x.2], Bel n y := by
    intro y hy
    simp only [List.mem_cons, List.not_mem_nil, or_false] at hy
    rcases hy with rfl | rfl <;> exact .pl _
  exact this _ (List.getElem_mem hi)
theorem bel_lvs (n : Nat) (L : List Lab) : Bel n (.sl 2 (lvs L)) := by
  refine .sl 2 _ fun i hi => ?_
  have : ∀ y ∈ lvs L, Bel n y := by
    intro y hy
    simp only [lvs, List.mem_map] at hy
    obtain ⟨x, _, rfl⟩ := hy
    exact bel_lv n x
  exact this _ (List.getElem_mem hi)
theorem B_pl (n : Nat) (v : Value) : Bel n (.pl v) = True := eq_true (.pl v)
theorem B_any (n : Nat) : Bel n .any = True := eq_true .any
theorem B_nils (n : Nat) : Bel n .nils = True := eq_true .nils
theorem B_tup (n : Nat) : Bel n (.tup []) = True := eq_true (.tup _ fun i hi => absurd hi (Nat.not_lt_zero _))
theorem B_lv (n : Nat) (x : Lab) : Bel n (lv x) = True := eq_true (bel_lv n x)
theorem B_lvs (n : Nat) (L : List Lab) : Bel n (.sl 2 (lvs L)) = True := eq_true (bel_lvs n L)
theorem B_sl1 (n : Nat) (x : Lab) : Bel n (.sl 2 [lv x]) = True := eq_true (bel_lvs n [x])
theorem B_sl0 (n k : Nat) : Bel n (.sl k []) = True := eq_true (.sl k [] fun i hi => absurd hi (Nat.not_lt_zero _))
theorem B_osl (n l k : Nat) : Bel n (.osl l k) = (l < n) := by
  apply propext
  constructor
  · intro h; cases h; assumption
  · intro h; exact .osl l k h
theorem B_ptr (n l k : Nat) : Bel n (.ptr l k) = (l < n) := by
  apply propext
  constructor
  · intro h; cases h; assumption
  · intro h; exact .ptr l k h
theorem B_agg2 (n : Nat) (a b : ByteArray) : Bel n (.agg [Sx a, Sx b]) = True := eq_true (bel_lv n (a, b))
section
variable (σ : St)
theorem g0 (x : Ob) (ex : St) : (σ ++ x :: ex)[σ.length]? = some x := by rw [List.getElem?_append_right (by simp)]; simp
theorem s0 (x y : Ob) (ex : St) : (σ ++ x :: ex).set σ.length y = σ ++ y :: ex := by rw [List.set_append_right _ _ (by simp)]; simp
end
end Go.Proofs.Ytoadgajhkhejiaa
namespace Go.Proofs.Ytoadgajhkhejiaa
open Go Go.Ab
set_option maxRecDepth 100000
theorem Bel_mono {n m : Nat} {x : AV} (h : Bel n x) (hle : n ≤ m) : Bel m x := by
  induction h with
  | any => exact .any
  | pl v => exact .pl v
  | nils => exact .nils
  | sl sz xs _ ih => exact .sl sz xs ih
  | rp cs _ ih => exact .rp cs ih
  | ptr l off h => exact .ptr l off (by omega)
  | osl l k h => exact .osl l k (by omega)
  | ep l k i off h => exact .ep l k i off (by omega)
  | psl l off k h => exact .psl l off k (by omega)
  | zsl => exact .zsl
  | win sz l k lo h => exact .win sz l k lo (by omega)
  | agg cs _ ih => exact .agg cs ih
  | tup cs _ ih => exact .tup cs ih
  | fn f fs cs _ _ ih ih' => exact .fn f fs cs ih ih'
theorem BelO_mono {n m : Nat} {o : Ob} (h : BelO n o) (hle : n ≤ m) : BelO m o := by
  cases o with
  | dead => trivial
  | glo => trivial
  | box cs => exact fun c hc => Bel_mono (h c hc) hle
  | row sz xs => exact fun c hc => Bel_mono (h c hc) hle
section
variable (σ : St)
theorem g1 (x y : Ob) (ex : St) : (σ ++ x :: y :: ex)[σ.length + 1]? = some y := by rw [List.getElem?_append_right (by simp)]; simp
theorem s1 (x y z : Ob) (ex : St) : (σ ++ x :: y :: ex).set (σ.length + 1) z = σ ++ x :: z :: ex := by rw [List.set_append_right _ _ (by simp)]; simp
theorem CO.intro' {P : Program} {n0 : Nat} {k : List Fr} {B : Bs} {env : Env} {σ σ₀ σ' : St} {f : FuncId} {args args₀ : List AV} {d : Option Tmp} {l : List AOper} {r : AV} (h : Ans P f args₀ σ₀ r σ') (ha : args = args₀) (hs : σ = σ₀)
    (h' : O P n0 l k B (putA env d r) σ') : CO P n0 f args d l k B env σ := by subst ha; subst hs; exact CO.intro h h'
end
end Go.Proofs.Ytoadgajhkhejiaa
