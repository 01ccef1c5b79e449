/- What statements draw: names, values, patterns, matchers. No condition. -/
import Derived.Test.YtoadgajhkhejiaaMDr1
import Derived.Test.YtoadgajhkhejiaaAbSX
import Derived.Test.YtoadgajhkhejiaaAbFrame
import Derived.Test.YtoadgajhkhejiaaAbStay
set_option linter.unusedSimpArgs false
set_option linter.unusedVariables false
namespace Go.Proofs.Ytoadgajhkhejiaa
open Go Go.Ab
set_option maxRecDepth 100000

abbrev I (n : Int) : AV := .pl (.int .i64 n)
abbrev Bo (b : Bool) : AV := .pl (.bool b)
abbrev Sx (s : ByteArray) : AV := .pl (.string s)
theorem wrapN {n : Int} (h : -9223372036854775808 ≤ n) (h' : n < 9223372036854775808) : IntKind.i64.wrap n = n := by
  simp only [IntKind.wrap, IntKind.bits, IntKind.signed]; simp; omega
theorem bel_all {args : List AV} (h : belL 0 args = true) : ∀ a ∈ args, Bel 0 a := fun a ha => by
  obtain ⟨i, hi, rfl⟩ := List.getElem_of_mem ha
  exact Bel.of_mem (belL_ok 0 args h) i hi
theorem Fini.ret2 {n m : Nat} {rvs : List RV} {r r' : AV} {σ σ' : St} {env : Env} (h : resA env σ rvs = some r') (e : r' = r) (e' : σ = σ') : Fini m rvs r σ' .ret env σ := by
  subst e; subst e'; exact Fini.ret h
theorem Fini.trim2 {m : Nat} {rvs : List RV} {r : AV} {σ σ' ex : St} {env : Env} (h : resA env σ rvs = some r) (he : σ = σ' ++ ex) (hl : m ≤ σ'.length) (hb : Bel σ'.length r) (ho : ∀ o ∈ σ', BelO σ'.length o) : Fini m rvs r σ' .ret env σ := by
  subst he
  exact ⟨r, σ' ++ ex, h, rfl, rfl, .inr ⟨hl, by simp, hb, ho⟩⟩

def names : List ByteArray := [⟨#[115, 101, 118]⟩, ⟨#[106, 111, 98]⟩, ⟨#[104, 111, 115, 116]⟩, ⟨#[95, 120]⟩, ⟨#[90, 111, 110, 101, 57]⟩]
def values : List ByteArray := [⟨#[97]⟩, ⟨#[98]⟩, ⟨#[99, 114, 105, 116]⟩, ⟨#[119, 97, 114, 110]⟩, ⟨#[97, 98]⟩, ⟨#[0, 255]⟩, ⟨#[97, 98, 97, 98, 97, 98, 97, 98, 97, 98, 97, 98, 97, 98, 97, 98, 97, 98, 97, 98, 97, 98, 97, 98]⟩]
def pats : List ByteArray := [⟨#[97, 124, 98]⟩, ⟨#[]⟩, ⟨#[40, 99, 114, 105, 116, 124, 119, 97, 114, 110, 41]⟩, ⟨#[91, 97, 45, 99, 93, 43, 46, 42]⟩, ⟨#[46, 43]⟩, ⟨#[40, 97, 98, 41, 42]⟩, ⟨#[97, 63, 98, 63]⟩, ⟨#[91, 94, 97, 93, 42]⟩, ⟨#[97, 42, 97, 42, 97, 42, 97, 42, 97, 42, 97, 42, 97, 42, 97, 42, 97, 42, 97, 42, 97, 42, 97, 42, 97, 42, 97, 42]⟩]

def emodW (n lo hi : Int) : Int := lo + n % (hi - lo + 1)
def inD (n lo hi : Int) : Int := if lo ≤ n ∧ n ≤ hi then n else emodW n lo hi
theorem emodW_in (n lo hi : Int) (h : lo ≤ hi) : lo ≤ emodW n lo hi ∧ emodW n lo hi ≤ hi := by
  unfold emodW
  have h1 := Int.emod_nonneg n (show hi - lo + 1 ≠ 0 by omega)
  have h2 := Int.emod_lt_of_pos n (show 0 < hi - lo + 1 by omega)
  omega
theorem inD_in (n lo hi : Int) (h : lo ≤ hi) : lo ≤ inD n lo hi ∧ inD n lo hi ≤ hi := by
  unfold inD
  split
  · assumption
  · exact emodW_in n lo hi h
def nameOf (n : Int) : ByteArray := names.getD (inD n 0 4).toNat ⟨#[]⟩
def valueOf (n : Int) : ByteArray := values.getD (inD n 0 6).toNat ⟨#[]⟩
def patOf (n : Int) : ByteArray := pats.getD (inD n 0 8).toNat ⟨#[]⟩
theorem getD_mem {l : List ByteArray} {k : Nat} (h : k < l.length) (d : ByteArray) : l.getD k d ∈ l := by
  rw [List.getD_eq_getElem?_getD, List.getElem?_eq_getElem h]; exact List.getElem_mem h
theorem nameOf_mem (n : Int) : nameOf n ∈ names := by
  have h := inD_in n 0 4 (by omega)
  unfold nameOf
  have : (inD n 0 4).toNat < 5 := by omega
  exact getD_mem this _
theorem valueOf_mem (n : Int) : valueOf n ∈ values := by
  have h := inD_in n 0 6 (by omega)
  unfold valueOf
  have : (inD n 0 6).toNat < 7 := by omega
  exact getD_mem this _
theorem patOf_mem (n : Int) : patOf n ∈ pats := by
  have h := inD_in n 0 8 (by omega)
  unfold patOf
  have : (inD n 0 8).toNat < 9 := by omega
  exact getD_mem this _

section
variable (σ : St)
abbrev mat (k : Int) (n v : ByteArray) : AV := .agg [I k, Sx n, Sx v]
def matVal (k v : Int) : ByteArray := if inD k 1 4 < 3 then (if v < 0 then ⟨#[]⟩ else valueOf v) else patOf v
theorem bel_mat (m : Nat) (k : Int) (n v : ByteArray) : Bel m (mat k n v) := by
  refine .agg _ fun i hi => ?_
  have : ∀ y ∈ [I k, Sx n, Sx v], Bel m y := by
    intro y hy
    simp only [List.mem_cons, List.not_mem_nil, or_false] at hy
    rcases hy with rfl | rfl | rfl <;> exact .pl _
  exact this _ (List.getElem_mem hi)
end
end Go.Proofs.Ytoadgajhkhejiaa

set_option linter.unusedSimpArgs false
set_option linter.unusedVariables false
namespace Go.Proofs.Ytoadgajhkhejiaa
open Go Go.Ab
set_option maxRecDepth 100000

abbrev Lab := ByteArray × ByteArray
abbrev lv (x : Lab) : AV := .agg [Sx x.1, Sx x.2]
def lvs (L : List Lab) : List AV := L.map lv
theorem lvs_len (L : List Lab) : (lvs L).length = L.length := List.length_map ..
theorem lvs_get (L : List Lab) (i : Nat) (h : i < L.length) : (lvs L)[i]? = some (lv L[i]) := by simp [lvs, h]
def getL : List Lab → ByteArray → ByteArray
  | [], _ => ⟨#[]⟩
  | x :: xs, nm => if x.1.toList == nm.toList then x.2 else getL xs nm
theorem getL_mem (L : List Lab) (nm : ByteArray) : getL L nm = ⟨#[]⟩ ∨ ∃ x ∈ L, getL L nm = x.2 := by
  induction L with
  | nil => exact .inl rfl
  | cons x xs ih =>
    rw [getL]
    split
    · exact .inr ⟨x, List.mem_cons_self, rfl⟩
    · rcases ih with h | ⟨y, hy, h⟩
      · exact .inl h
      · exact .inr ⟨y, List.mem_cons_of_mem _ hy, h⟩

section
variable (σ : St)
theorem nat_lt {i n : Nat} (h : i < n) : ((i : Int) < (n : Nat)) = True := by simp; omega
theorem nat_nlt {i n : Nat} (h : ¬ i < n) : ((i : Int) < (n : Nat)) = False := by simp; omega
theorem dec_lt {i n : Nat} (h : i < n) : decide ((i : Int) < (n : Nat)) = true := by simp; omega
theorem dec_nlt {i n : Nat} (h : ¬ i < n) : decide ((i : Int) < (n : Nat)) = false := by simp; omega
theorem wrap_succ {i : Nat} (h : i ≤ 100000) : IntKind.i64.wrap ((i : Int) + 1) = ((i + 1 : Nat) : Int) := by rw [wrapN (by omega) (by omega)]; rfl

theorem getlabel_ans (l : Nat) (L : List Lab) (nm : ByteArray) (h : σ[l]? = some (.row 2 (lvs L))) (hl : L.length ≤ 1000) : Ans Try.prog 35 [.osl l L.length, Sx nm] σ (Sx (getL L nm)) σ := by
  refine Ans.of_run t35 ?_
  simp -implicitDefEqProofs only [c35, r35, go_sem, List.reduceReplicate, Nat.reduceAdd, Nat.reduceSub, Nat.reduceLT, Nat.reduceLeDiff, Nat.reduceMul, Nat.reduceEqDiff, reduceCtorEq, Int.reduceLE, Int.reduceLT, Int.reduceEq, Int.reduceNe, Int.reduceBEq, Int.reduceBNe, Int.reduceAdd, Int.reduceSub]
  generalize hres : getL L nm = res
  refine Go.Ab.L.intro (α := { i : Nat // i ≤ L.length ∧ getL (L.drop i) nm = res }) (fun x => L.length - x.1)
    (fun x => mkE 24 [(0, .osl l L.length), (1, Sx nm), (5, I x.1)]) (fun _ => σ) (fun x J hJ => ?_) ⟨0, Nat.zero_le _, hres⟩ rfl rfl
  obtain ⟨i, hi, hg⟩ := x
  simp only at hJ ⊢
  by_cases hlt : i < L.length
  · rw [List.drop_eq_getElem_cons hlt, getL] at hg
    have hx := lvs_get L i hlt
    cases he : L[i].1.toList == nm.toList
    · rw [he, if_neg Bool.false_ne_true] at hg
      have hJ' := hJ ⟨i + 1, hlt, hg⟩ (by simp only; omega)
      simp only at hJ'
      simp -implicitDefEqProofs only [mkE, List.foldl_cons, List.foldl_nil, go_sem, List.reduceReplicate, Nat.reduceAdd, Nat.reduceSub, Nat.reduceLT, Nat.reduceLeDiff, Nat.reduceMul, Nat.reduceEqDiff, reduceCtorEq, Int.reduceLE, Int.reduceLT, Int.reduceEq, Int.reduceNe, Int.reduceBEq, Int.reduceBNe, Int.reduceAdd, Int.reduceSub, nat_lt hlt, dec_lt hlt, h, hx, lvs_len, he, wrap_succ (show i ≤ 100000 by omega)]
      exact hJ'
    · rw [he, if_pos rfl] at hg
      simp -implicitDefEqProofs only [mkE, List.foldl_cons, List.foldl_nil, go_sem, List.reduceReplicate, Nat.reduceAdd, Nat.reduceSub, Nat.reduceLT, Nat.reduceLeDiff, Nat.reduceMul, Nat.reduceEqDiff, reduceCtorEq, Int.reduceLE, Int.reduceLT, Int.reduceEq, Int.reduceNe, Int.reduceBEq, Int.reduceBNe, Int.reduceAdd, Int.reduceSub, nat_lt hlt, dec_lt hlt, h, hx, lvs_len, he]
      rw [hg]
      exact Fini.ret rfl
  · have : i = L.length := by omega
    subst this
    rw [List.drop_length, getL] at hg
    simp -implicitDefEqProofs only [mkE, List.foldl_cons, List.foldl_nil, go_sem, List.reduceReplicate, Nat.reduceAdd, Nat.reduceSub, Nat.reduceLT, Nat.reduceLeDiff, Nat.reduceMul, Nat.reduceEqDiff, reduceCtorEq, Int.reduceLE, Int.reduceLT, Int.reduceEq, Int.reduceNe, Int.reduceBEq, Int.reduceBNe, Int.reduceAdd, Int.reduceSub, nat_nlt hlt, dec_nlt hlt, h, lvs_len]
    rw [← hg]
    exact Fini.ret rfl

def idxL : List Lab → ByteArray → Nat → Int
  | [], _, _ => -1
  | x :: xs, nm, i => if x.1.toList == nm.toList then i else idxL xs nm (i + 1)
theorem idxL_get (L : List Lab) (nm : ByteArray) : ∀ i, i ≤ L.length → (idxL (L.drop i) nm i = -1 ∧ getL (L.drop i) nm = ⟨#[]⟩) ∨ ∃ j, ∃ (h : j < L.length), idxL (L.drop i) nm i = j ∧ getL (L.drop i) nm = L[j].2 := by
  intro i hi
  obtain ⟨k, hk⟩ : ∃ k, k = L.length - i := ⟨_, rfl⟩
  induction k generalizing i with
  | zero =>
    have : i = L.length := by omega
    subst this
    rw [List.drop_length]
    exact .inl ⟨rfl, rfl⟩
  | succ k ih =>
    have hlt : i < L.length := by omega
    rw [List.drop_eq_getElem_cons hlt, idxL, getL]
    split
    · exact .inr ⟨i, hlt, rfl, rfl⟩
    · exact ih (i + 1) hlt (by omega)
theorem eq_ans (x : Lab) (nm : ByteArray) : Ans Try.prog 89 [lv x, .rp [Sx nm]] σ (Bo (x.1.toList == nm.toList)) σ := by
  refine Ans.of_run t89 ?_
  simp -implicitDefEqProofs only [c89, r89, go_sem, List.reduceReplicate, Nat.reduceAdd, Nat.reduceSub, Nat.reduceLT, Nat.reduceLeDiff, Nat.reduceMul, Nat.reduceEqDiff, reduceCtorEq, Int.reduceLE, Int.reduceLT, Int.reduceEq, Int.reduceNe, Int.reduceBEq, Int.reduceBNe, Int.reduceAdd, Int.reduceSub]
  exact Fini.ret rfl
theorem idx_ans (L : List Lab) (nm : ByteArray) (hl : L.length ≤ 1000) : Ans Try.prog 88 [.sl 2 (lvs L), .fn 89 [] [.rp [Sx nm]]] σ (I (idxL L nm 0)) σ := by
  refine Ans.of_run t88 ?_
  simp -implicitDefEqProofs only [c88, r88, go_sem, List.reduceReplicate, Nat.reduceAdd, Nat.reduceSub, Nat.reduceLT, Nat.reduceLeDiff, Nat.reduceMul, Nat.reduceEqDiff, reduceCtorEq, Int.reduceLE, Int.reduceLT, Int.reduceEq, Int.reduceNe, Int.reduceBEq, Int.reduceBNe, Int.reduceAdd, Int.reduceSub]
  generalize hres : idxL L nm 0 = res
  refine Go.Ab.L.intro (α := { i : Nat // i ≤ L.length ∧ idxL (L.drop i) nm i = res }) (fun x => L.length - x.1)
    (fun x => mkE 19 [(0, .sl 2 (lvs L)), (1, .fn 89 [] [.rp [Sx nm]]), (7, I ((lvs L).length : Nat)), (8, I x.1)]) (fun _ => σ) (fun x J hJ => ?_) ⟨0, Nat.zero_le _, hres⟩ rfl rfl
  obtain ⟨i, hi, hg⟩ := x
  simp only at hJ ⊢
  rw [lvs_len] at hJ ⊢
  by_cases hlt : i < L.length
  · rw [List.drop_eq_getElem_cons hlt, idxL] at hg
    have hx := lvs_get L i hlt
    simp -implicitDefEqProofs only [mkE, List.foldl_cons, List.foldl_nil, go_sem, List.reduceReplicate, Nat.reduceAdd, Nat.reduceSub, Nat.reduceLT, Nat.reduceLeDiff, Nat.reduceMul, Nat.reduceEqDiff, reduceCtorEq, Int.reduceLE, Int.reduceLT, Int.reduceEq, Int.reduceNe, Int.reduceBEq, Int.reduceBNe, Int.reduceAdd, Int.reduceSub, nat_lt hlt, dec_lt hlt, hx, lvs_len]
    refine CO.intro (eq_ans σ L[i] nm) ?_
    cases he : L[i].1.toList == nm.toList
    · rw [he, if_neg Bool.false_ne_true] at hg
      have hJ' := hJ ⟨i + 1, hlt, hg⟩ (by simp only; omega)
      simp only at hJ'
      simp -implicitDefEqProofs only [go_sem, List.reduceReplicate, Nat.reduceAdd, Nat.reduceSub, Nat.reduceLT, Nat.reduceLeDiff, Nat.reduceMul, Nat.reduceEqDiff, reduceCtorEq, Int.reduceLE, Int.reduceLT, Int.reduceEq, Int.reduceNe, Int.reduceBEq, Int.reduceBNe, Int.reduceAdd, Int.reduceSub, wrap_succ (show i ≤ 100000 by omega)]
      exact hJ'
    · rw [he, if_pos rfl] at hg
      simp -implicitDefEqProofs only [go_sem, List.reduceReplicate, Nat.reduceAdd, Nat.reduceSub, Nat.reduceLT, Nat.reduceLeDiff, Nat.reduceMul, Nat.reduceEqDiff, reduceCtorEq, Int.reduceLE, Int.reduceLT, Int.reduceEq, Int.reduceNe, Int.reduceBEq, Int.reduceBNe, Int.reduceAdd, Int.reduceSub]
      rw [← hg]
      exact Fini.ret rfl
  · have : i = L.length := by omega
    subst this
    rw [List.drop_length, idxL] at hg
    simp -implicitDefEqProofs only [mkE, List.foldl_cons, List.foldl_nil, go_sem, List.reduceReplicate, Nat.reduceAdd, Nat.reduceSub, Nat.reduceLT, Nat.reduceLeDiff, Nat.reduceMul, Nat.reduceEqDiff, reduceCtorEq, Int.reduceLE, Int.reduceLT, Int.reduceEq, Int.reduceNe, Int.reduceBEq, Int.reduceBNe, Int.reduceAdd, Int.reduceSub, nat_nlt hlt, dec_nlt hlt, lvs_len]
    rw [← hg]
    exact Fini.ret rfl
theorem get_ans (L : List Lab) (nm : ByteArray) (hl : L.length ≤ 1000) : Ans Try.prog 48 [.sl 2 (lvs L), Sx nm] σ (Sx (getL L nm)) σ := by
  have hi := idx_ans σ L nm hl
  refine Ans.of_run t48 ?_
  simp -implicitDefEqProofs only [c48, r48, go_sem, List.reduceReplicate, Nat.reduceAdd, Nat.reduceSub, Nat.reduceLT, Nat.reduceLeDiff, Nat.reduceMul, Nat.reduceEqDiff, reduceCtorEq, Int.reduceLE, Int.reduceLT, Int.reduceEq, Int.reduceNe, Int.reduceBEq, Int.reduceBNe, Int.reduceAdd, Int.reduceSub]
  refine CO.intro hi ?_
  rcases idxL_get L nm 0 (Nat.zero_le _) with ⟨h1, h2⟩ | ⟨j, hj, h1, h2⟩
  · rw [List.drop_zero] at h1 h2
    rw [h1, h2]
    simp -implicitDefEqProofs only [go_sem, List.reduceReplicate, Nat.reduceAdd, Nat.reduceSub, Nat.reduceLT, Nat.reduceLeDiff, Nat.reduceMul, Nat.reduceEqDiff, reduceCtorEq, Int.reduceLE, Int.reduceLT, Int.reduceEq, Int.reduceNe, Int.reduceBEq, Int.reduceBNe, Int.reduceAdd, Int.reduceSub]
    exact Fini.ret rfl
  · rw [List.drop_zero] at h1 h2
    rw [h1, h2]
    have d1 : decide (((j : Nat) : Int) < 0) = false := by simp
    simp -implicitDefEqProofs only [go_sem, List.reduceReplicate, Nat.reduceAdd, Nat.reduceSub, Nat.reduceLT, Nat.reduceLeDiff, Nat.reduceMul, Nat.reduceEqDiff, reduceCtorEq, Int.reduceLE, Int.reduceLT, Int.reduceEq, Int.reduceNe, Int.reduceBEq, Int.reduceBNe, Int.reduceAdd, Int.reduceSub, d1, lvs_get L j hj, lvs_len, nat_lt hj]
    exact Fini.ret rfl
theorem get_nil (nm : ByteArray) : Ans Try.prog 48 [.nils, Sx nm] σ (Sx ⟨#[]⟩) σ := by
  have hi : Ans Try.prog 88 [.nils, .fn 89 [] [.rp [Sx nm]]] σ (I (-1)) σ := by
    refine Ans.of_run t88 ?_
    simp -implicitDefEqProofs only [c88, r88, go_sem, List.reduceReplicate, Nat.reduceAdd, Nat.reduceSub, Nat.reduceLT, Nat.reduceLeDiff, Nat.reduceMul, Nat.reduceEqDiff, reduceCtorEq, Int.reduceLE, Int.reduceLT, Int.reduceEq, Int.reduceNe, Int.reduceBEq, Int.reduceBNe, Int.reduceAdd, Int.reduceSub]
    refine Go.Ab.L.count 0 (fun _ => mkE 19 [(0, .nils), (1, .fn 89 [] [.rp [Sx nm]]), (7, I 0), (8, I 0)]) (fun _ => σ) (fun i hi => absurd hi (Nat.not_lt_zero _)) ?_ rfl rfl
    intro Q
    simp -implicitDefEqProofs only [mkE, List.foldl_cons, List.foldl_nil, go_sem, List.reduceReplicate, Nat.reduceAdd, Nat.reduceSub, Nat.reduceLT, Nat.reduceLeDiff, Nat.reduceMul, Nat.reduceEqDiff, reduceCtorEq, Int.reduceLE, Int.reduceLT, Int.reduceEq, Int.reduceNe, Int.reduceBEq, Int.reduceBNe, Int.reduceAdd, Int.reduceSub]
    exact Fini.ret rfl
  refine Ans.of_run t48 ?_
  simp -implicitDefEqProofs only [c48, r48, go_sem, List.reduceReplicate, Nat.reduceAdd, Nat.reduceSub, Nat.reduceLT, Nat.reduceLeDiff, Nat.reduceMul, Nat.reduceEqDiff, reduceCtorEq, Int.reduceLE, Int.reduceLT, Int.reduceEq, Int.reduceNe, Int.reduceBEq, Int.reduceBNe, Int.reduceAdd, Int.reduceSub]
  refine CO.intro hi ?_
  simp -implicitDefEqProofs only [go_sem, List.reduceReplicate, Nat.reduceAdd, Nat.reduceSub, Nat.reduceLT, Nat.reduceLeDiff, Nat.reduceMul, Nat.reduceEqDiff, reduceCtorEq, Int.reduceLE, Int.reduceLT, Int.reduceEq, Int.reduceNe, Int.reduceBEq, Int.reduceBNe, Int.reduceAdd, Int.reduceSub]
  exact Fini.ret rfl

def drawnL (L : List Lab) : Prop := ∀ x ∈ L, x.1 ∈ names ∧ x.2 ∈ values
def leS (a b : ByteArray) : Bool := Op.bytesLess a.toList b.toList || a.toList == b.toList
def badAt (L : List Lab) (i : Nat) : Bool := decide (0 < i) && leS (L.getD i (⟨#[]⟩, ⟨#[]⟩)).1 (L.getD (i - 1) (⟨#[]⟩, ⟨#[]⟩)).1
def isGo (L : List Lab) : Nat → Nat → Bool
  | 0, _ => true
  | k + 1, i => if badAt L i then false else isGo L k (i + 1)
def isSetL (L : List Lab) : Bool := if decide (L.length < 1) || decide (6 < L.length) then false else isGo L L.length 0
theorem rname_ans (n : ByteArray) (h : n ∈ names) : Ans Try.prog 54 [Sx n] σ (Bo true) σ := by
  simp only [names, List.mem_cons, List.not_mem_nil, or_false] at h
  rcases h with rfl | rfl | rfl | rfl | rfl
  · exact rn0_ok.frame (bel_all rfl) σ
  · exact rn1_ok.frame (bel_all rfl) σ
  · exact rn2_ok.frame (bel_all rfl) σ
  · exact rn3_ok.frame (bel_all rfl) σ
  · exact rn4_ok.frame (bel_all rfl) σ
theorem values_size (v : ByteArray) (h : v ∈ values) : 1 ≤ v.size ∧ v.size ≤ 24 := by
  simp only [values, List.mem_cons, List.not_mem_nil, or_false] at h
  rcases h with rfl | rfl | rfl | rfl | rfl | rfl | rfl <;> exact ⟨by decide, by decide⟩
end
end Go.Proofs.Ytoadgajhkhejiaa

set_option linter.unusedSimpArgs false
set_option linter.unusedVariables false
namespace Go.Proofs.Ytoadgajhkhejiaa
open Go Go.Ab
set_option maxRecDepth 100000

abbrev noL : Lab := (⟨#[]⟩, ⟨#[]⟩)
def pos (out : List Lab) (x : Lab) : Nat → Nat
  | 0 => 0
  | n + 1 => if Op.bytesLess x.1.toList (out.getD n noL).1.toList then pos out x n else n + 1
def insL (out : List Lab) (x : Lab) : List Lab := out.take (pos out x out.length) ++ [x] ++ out.drop (pos out x out.length)
def setL (L : List Lab) : List Lab := L.foldl insL []
theorem pos_le (out : List Lab) (x : Lab) : ∀ n, pos out x n ≤ n
  | 0 => Nat.le_refl _
  | n + 1 => by
    rw [pos]; split
    · exact Nat.le_succ_of_le (pos_le out x n)
    · exact Nat.le_refl _
theorem insL_len (out : List Lab) (x : Lab) : (insL out x).length = out.length + 1 := by
  have := pos_le out x out.length
  simp only [insL, List.length_append, List.length_take, List.length_drop, List.length_cons, List.length_nil]
  omega
theorem setL_snoc (L : List Lab) (x : Lab) : setL (L ++ [x]) = insL (setL L) x := by simp [setL]
theorem foldL_len (L : List Lab) : ∀ acc : List Lab, (L.foldl insL acc).length = acc.length + L.length := by
  induction L with
  | nil => intro acc; rfl
  | cons x L ih => intro acc; rw [List.foldl_cons, ih, insL_len]; simp; omega
theorem setL_len (L : List Lab) : (setL L).length = L.length := by rw [setL, foldL_len]; simp
theorem insL_mem {out : List Lab} {x y : Lab} (h : y ∈ insL out x) : y = x ∨ y ∈ out := by
  simp only [insL, List.mem_append, List.mem_cons, List.not_mem_nil, or_false] at h
  rcases h with (h | h) | h
  · exact .inr (List.mem_of_mem_take h)
  · exact .inl h
  · exact .inr (List.mem_of_mem_drop h)
theorem foldL_mem (L : List Lab) : ∀ (acc : List Lab), ∀ y ∈ L.foldl insL acc, y ∈ acc ∨ y ∈ L := by
  induction L with
  | nil => intro acc y hy; exact .inl hy
  | cons x L ih =>
    intro acc y hy
    rcases ih _ y hy with h | h
    · rcases insL_mem h with rfl | h
      · exact .inr List.mem_cons_self
      · exact .inl h
    · exact .inr (List.mem_cons_of_mem _ h)
theorem setL_mem (L : List Lab) : ∀ y ∈ setL L, y ∈ L := fun y hy => by
  rcases foldL_mem L [] y hy with h | h
  · cases h
  · exact h

theorem lvs_take (L : List Lab) (k : Nat) : (lvs L).take k = lvs (L.take k) := by simp [lvs]
theorem lvs_drop (L : List Lab) (k : Nat) : (lvs L).drop k = lvs (L.drop k) := by simp [lvs]
theorem lvs_all (L : List Lab) (f : AV → Bool) (h : ∀ x : Lab, f (lv x) = true) : (lvs L).all f = true := by
  simp only [lvs, List.all_map, List.all_eq_true]
  exact fun x _ => h x
theorem lvs_nil : lvs [] = [] := rfl
theorem lvs_empty (L : List Lab) : (lvs L).isEmpty = L.isEmpty := by simp [lvs]
theorem bel_lv (n : Nat) (x : Lab) : Bel n (lv x) := by
  refine .agg _ fun i hi => ?_
  have : ∀ y ∈ [Sx x.1, Sx x.2], Bel n y := by
    intro y hy
    simp only [List.mem_cons, List.not_mem_nil, or_false] at hy
    rcases hy with rfl | rfl <;> exact .pl _
  exact this _ (List.getElem_mem hi)
theorem bel_lvs (n : Nat) (L : List Lab) : Bel n (.sl 2 (lvs L)) := by
  refine .sl 2 _ fun i hi => ?_
  have : ∀ y ∈ lvs L, Bel n y := by
    intro y hy
    simp only [lvs, List.mem_map] at hy
    obtain ⟨x, _, rfl⟩ := hy
    exact bel_lv n x
  exact this _ (List.getElem_mem hi)
theorem B_pl (n : Nat) (v : Value) : Bel n (.pl v) = True := eq_true (.pl v)
theorem B_any (n : Nat) : Bel n .any = True := eq_true .any
theorem B_nils (n : Nat) : Bel n .nils = True := eq_true .nils
theorem B_tup (n : Nat) : Bel n (.tup []) = True := eq_true (.tup _ fun i hi => absurd hi (Nat.not_lt_zero _))
theorem B_lv (n : Nat) (x : Lab) : Bel n (lv x) = True := eq_true (bel_lv n x)
theorem B_lvs (n : Nat) (L : List Lab) : Bel n (.sl 2 (lvs L)) = True := eq_true (bel_lvs n L)
theorem B_sl1 (n : Nat) (x : Lab) : Bel n (.sl 2 [lv x]) = True := eq_true (bel_lvs n [x])
theorem lvs_mid (A B : List Lab) (x : Lab) : lvs (A ++ [x] ++ B) = lvs A ++ lv x :: lvs B := by simp [lvs]
theorem B_mid (n : Nat) (A B : List Lab) (a b : ByteArray) : Bel n (.sl 2 (lvs A ++ .agg [Sx a, Sx b] :: lvs B)) = True := eq_true (by have := bel_lvs n (A ++ [(a, b)] ++ B); rwa [lvs_mid] at this)
theorem B_cons (n : Nat) (B : List Lab) (a b : ByteArray) : Bel n (.sl 2 (.agg [Sx a, Sx b] :: lvs B)) = True := eq_true (bel_lvs n ((a, b) :: B))
theorem B_rp2 (n : Nat) (a b : ByteArray) : Bel n (.rp [Sx a, Sx b]) = True := eq_true (.rp _ fun i hi => by
  have : ∀ y ∈ [Sx a, Sx b], Bel n y := by
    intro y hy
    simp only [List.mem_cons, List.not_mem_nil, or_false] at hy
    rcases hy with rfl | rfl <;> exact .pl _
  exact this _ (List.getElem_mem hi))
theorem B_sl0 (n k : Nat) : Bel n (.sl k []) = True := eq_true (.sl k [] fun i hi => absurd hi (Nat.not_lt_zero _))
theorem B_osl (n l k : Nat) : Bel n (.osl l k) = (l < n) := by
  apply propext
  constructor
  · intro h; cases h; assumption
  · intro h; exact .osl l k h
theorem B_ptr (n l k : Nat) : Bel n (.ptr l k) = (l < n) := by
  apply propext
  constructor
  · intro h; cases h; assumption
  · intro h; exact .ptr l k h
theorem B_agg2 (n : Nat) (a b : ByteArray) : Bel n (.agg [Sx a, Sx b]) = True := eq_true (bel_lv n (a, b))

section
variable (σ : St)
theorem g0 (x : Ob) (ex : St) : (σ ++ x :: ex)[σ.length]? = some x := by rw [List.getElem?_append_right (by simp)]; simp
theorem s0 (x y : Ob) (ex : St) : (σ ++ x :: ex).set σ.length y = σ ++ y :: ex := by rw [List.set_append_right _ _ (by simp)]; simp

def setV (L : List Lab) : AV := if isSetL (setL L) then .sl 2 (lvs (setL L)) else .nils
end
end Go.Proofs.Ytoadgajhkhejiaa

set_option linter.unusedSimpArgs false
set_option linter.unusedVariables false
namespace Go.Proofs.Ytoadgajhkhejiaa
open Go Go.Ab
set_option maxRecDepth 100000

theorem Bel_mono {n m : Nat} {x : AV} (h : Bel n x) (hle : n ≤ m) : Bel m x := by
  induction h with
  | any => exact .any
  | pl v => exact .pl v
  | nils => exact .nils
  | sl sz xs _ ih => exact .sl sz xs ih
  | rp cs _ ih => exact .rp cs ih
  | ptr l off h => exact .ptr l off (by omega)
  | osl l k h => exact .osl l k (by omega)
  | ep l k i off h => exact .ep l k i off (by omega)
  | psl l off k h => exact .psl l off k (by omega)
  | zsl => exact .zsl
  | win sz l k lo h => exact .win sz l k lo (by omega)
  | agg cs _ ih => exact .agg cs ih
  | tup cs _ ih => exact .tup cs ih
  | fn f fs cs _ _ ih ih' => exact .fn f fs cs ih ih'
theorem BelO_mono {n m : Nat} {o : Ob} (h : BelO n o) (hle : n ≤ m) : BelO m o := by
  cases o with
  | dead => trivial
  | glo => trivial
  | box cs => exact fun c hc => Bel_mono (h c hc) hle
  | row sz xs => exact fun c hc => Bel_mono (h c hc) hle

def labOf (n : Int) : Lab := (nameOf (emodW n 0 4), valueOf (emodW (IntKind.i64.wrap (n.tdiv 5)) 0 6))
def labStep (out : List Lab) (n : Int) : List Lab := if (getL out (labOf n).1).toList == (⟨#[]⟩ : ByteArray).toList then out ++ [labOf n] else out
def labs0 (ns : List Int) : List Lab := (ns.take 5).foldl labStep []
def labs (ns : List Int) : List Lab := if (labs0 ns).length = 0 then [(⟨#[115, 101, 118]⟩, ⟨#[97]⟩)] else labs0 ns
theorem labStep_len (out : List Lab) (n : Int) : (labStep out n).length ≤ out.length + 1 := by
  unfold labStep; split <;> simp
theorem foldS_len (l : List Int) : ∀ acc : List Lab, (l.foldl labStep acc).length ≤ acc.length + l.length := by
  induction l with
  | nil => intro acc; exact Nat.le_refl _
  | cons n l ih =>
    intro acc
    have h1 := ih (labStep acc n)
    have h2 := labStep_len acc n
    rw [List.foldl_cons, List.length_cons]; omega
theorem labOf_drawn (n : Int) : (labOf n).1 ∈ names ∧ (labOf n).2 ∈ values := ⟨nameOf_mem _, valueOf_mem _⟩
theorem foldS_drawn (l : List Int) : ∀ acc : List Lab, drawnL acc → drawnL (l.foldl labStep acc) := by
  induction l with
  | nil => intro acc h; exact h
  | cons n l ih =>
    intro acc h
    refine ih _ ?_
    unfold labStep
    split
    · intro x hx
      rcases List.mem_append.1 hx with hx | hx
      · exact h x hx
      · simp only [List.mem_cons, List.not_mem_nil, or_false] at hx
        subst hx
        exact labOf_drawn n
    · exact h
theorem labs0_len (ns : List Int) : (labs0 ns).length ≤ 5 := by
  have := foldS_len (ns.take 5) []
  simp at this
  unfold labs0
  omega
theorem labs_len (ns : List Int) : (labs ns).length ≤ 5 := by
  unfold labs; split
  · decide
  · exact labs0_len ns
theorem labs_drawn (ns : List Int) : drawnL (labs ns) := by
  unfold labs; split
  · intro x hx
    simp only [List.mem_cons, List.not_mem_nil, or_false] at hx
    subst hx
    exact ⟨by simp [names], by simp [values]⟩
  · exact foldS_drawn _ [] (fun x hx => by cases hx)

theorem B_ints (n : Nat) (ns : List Int) : Bel n (.sl 1 (ns.map I)) = True := eq_true (.sl 1 _ fun i hi => by
  have : ∀ y ∈ ns.map I, Bel n y := by
    intro y hy
    simp only [List.mem_map] at hy
    obtain ⟨x, _, rfl⟩ := hy
    exact .pl _
  exact this _ (List.getElem_mem hi))
theorem B_rp1 (n : Nat) (v : Value) : Bel n (.rp [.pl v]) = True := eq_true (.rp _ fun i hi => by
  have : ∀ y ∈ [AV.pl v], Bel n y := by
    intro y hy
    simp only [List.mem_cons, List.not_mem_nil, or_false] at hy
    subst hy; exact .pl _
  exact this _ (List.getElem_mem hi))

section
variable (σ : St)
theorem g1 (x y : Ob) (ex : St) : (σ ++ x :: y :: ex)[σ.length + 1]? = some y := by rw [List.getElem?_append_right (by simp)]; simp
theorem s1 (x y z : Ob) (ex : St) : (σ ++ x :: y :: ex).set (σ.length + 1) z = σ ++ x :: z :: ex := by rw [List.set_append_right _ _ (by simp)]; simp
theorem take_one (x : Ob) (ex : St) : (σ ++ x :: ex).take (σ.length + 1) = σ ++ [x] := by
  have e : σ ++ x :: ex = (σ ++ [x]) ++ ex := by simp
  have h := List.take_left (l₁ := σ ++ [x]) (l₂ := ex)
  rw [e]
  simpa using h
theorem CO.intro' {P : Program} {n0 : Nat} {k : List Fr} {B : Bs} {env : Env} {σ σ₀ σ' : St} {f : FuncId} {args args₀ : List AV} {d : Option Tmp} {l : List AOper} {r : AV} (h : Ans P f args₀ σ₀ r σ') (ha : args = args₀) (hs : σ = σ₀)
    (h' : O P n0 l k B (putA env d r) σ') : CO P n0 f args d l k B env σ := by subst ha; subst hs; exact CO.intro h h'
theorem beq_cast0 (n : Nat) : ((n : Int) == 0) = (n == 0) := by rw [Bool.eq_iff_iff]; simp
theorem lvs_snoc (L : List Lab) (a b : ByteArray) : lvs L ++ [.agg [Sx a, Sx b]] = lvs (L ++ [(a, b)]) := by simp [lvs]

end
end Go.Proofs.Ytoadgajhkhejiaa
