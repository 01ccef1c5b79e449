/- What statements draw: labels. No condition. -/
import Derived.Test.YtoadgajhkhejiaaDr1
set_option linter.unusedSimpArgs false
set_option linter.unusedVariables false
namespace Go.Proofs.Ytoadgajhkhejiaa
open Go Go.Ab
set_option maxRecDepth 100000

abbrev Lab := ByteArray × ByteArray
abbrev lv (x : Lab) : AV := .agg [Sx x.1, Sx x.2]
def lvs (L : List Lab) : List AV := L.map lv
theorem lvs_len (L : List Lab) : (lvs L).length = L.length := List.length_map ..
theorem lvs_get (L : List Lab) (i : Nat) (h : i < L.length) : (lvs L)[i]? = some (lv L[i]) := by simp [lvs, h]
def getL : List Lab → ByteArray → ByteArray
  | [], _ => ⟨#[]⟩
  | x :: xs, nm => if x.1.toList == nm.toList then x.2 else getL xs nm
theorem getL_mem (L : List Lab) (nm : ByteArray) : getL L nm = ⟨#[]⟩ ∨ ∃ x ∈ L, getL L nm = x.2 := by
  induction L with
  | nil => exact .inl rfl
  | cons x xs ih =>
    rw [getL]
    split
    · exact .inr ⟨x, List.mem_cons_self, rfl⟩
    · rcases ih with h | ⟨y, hy, h⟩
      · exact .inl h
      · exact .inr ⟨y, List.mem_cons_of_mem _ hy, h⟩

section
variable (σ : St)
theorem nat_lt {i n : Nat} (h : i < n) : ((i : Int) < (n : Nat)) = True := by simp; omega
theorem nat_nlt {i n : Nat} (h : ¬ i < n) : ((i : Int) < (n : Nat)) = False := by simp; omega
theorem dec_lt {i n : Nat} (h : i < n) : decide ((i : Int) < (n : Nat)) = true := by simp; omega
theorem dec_nlt {i n : Nat} (h : ¬ i < n) : decide ((i : Int) < (n : Nat)) = false := by simp; omega
theorem wrap_succ {i : Nat} (h : i ≤ 100000) : IntKind.i64.wrap ((i : Int) + 1) = ((i + 1 : Nat) : Int) := by rw [wrapN (by omega) (by omega)]; rfl

theorem getlabel_ans (l : Nat) (L : List Lab) (nm : ByteArray) (h : σ[l]? = some (.row 2 (lvs L))) (hl : L.length ≤ 1000) : Ans Try.prog 35 [.osl l L.length, Sx nm] σ (Sx (getL L nm)) σ := by
  refine Ans.of_run t35 ?_
  simp -implicitDefEqProofs only [c35, r35, go_sem, List.reduceReplicate, Nat.reduceAdd, Nat.reduceSub, Nat.reduceLT, Nat.reduceLeDiff, Nat.reduceMul, Nat.reduceEqDiff, reduceCtorEq, Int.reduceLE, Int.reduceLT, Int.reduceEq, Int.reduceNe, Int.reduceBEq, Int.reduceBNe, Int.reduceAdd, Int.reduceSub]
  generalize hres : getL L nm = res
  refine Go.Ab.L.intro (α := { i : Nat // i ≤ L.length ∧ getL (L.drop i) nm = res }) (fun x => L.length - x.1)
    (fun x => mkE 24 [(0, .osl l L.length), (1, Sx nm), (5, I x.1)]) (fun _ => σ) (fun x J hJ => ?_) ⟨0, Nat.zero_le _, hres⟩ rfl rfl
  obtain ⟨i, hi, hg⟩ := x
  simp only at hJ ⊢
  by_cases hlt : i < L.length
  · rw [List.drop_eq_getElem_cons hlt, getL] at hg
    have hx := lvs_get L i hlt
    cases he : L[i].1.toList == nm.toList
    · rw [he, if_neg Bool.false_ne_true] at hg
      have hJ' := hJ ⟨i + 1, hlt, hg⟩ (by simp only; omega)
      simp only at hJ'
      simp -implicitDefEqProofs only [mkE, List.foldl_cons, List.foldl_nil, go_sem, List.reduceReplicate, Nat.reduceAdd, Nat.reduceSub, Nat.reduceLT, Nat.reduceLeDiff, Nat.reduceMul, Nat.reduceEqDiff, reduceCtorEq, Int.reduceLE, Int.reduceLT, Int.reduceEq, Int.reduceNe, Int.reduceBEq, Int.reduceBNe, Int.reduceAdd, Int.reduceSub, nat_lt hlt, dec_lt hlt, h, hx, lvs_len, he, wrap_succ (show i ≤ 100000 by omega)]
      exact hJ'
    · rw [he, if_pos rfl] at hg
      simp -implicitDefEqProofs only [mkE, List.foldl_cons, List.foldl_nil, go_sem, List.reduceReplicate, Nat.reduceAdd, Nat.reduceSub, Nat.reduceLT, Nat.reduceLeDiff, Nat.reduceMul, Nat.reduceEqDiff, reduceCtorEq, Int.reduceLE, Int.reduceLT, Int.reduceEq, Int.reduceNe, Int.reduceBEq, Int.reduceBNe, Int.reduceAdd, Int.reduceSub, nat_lt hlt, dec_lt hlt, h, hx, lvs_len, he]
      rw [hg]
      exact Fini.ret rfl
  · have : i = L.length := by omega
    subst this
    rw [List.drop_length, getL] at hg
    simp -implicitDefEqProofs only [mkE, List.foldl_cons, List.foldl_nil, go_sem, List.reduceReplicate, Nat.reduceAdd, Nat.reduceSub, Nat.reduceLT, Nat.reduceLeDiff, Nat.reduceMul, Nat.reduceEqDiff, reduceCtorEq, Int.reduceLE, Int.reduceLT, Int.reduceEq, Int.reduceNe, Int.reduceBEq, Int.reduceBNe, Int.reduceAdd, Int.reduceSub, nat_nlt hlt, dec_nlt hlt, h, lvs_len]
    rw [← hg]
    exact Fini.ret rfl

def idxL : List Lab → ByteArray → Nat → Int
  | [], _, _ => -1
  | x :: xs, nm, i => if x.1.toList == nm.toList then i else idxL xs nm (i + 1)
theorem idxL_get (L : List Lab) (nm : ByteArray) : ∀ i, i ≤ L.length → (idxL (L.drop i) nm i = -1 ∧ getL (L.drop i) nm = ⟨#[]⟩) ∨ ∃ j, ∃ (h : j < L.length), idxL (L.drop i) nm i = j ∧ getL (L.drop i) nm = L[j].2 := by
  intro i hi
  obtain ⟨k, hk⟩ : ∃ k, k = L.length - i := ⟨_, rfl⟩
  induction k generalizing i with
  | zero =>
    have : i = L.length := by omega
    subst this
    rw [List.drop_length]
    exact .inl ⟨rfl, rfl⟩
  | succ k ih =>
    have hlt : i < L.length := by omega
    rw [List.drop_eq_getElem_cons hlt, idxL, getL]
    split
    · exact .inr ⟨i, hlt, rfl, rfl⟩
    · exact ih (i + 1) hlt (by omega)
theorem eq_ans (x : Lab) (nm : ByteArray) : Ans Try.prog 89 [lv x, .rp [Sx nm]] σ (Bo (x.1.toList == nm.toList)) σ := by
  refine Ans.of_run t89 ?_
  simp -implicitDefEqProofs only [c89, r89, go_sem, List.reduceReplicate, Nat.reduceAdd, Nat.reduceSub, Nat.reduceLT, Nat.reduceLeDiff, Nat.reduceMul, Nat.reduceEqDiff, reduceCtorEq, Int.reduceLE, Int.reduceLT, Int.reduceEq, Int.reduceNe, Int.reduceBEq, Int.reduceBNe, Int.reduceAdd, Int.reduceSub]
  exact Fini.ret rfl
theorem idx_ans (L : List Lab) (nm : ByteArray) (hl : L.length ≤ 1000) : Ans Try.prog 88 [.sl 2 (lvs L), .fn 89 [] [.rp [Sx nm]]] σ (I (idxL L nm 0)) σ := by
  refine Ans.of_run t88 ?_
  simp -implicitDefEqProofs only [c88, r88, go_sem, List.reduceReplicate, Nat.reduceAdd, Nat.reduceSub, Nat.reduceLT, Nat.reduceLeDiff, Nat.reduceMul, Nat.reduceEqDiff, reduceCtorEq, Int.reduceLE, Int.reduceLT, Int.reduceEq, Int.reduceNe, Int.reduceBEq, Int.reduceBNe, Int.reduceAdd, Int.reduceSub]
  generalize hres : idxL L nm 0 = res
  refine Go.Ab.L.intro (α := { i : Nat // i ≤ L.length ∧ idxL (L.drop i) nm i = res }) (fun x => L.length - x.1)
    (fun x => mkE 19 [(0, .sl 2 (lvs L)), (1, .fn 89 [] [.rp [Sx nm]]), (7, I ((lvs L).length : Nat)), (8, I x.1)]) (fun _ => σ) (fun x J hJ => ?_) ⟨0, Nat.zero_le _, hres⟩ rfl rfl
  obtain ⟨i, hi, hg⟩ := x
  simp only at hJ ⊢
  rw [lvs_len] at hJ ⊢
  by_cases hlt : i < L.length
  · rw [List.drop_eq_getElem_cons hlt, idxL] at hg
    have hx := lvs_get L i hlt
    simp -implicitDefEqProofs only [mkE, List.foldl_cons, List.foldl_nil, go_sem, List.reduceReplicate, Nat.reduceAdd, Nat.reduceSub, Nat.reduceLT, Nat.reduceLeDiff, Nat.reduceMul, Nat.reduceEqDiff, reduceCtorEq, Int.reduceLE, Int.reduceLT, Int.reduceEq, Int.reduceNe, Int.reduceBEq, Int.reduceBNe, Int.reduceAdd, Int.reduceSub, nat_lt hlt, dec_lt hlt, hx, lvs_len]
    refine CO.intro (eq_ans σ L[i] nm) ?_
    cases he : L[i].1.toList == nm.toList
    · rw [he, if_neg Bool.false_ne_true] at hg
      have hJ' := hJ ⟨i + 1, hlt, hg⟩ (by simp only; omega)
      simp only at hJ'
      simp -implicitDefEqProofs only [go_sem, List.reduceReplicate, Nat.reduceAdd, Nat.reduceSub, Nat.reduceLT, Nat.reduceLeDiff, Nat.reduceMul, Nat.reduceEqDiff, reduceCtorEq, Int.reduceLE, Int.reduceLT, Int.reduceEq, Int.reduceNe, Int.reduceBEq, Int.reduceBNe, Int.reduceAdd, Int.reduceSub, wrap_succ (show i ≤ 100000 by omega)]
      exact hJ'
    · rw [he, if_pos rfl] at hg
      simp -implicitDefEqProofs only [go_sem, List.reduceReplicate, Nat.reduceAdd, Nat.reduceSub, Nat.reduceLT, Nat.reduceLeDiff, Nat.reduceMul, Nat.reduceEqDiff, reduceCtorEq, Int.reduceLE, Int.reduceLT, Int.reduceEq, Int.reduceNe, Int.reduceBEq, Int.reduceBNe, Int.reduceAdd, Int.reduceSub]
      rw [← hg]
      exact Fini.ret rfl
  · have : i = L.length := by omega
    subst this
    rw [List.drop_length, idxL] at hg
    simp -implicitDefEqProofs only [mkE, List.foldl_cons, List.foldl_nil, go_sem, List.reduceReplicate, Nat.reduceAdd, Nat.reduceSub, Nat.reduceLT, Nat.reduceLeDiff, Nat.reduceMul, Nat.reduceEqDiff, reduceCtorEq, Int.reduceLE, Int.reduceLT, Int.reduceEq, Int.reduceNe, Int.reduceBEq, Int.reduceBNe, Int.reduceAdd, Int.reduceSub, nat_nlt hlt, dec_nlt hlt, lvs_len]
    rw [← hg]
    exact Fini.ret rfl
theorem get_ans (L : List Lab) (nm : ByteArray) (hl : L.length ≤ 1000) : Ans Try.prog 48 [.sl 2 (lvs L), Sx nm] σ (Sx (getL L nm)) σ := by
  have hi := idx_ans σ L nm hl
  refine Ans.of_run t48 ?_
  simp -implicitDefEqProofs only [c48, r48, go_sem, List.reduceReplicate, Nat.reduceAdd, Nat.reduceSub, Nat.reduceLT, Nat.reduceLeDiff, Nat.reduceMul, Nat.reduceEqDiff, reduceCtorEq, Int.reduceLE, Int.reduceLT, Int.reduceEq, Int.reduceNe, Int.reduceBEq, Int.reduceBNe, Int.reduceAdd, Int.reduceSub]
  refine CO.intro hi ?_
  rcases idxL_get L nm 0 (Nat.zero_le _) with ⟨h1, h2⟩ | ⟨j, hj, h1, h2⟩
  · rw [List.drop_zero] at h1 h2
    rw [h1, h2]
    simp -implicitDefEqProofs only [go_sem, List.reduceReplicate, Nat.reduceAdd, Nat.reduceSub, Nat.reduceLT, Nat.reduceLeDiff, Nat.reduceMul, Nat.reduceEqDiff, reduceCtorEq, Int.reduceLE, Int.reduceLT, Int.reduceEq, Int.reduceNe, Int.reduceBEq, Int.reduceBNe, Int.reduceAdd, Int.reduceSub]
    exact Fini.ret rfl
  · rw [List.drop_zero] at h1 h2
    rw [h1, h2]
    have d1 : decide (((j : Nat) : Int) < 0) = false := by simp
    simp -implicitDefEqProofs only [go_sem, List.reduceReplicate, Nat.reduceAdd, Nat.reduceSub, Nat.reduceLT, Nat.reduceLeDiff, Nat.reduceMul, Nat.reduceEqDiff, reduceCtorEq, Int.reduceLE, Int.reduceLT, Int.reduceEq, Int.reduceNe, Int.reduceBEq, Int.reduceBNe, Int.reduceAdd, Int.reduceSub, d1, lvs_get L j hj, lvs_len, nat_lt hj]
    exact Fini.ret rfl
theorem get_nil (nm : ByteArray) : Ans Try.prog 48 [.nils, Sx nm] σ (Sx ⟨#[]⟩) σ := by
  have hi : Ans Try.prog 88 [.nils, .fn 89 [] [.rp [Sx nm]]] σ (I (-1)) σ := by
    refine Ans.of_run t88 ?_
    simp -implicitDefEqProofs only [c88, r88, go_sem, List.reduceReplicate, Nat.reduceAdd, Nat.reduceSub, Nat.reduceLT, Nat.reduceLeDiff, Nat.reduceMul, Nat.reduceEqDiff, reduceCtorEq, Int.reduceLE, Int.reduceLT, Int.reduceEq, Int.reduceNe, Int.reduceBEq, Int.reduceBNe, Int.reduceAdd, Int.reduceSub]
    refine Go.Ab.L.count 0 (fun _ => mkE 19 [(0, .nils), (1, .fn 89 [] [.rp [Sx nm]]), (7, I 0), (8, I 0)]) (fun _ => σ) (fun i hi => absurd hi (Nat.not_lt_zero _)) ?_ rfl rfl
    intro Q
    simp -implicitDefEqProofs only [mkE, List.foldl_cons, List.foldl_nil, go_sem, List.reduceReplicate, Nat.reduceAdd, Nat.reduceSub, Nat.reduceLT, Nat.reduceLeDiff, Nat.reduceMul, Nat.reduceEqDiff, reduceCtorEq, Int.reduceLE, Int.reduceLT, Int.reduceEq, Int.reduceNe, Int.reduceBEq, Int.reduceBNe, Int.reduceAdd, Int.reduceSub]
    exact Fini.ret rfl
  refine Ans.of_run t48 ?_
  simp -implicitDefEqProofs only [c48, r48, go_sem, List.reduceReplicate, Nat.reduceAdd, Nat.reduceSub, Nat.reduceLT, Nat.reduceLeDiff, Nat.reduceMul, Nat.reduceEqDiff, reduceCtorEq, Int.reduceLE, Int.reduceLT, Int.reduceEq, Int.reduceNe, Int.reduceBEq, Int.reduceBNe, Int.reduceAdd, Int.reduceSub]
  refine CO.intro hi ?_
  simp -implicitDefEqProofs only [go_sem, List.reduceReplicate, Nat.reduceAdd, Nat.reduceSub, Nat.reduceLT, Nat.reduceLeDiff, Nat.reduceMul, Nat.reduceEqDiff, reduceCtorEq, Int.reduceLE, Int.reduceLT, Int.reduceEq, Int.reduceNe, Int.reduceBEq, Int.reduceBNe, Int.reduceAdd, Int.reduceSub]
  exact Fini.ret rfl

def drawnL (L : List Lab) : Prop := ∀ x ∈ L, x.1 ∈ names ∧ x.2 ∈ values
def leS (a b : ByteArray) : Bool := Op.bytesLess a.toList b.toList || a.toList == b.toList
def badAt (L : List Lab) (i : Nat) : Bool := decide (0 < i) && leS (L.getD i (⟨#[]⟩, ⟨#[]⟩)).1 (L.getD (i - 1) (⟨#[]⟩, ⟨#[]⟩)).1
def isGo (L : List Lab) : Nat → Nat → Bool
  | 0, _ => true
  | k + 1, i => if badAt L i then false else isGo L k (i + 1)
def isSetL (L : List Lab) : Bool := if decide (L.length < 1) || decide (6 < L.length) then false else isGo L L.length 0
theorem rname_ans (n : ByteArray) (h : n ∈ names) : Ans Try.prog 54 [Sx n] σ (Bo true) σ := by
  simp only [names, List.mem_cons, List.not_mem_nil, or_false] at h
  rcases h with rfl | rfl | rfl | rfl | rfl
  · exact rn0_ok.frame (bel_all rfl) σ
  · exact rn1_ok.frame (bel_all rfl) σ
  · exact rn2_ok.frame (bel_all rfl) σ
  · exact rn3_ok.frame (bel_all rfl) σ
  · exact rn4_ok.frame (bel_all rfl) σ
theorem values_size (v : ByteArray) (h : v ∈ values) : 1 ≤ v.size ∧ v.size ≤ 24 := by
  simp only [values, List.mem_cons, List.not_mem_nil, or_false] at h
  rcases h with rfl | rfl | rfl | rfl | rfl | rfl | rfl <;> exact ⟨by decide, by decide⟩
theorem rvalue_ans (v : ByteArray) (h : v ∈ values) : Ans Try.prog 122 [Sx v] σ (Bo true) σ := by
  obtain ⟨h1, h2⟩ := values_size v h
  have d1 : decide ((1 : Int) ≤ (v.size : Nat)) = true := by simp; omega
  have d2 : decide (((v.size : Nat) : Int) ≤ 24) = true := by simp; omega
  refine Ans.of_run t122 ?_
  simp -implicitDefEqProofs only [c122, r122, go_sem, List.reduceReplicate, Nat.reduceAdd, Nat.reduceSub, Nat.reduceLT, Nat.reduceLeDiff, Nat.reduceMul, Nat.reduceEqDiff, reduceCtorEq, Int.reduceLE, Int.reduceLT, Int.reduceEq, Int.reduceNe, Int.reduceBEq, Int.reduceBNe, Int.reduceAdd, Int.reduceSub, d1, d2]
  exact Fini.ret rfl
theorem isset_ans (L : List Lab) (hd : drawnL L) (hl : L.length ≤ 1000) : Ans Try.prog 100 [.sl 2 (lvs L)] σ (Bo (isSetL L)) σ := by
  refine Ans.of_run t100 ?_
  unfold isSetL
  have e1 : decide ((((lvs L).length : Nat) : Int) < 1) = decide (L.length < 1) := by rw [lvs_len, Bool.eq_iff_iff]; simp only [decide_eq_true_eq]; omega
  have e2 : decide ((6 : Int) < (((lvs L).length : Nat) : Int)) = decide (6 < L.length) := by rw [lvs_len, Bool.eq_iff_iff]; simp only [decide_eq_true_eq]; omega
  simp -implicitDefEqProofs only [c100, r100, go_sem, List.reduceReplicate, Nat.reduceAdd, Nat.reduceSub, Nat.reduceLT, Nat.reduceLeDiff, Nat.reduceMul, Nat.reduceEqDiff, reduceCtorEq, Int.reduceLE, Int.reduceLT, Int.reduceEq, Int.reduceNe, Int.reduceBEq, Int.reduceBNe, Int.reduceAdd, Int.reduceSub, e1]
  cases h1 : decide (L.length < 1)
  case true =>
    simp -implicitDefEqProofs only [go_sem, List.reduceReplicate, Nat.reduceAdd, Nat.reduceSub, Nat.reduceLT, Nat.reduceLeDiff, Nat.reduceMul, Nat.reduceEqDiff, reduceCtorEq, Int.reduceLE, Int.reduceLT, Int.reduceEq, Int.reduceNe, Int.reduceBEq, Int.reduceBNe, Int.reduceAdd, Int.reduceSub, Bool.true_or]
    exact Fini.ret rfl
  simp -implicitDefEqProofs only [go_sem, List.reduceReplicate, Nat.reduceAdd, Nat.reduceSub, Nat.reduceLT, Nat.reduceLeDiff, Nat.reduceMul, Nat.reduceEqDiff, reduceCtorEq, Int.reduceLE, Int.reduceLT, Int.reduceEq, Int.reduceNe, Int.reduceBEq, Int.reduceBNe, Int.reduceAdd, Int.reduceSub, e2, Bool.false_or]
  cases h2 : decide (6 < L.length)
  case true =>
    simp -implicitDefEqProofs only [go_sem, List.reduceReplicate, Nat.reduceAdd, Nat.reduceSub, Nat.reduceLT, Nat.reduceLeDiff, Nat.reduceMul, Nat.reduceEqDiff, reduceCtorEq, Int.reduceLE, Int.reduceLT, Int.reduceEq, Int.reduceNe, Int.reduceBEq, Int.reduceBNe, Int.reduceAdd, Int.reduceSub]
    exact Fini.ret rfl
  simp -implicitDefEqProofs only [go_sem, List.reduceReplicate, Nat.reduceAdd, Nat.reduceSub, Nat.reduceLT, Nat.reduceLeDiff, Nat.reduceMul, Nat.reduceEqDiff, reduceCtorEq, Int.reduceLE, Int.reduceLT, Int.reduceEq, Int.reduceNe, Int.reduceBEq, Int.reduceBNe, Int.reduceAdd, Int.reduceSub]
  generalize hres : isGo L L.length 0 = res
  refine Go.Ab.L.intro (α := { x : Nat × Nat // x.2 + x.1 = L.length ∧ isGo L x.1 x.2 = res }) (fun x => x.1.1)
    (fun x => mkE 52 [(0, .sl 2 (lvs L)), (3, I x.1.2)]) (fun _ => σ) (fun x J hJ => ?_) ⟨(L.length, 0), by simp, hres⟩ rfl rfl
  obtain ⟨⟨k, i⟩, hi, hg⟩ := x
  simp only at hi hg hJ ⊢
  cases k with
  | zero =>
    have hlt : ¬ i < L.length := by omega
    rw [isGo] at hg
    simp -implicitDefEqProofs only [mkE, List.foldl_cons, List.foldl_nil, go_sem, List.reduceReplicate, Nat.reduceAdd, Nat.reduceSub, Nat.reduceLT, Nat.reduceLeDiff, Nat.reduceMul, Nat.reduceEqDiff, reduceCtorEq, Int.reduceLE, Int.reduceLT, Int.reduceEq, Int.reduceNe, Int.reduceBEq, Int.reduceBNe, Int.reduceAdd, Int.reduceSub, lvs_len, nat_nlt hlt, dec_nlt hlt]
    rw [← hg]
    exact Fini.ret rfl
  | succ k =>
    have hlt : i < L.length := by omega
    have hx := lvs_get L i hlt
    obtain ⟨d1, d2⟩ := hd L[i] (List.getElem_mem hlt)
    have hgd : L.getD i (⟨#[]⟩, ⟨#[]⟩) = L[i] := by rw [List.getD_eq_getElem?_getD, List.getElem?_eq_getElem hlt]; rfl
    rw [isGo] at hg
    simp -implicitDefEqProofs only [mkE, List.foldl_cons, List.foldl_nil, go_sem, List.reduceReplicate, Nat.reduceAdd, Nat.reduceSub, Nat.reduceLT, Nat.reduceLeDiff, Nat.reduceMul, Nat.reduceEqDiff, reduceCtorEq, Int.reduceLE, Int.reduceLT, Int.reduceEq, Int.reduceNe, Int.reduceBEq, Int.reduceBNe, Int.reduceAdd, Int.reduceSub, lvs_len, nat_lt hlt, dec_lt hlt, hx, D_callS]
    first
    | refine CD.intro (rname_ans _ _ d1) ?_
    | refine CS.intro (fun s => rname_ans s _ d1) ?_
    simp -implicitDefEqProofs only [go_sem, List.reduceReplicate, Nat.reduceAdd, Nat.reduceSub, Nat.reduceLT, Nat.reduceLeDiff, Nat.reduceMul, Nat.reduceEqDiff, reduceCtorEq, Int.reduceLE, Int.reduceLT, Int.reduceEq, Int.reduceNe, Int.reduceBEq, Int.reduceBNe, Int.reduceAdd, Int.reduceSub, lvs_len, nat_lt hlt, dec_lt hlt, hx, D_callS]
    first
    | refine CD.intro (rvalue_ans _ _ d2) ?_
    | refine CS.intro (fun s => rvalue_ans s _ d2) ?_
    have e0 : decide ((0 : Int) < (i : Nat)) = decide (0 < i) := by rw [Bool.eq_iff_iff]; simp
    unfold badAt at hg
    rw [hgd] at hg
    simp -implicitDefEqProofs only [go_sem, List.reduceReplicate, Nat.reduceAdd, Nat.reduceSub, Nat.reduceLT, Nat.reduceLeDiff, Nat.reduceMul, Nat.reduceEqDiff, reduceCtorEq, Int.reduceLE, Int.reduceLT, Int.reduceEq, Int.reduceNe, Int.reduceBEq, Int.reduceBNe, Int.reduceAdd, Int.reduceSub, e0]
    cases h0 : decide (0 < i)
    · rw [h0, Bool.false_and, if_neg Bool.false_ne_true] at hg
      have hJ' := hJ ⟨(k, i + 1), by simp only; omega, hg⟩ (Nat.lt_succ_self k)
      simp only at hJ'
      simp -implicitDefEqProofs only [go_sem, List.reduceReplicate, Nat.reduceAdd, Nat.reduceSub, Nat.reduceLT, Nat.reduceLeDiff, Nat.reduceMul, Nat.reduceEqDiff, reduceCtorEq, Int.reduceLE, Int.reduceLT, Int.reduceEq, Int.reduceNe, Int.reduceBEq, Int.reduceBNe, Int.reduceAdd, Int.reduceSub, wrap_succ (show i ≤ 100000 by omega)]
      exact hJ'
    · have hi0 : 0 < i := by simpa using h0
      have hlt2 : i - 1 < L.length := by omega
      have hx2 := lvs_get L (i - 1) hlt2
      have hgd2 : L.getD (i - 1) (⟨#[]⟩, ⟨#[]⟩) = L[i - 1] := by rw [List.getD_eq_getElem?_getD, List.getElem?_eq_getElem hlt2]; rfl
      have e3 : IntKind.i64.wrap ((i : Int) - 1) = ((i - 1 : Nat) : Int) := by rw [wrapN (by omega) (by omega)]; omega
      rw [h0, Bool.true_and, hgd2] at hg
      cases hb : leS L[i].1 L[i - 1].1
      · rw [hb, if_neg Bool.false_ne_true] at hg
        have hb' : (Op.bytesLess L[i].1.toList L[i - 1].1.toList || L[i].1.toList == L[i - 1].1.toList) = false := hb
        have hJ' := hJ ⟨(k, i + 1), by simp only; omega, hg⟩ (Nat.lt_succ_self k)
        simp only at hJ'
        simp -implicitDefEqProofs only [go_sem, List.reduceReplicate, Nat.reduceAdd, Nat.reduceSub, Nat.reduceLT, Nat.reduceLeDiff, Nat.reduceMul, Nat.reduceEqDiff, reduceCtorEq, Int.reduceLE, Int.reduceLT, Int.reduceEq, Int.reduceNe, Int.reduceBEq, Int.reduceBNe, Int.reduceAdd, Int.reduceSub, e3, hx, hx2, lvs_len, nat_lt hlt2, nat_lt hlt, hb', wrap_succ (show i ≤ 100000 by omega)]
        exact hJ'
      · rw [hb, if_pos rfl] at hg
        have hb' : (Op.bytesLess L[i].1.toList L[i - 1].1.toList || L[i].1.toList == L[i - 1].1.toList) = true := hb
        simp -implicitDefEqProofs only [go_sem, List.reduceReplicate, Nat.reduceAdd, Nat.reduceSub, Nat.reduceLT, Nat.reduceLeDiff, Nat.reduceMul, Nat.reduceEqDiff, reduceCtorEq, Int.reduceLE, Int.reduceLT, Int.reduceEq, Int.reduceNe, Int.reduceBEq, Int.reduceBNe, Int.reduceAdd, Int.reduceSub, e3, hx, hx2, lvs_len, nat_lt hlt2, nat_lt hlt, hb']
        rw [← hg]
        exact Fini.ret rfl
end
end Go.Proofs.Ytoadgajhkhejiaa
