/- Drawn lists of matchers are lists that may be. No condition. -/
import Derived.Test.YtoadgajhkhejiaaDr6
set_option linter.unusedSimpArgs false
set_option linter.unusedVariables false
namespace Go.Proofs.Ytoadgajhkhejiaa
open Go Go.Ab
set_option maxRecDepth 100000

def allV : List ByteArray := vals8 ++ pats
def cmpS (a b : ByteArray) : Int := Extern.BytealgCompare.cmp a b
def cmpI (a b : Int) : Int := if a < b then -1 else if b < a then 1 else 0
def or3 (a b c : Int) : Int := if a != 0 then a else if b != 0 then b else c
def cmp3 (x y : Mt) : Int := or3 (cmpS x.2.1 y.2.1) (cmpI x.1 y.1) (cmpS x.2.2 y.2.2)

instance : DecidableEq ByteArray := fun a b => decidable_of_iff (a.data = b.data) (by cases a; cases b; simp)

theorem names_cmp : ∀ a ∈ names, ∀ b ∈ names, cmpS a b = (if a.toList == b.toList then 0 else if Op.bytesLess a.toList b.toList then -1 else 1) := by decide +kernel
theorem allV_cmp : ∀ a ∈ allV, ∀ b ∈ allV, cmpS a b = (if a.toList == b.toList then 0 else if Op.bytesLess a.toList b.toList then -1 else 1) := by decide +kernel
theorem names_tri : ∀ a ∈ names, ∀ b ∈ names, (a.toList == b.toList || (Op.bytesLess a.toList b.toList || Op.bytesLess b.toList a.toList)) = true := by decide +kernel
theorem allV_tri : ∀ a ∈ allV, ∀ b ∈ allV, (a.toList == b.toList || (Op.bytesLess a.toList b.toList || Op.bytesLess b.toList a.toList)) = true := by decide +kernel

structure MOK (x : Mt) : Prop where
  lo : 1 ≤ x.1
  hi : x.1 ≤ 4
  nm : x.2.1 ∈ names
  low : x.1 < 3 → x.2.2 ∈ vals8
  high : ¬ x.1 < 3 → x.2.2 ∈ pats
theorem MOK.val {x : Mt} (h : MOK x) : x.2.2 ∈ allV := by
  unfold allV
  by_cases h3 : x.1 < 3
  · exact List.mem_append_left _ (h.low h3)
  · exact List.mem_append_right _ (h.high h3)
theorem matVal_low (k v : Int) (h : inD k 1 4 < 3) : matVal k v ∈ vals8 := by
  unfold matVal
  rw [if_pos h]
  split
  · simp [vals8]
  · have := valueOf_mem v; simp [vals8, this]
theorem matVal_high (k v : Int) (h : ¬ inD k 1 4 < 3) : matVal k v ∈ pats := by
  unfold matVal
  rw [if_neg h]
  exact patOf_mem v
theorem matOf_ok (d : Int × Int × Int) : MOK (matOf d) :=
  ⟨(inD_in d.1 1 4 (by omega)).1, (inD_in d.1 1 4 (by omega)).2, nameOf_mem _, matVal_low _ _, matVal_high _ _⟩

theorem beq_comm' (a b : List UInt8) : (a == b) = (b == a) := by rw [Bool.eq_iff_iff, beq_iff_eq, beq_iff_eq]; exact eq_comm
theorem tri {x y : Mt} (hx : MOK x) (hy : MOK y) (h : aheadP x y = false) (he : eqM y x = false) : aheadP y x = true := by
  have h1 := names_tri _ hx.nm _ hy.nm
  have h2 := allV_tri _ hx.val _ hy.val
  unfold aheadP at h ⊢
  unfold eqM at he
  rw [beq_comm' y.2.1.toList] at he ⊢
  rw [beq_comm' y.2.2.toList] at he
  cases e1 : x.2.1.toList == y.2.1.toList
  · rw [e1] at h h1
    simp only [Bool.not_false, if_true, Bool.false_or] at h h1 ⊢
    rw [h] at h1
    simpa using h1
  · rw [e1] at h he
    simp only [Bool.not_true, Bool.false_eq_true, if_false, Bool.true_and] at h he ⊢
    by_cases e2 : x.1 = y.1
    · have n1 : (x.1 != y.1) = false := by simp [e2]
      have n2 : (y.1 != x.1) = false := by simp [e2]
      have n3 : (y.1 == x.1) = true := by simp [e2]
      rw [n1] at h
      rw [n3] at he
      rw [n2]
      simp only [Bool.false_eq_true, if_false, Bool.true_and] at h he ⊢
      rw [he, h] at h2
      simpa using h2
    · have n1 : (x.1 != y.1) = true := by simp [e2]
      have n2 : (y.1 != x.1) = true := by simp [Ne.symm e2]
      rw [n1] at h
      rw [n2]
      simp only [if_true, decide_eq_false_iff_not, decide_eq_true_eq] at h ⊢
      omega
theorem cmp3_ahead {x y : Mt} (hx : MOK x) (hy : MOK y) (h : aheadP x y = true) : decide (0 ≤ cmp3 x y) = false := by
  have h1 := names_cmp _ hx.nm _ hy.nm
  have h2 := allV_cmp _ hx.val _ hy.val
  unfold aheadP at h
  unfold cmp3 or3 cmpI
  rw [h1, h2]
  cases e1 : x.2.1.toList == y.2.1.toList
  · rw [e1] at h
    simp only [Bool.not_false, if_true, Bool.false_eq_true, if_false] at h ⊢
    rw [h]
    rfl
  · rw [e1] at h
    simp only [Bool.not_true, Bool.false_eq_true, if_false, if_true] at h ⊢
    have z : ((0 : Int) != 0) = false := rfl
    rw [z]
    simp only [Bool.false_eq_true, if_false]
    by_cases e2 : x.1 = y.1
    · have n1 : (x.1 != y.1) = false := by simp [e2]
      rw [n1] at h
      simp only [Bool.false_eq_true, if_false] at h
      have a1 : ¬ x.1 < y.1 := by omega
      have a2 : ¬ y.1 < x.1 := by omega
      rw [if_neg a1, if_neg a2, z]
      simp only [Bool.false_eq_true, if_false]
      cases e3 : x.2.2.toList == y.2.2.toList
      · simp only [Bool.false_eq_true, if_false]
        rw [h]
        rfl
      · exfalso
        have he : x.2.2.toList = y.2.2.toList := by simpa using e3
        rw [he] at h
        have : ∀ l : List UInt8, Op.bytesLess l l = false := by
          intro l
          induction l with
          | nil => rfl
          | cons a l ih => simp [Op.bytesLess, ih]
        rw [this] at h
        cases h
    · have n1 : (x.1 != y.1) = true := by simp [e2]
      rw [n1] at h
      simp only [if_true, decide_eq_true_eq] at h
      rw [if_pos h]
      rfl

def Adj (M : List Mt) : Prop := ∀ i a b, M[i]? = some a → M[i + 1]? = some b → aheadP a b = true
theorem posM_spec (out : List Mt) (x : Mt) : ∀ n, posM out x n ≤ n ∧ (0 < posM out x n → aheadP x (out.getD (posM out x n - 1) noM') = false) ∧ (posM out x n < n → aheadP x (out.getD (posM out x n) noM') = true)
  | 0 => ⟨Nat.le_refl _, fun h => absurd h (Nat.lt_irrefl _), fun h => absurd h (Nat.lt_irrefl _)⟩
  | n + 1 => by
    rw [posM]
    cases h : aheadP x (out.getD n noM')
    · simp only [Bool.false_eq_true, if_false]
      exact ⟨Nat.le_refl _, fun _ => h, fun h => absurd h (Nat.lt_irrefl _)⟩
    · simp only [if_true]
      obtain ⟨h1, h2, h3⟩ := posM_spec out x n
      refine ⟨Nat.le_succ_of_le h1, h2, fun hlt => ?_⟩
      rcases Nat.lt_or_ge (posM out x n) n with h4 | h4
      · exact h3 h4
      · have : posM out x n = n := by omega
        rw [this]; exact h
theorem ins_get (out : List Mt) (x : Mt) (p : Nat) (hp : p ≤ out.length) (j : Nat) : (out.take p ++ [x] ++ out.drop p)[j]? = if j < p then out[j]? else if j = p then some x else out[j - 1]? := by
  have hl : (out.take p).length = p := by simp; omega
  rw [List.append_assoc]
  split
  · rename_i h
    rw [List.getElem?_append_left (by omega), List.getElem?_take, if_pos h]
  · rename_i h
    rw [List.getElem?_append_right (by omega), hl]
    split
    · rename_i h2
      subst h2
      simp
    · rename_i h2
      rw [List.singleton_append, show j - p = (j - 1 - p) + 1 by omega, List.getElem?_cons_succ, List.getElem?_drop]
      congr 1
      omega
theorem getD_of {out : List Mt} {i : Nat} {a : Mt} (h : out[i]? = some a) : out.getD i noM' = a := by
  rw [List.getD_eq_getElem?_getD, h]; rfl
theorem insM_adj {out : List Mt} {x : Mt} (hx : MOK x) (ho : ∀ y ∈ out, MOK y) (ha : Adj out) : Adj (insM out x) := by
  obtain ⟨h1, h2, h3⟩ := posM_spec out x out.length
  unfold insM
  simp only
  generalize posM out x out.length = p at h1 h2 h3
  split
  · exact ha
  · rename_i hc
    intro i a b hia hib
    rw [ins_get out x p h1] at hia hib
    by_cases c1 : i + 1 < p
    · rw [if_pos (by omega)] at hia
      rw [if_pos c1] at hib
      exact ha i a b hia hib
    · by_cases c2 : i + 1 = p
      · rw [if_pos (by omega)] at hia
        rw [if_neg c1, if_pos c2] at hib
        simp only [Option.some.injEq] at hib
        subst hib
        have hp0 : 0 < p := by omega
        have hg := getD_of hia
        have h4 := h2 hp0
        rw [show p - 1 = i by omega, hg] at h4
        have he : eqM a x = false := by
          cases h : eqM a x
          · rfl
          · rw [show p - 1 = i by omega, hg, h] at hc
            simp [hp0] at hc
        exact tri hx (ho a (List.mem_of_getElem? hia)) h4 he
      · by_cases c3 : i = p
        · rw [if_neg (by omega), if_pos c3] at hia
          rw [if_neg c1, if_neg c2, show i + 1 - 1 = i by omega, c3] at hib
          simp only [Option.some.injEq] at hia
          subst hia
          have hlt : p < out.length := (List.getElem?_eq_some_iff.1 hib).1
          have h4 := h3 hlt
          rwa [getD_of hib] at h4
        · rw [if_neg (by omega), if_neg c3] at hia
          rw [if_neg c1, if_neg c2] at hib
          refine ha (i - 1) a b hia ?_
          rw [show i - 1 + 1 = i + 1 - 1 by omega]
          exact hib
theorem insM_ok {out : List Mt} {x : Mt} (hx : MOK x) (ho : ∀ y ∈ out, MOK y) : ∀ y ∈ insM out x, MOK y := by
  unfold insM
  simp only
  split
  · exact ho
  · intro y hy
    rcases List.mem_append.1 hy with hy | hy
    · rcases List.mem_append.1 hy with hy | hy
      · exact ho y (List.mem_of_mem_take hy)
      · simp only [List.mem_cons, List.not_mem_nil, or_false] at hy
        subst hy; exact hx
    · exact ho y (List.mem_of_mem_drop hy)
theorem insM_len (out : List Mt) (x : Mt) : (insM out x).length ≤ out.length + 1 := by
  unfold insM; simp only; split
  · omega
  · simp; omega
theorem matsGo_ok (ds : List (Int × Int × Int)) : ∀ out, out.length ≤ 5 → (∀ y ∈ out, MOK y) → Adj out → (matsGo ds out).length ≤ 5 ∧ (∀ y ∈ matsGo ds out, MOK y) ∧ Adj (matsGo ds out) := by
  induction ds with
  | nil => intro out h1 h2 h3; exact ⟨h1, h2, h3⟩
  | cons d ds ih =>
    intro out h1 h2 h3
    rw [matsGo]
    split
    · have := insM_len out (matOf d)
      exact ih _ (by omega) (insM_ok (matOf_ok d) h2) (insM_adj (matOf_ok d) h2 h3)
    · exact ⟨h1, h2, h3⟩
theorem mats_ok (ds : List (Int × Int × Int)) : (matsGo ds []).length ≤ 5 ∧ (∀ y ∈ matsGo ds [], MOK y) ∧ Adj (matsGo ds []) :=
  matsGo_ok ds [] (Nat.zero_le _) (fun y hy => by cases hy) (fun i a b h => by simp at h)

section
variable (σ : St)
theorem strcmp_ans (a b : ByteArray) : Ans Try.prog 102 [Sx a, Sx b] σ (I (cmpS a b)) σ := by
  have h139 : Ans Try.prog 139 [Sx a, Sx b] σ (I (cmpS a b)) σ := cmp_ok _ _ _ _ rfl
  have h123 : Ans Try.prog 123 [Sx a, Sx b] σ (I (cmpS a b)) σ := by
    refine Ans.of_run t123 ?_
    simp -implicitDefEqProofs only [c123, r123, go_sem, List.reduceReplicate, Nat.reduceAdd, Nat.reduceSub, Nat.reduceLT, Nat.reduceLeDiff, Nat.reduceMul, Nat.reduceEqDiff, reduceCtorEq, Int.reduceLE, Int.reduceLT, Int.reduceEq, Int.reduceNe, Int.reduceBEq, Int.reduceBNe, Int.reduceAdd, Int.reduceSub]
    refine CO.intro h139 ?_
    simp -implicitDefEqProofs only [go_sem, List.reduceReplicate, Nat.reduceAdd, Nat.reduceSub, Nat.reduceLT, Nat.reduceLeDiff, Nat.reduceMul, Nat.reduceEqDiff, reduceCtorEq, Int.reduceLE, Int.reduceLT, Int.reduceEq, Int.reduceNe, Int.reduceBEq, Int.reduceBNe, Int.reduceAdd, Int.reduceSub]
    exact Fini.ret rfl
  refine Ans.of_run t102 ?_
  simp -implicitDefEqProofs only [c102, r102, go_sem, List.reduceReplicate, Nat.reduceAdd, Nat.reduceSub, Nat.reduceLT, Nat.reduceLeDiff, Nat.reduceMul, Nat.reduceEqDiff, reduceCtorEq, Int.reduceLE, Int.reduceLT, Int.reduceEq, Int.reduceNe, Int.reduceBEq, Int.reduceBNe, Int.reduceAdd, Int.reduceSub]
  refine CO.intro h123 ?_
  simp -implicitDefEqProofs only [go_sem, List.reduceReplicate, Nat.reduceAdd, Nat.reduceSub, Nat.reduceLT, Nat.reduceLeDiff, Nat.reduceMul, Nat.reduceEqDiff, reduceCtorEq, Int.reduceLE, Int.reduceLT, Int.reduceEq, Int.reduceNe, Int.reduceBEq, Int.reduceBNe, Int.reduceAdd, Int.reduceSub]
  exact Fini.ret rfl
theorem nan_ans (a : Int) : Ans Try.prog 124 [I a] σ (Bo false) σ := by
  have h : (a != a) = false := by simp
  refine Ans.of_run t124 ?_
  simp -implicitDefEqProofs only [c124, r124, go_sem, List.reduceReplicate, Nat.reduceAdd, Nat.reduceSub, Nat.reduceLT, Nat.reduceLeDiff, Nat.reduceMul, Nat.reduceEqDiff, reduceCtorEq, Int.reduceLE, Int.reduceLT, Int.reduceEq, Int.reduceNe, Int.reduceBEq, Int.reduceBNe, Int.reduceAdd, Int.reduceSub, h]
  exact Fini.ret rfl
theorem intcmp_ans (a b : Int) : Ans Try.prog 103 [I a, I b] σ (I (cmpI a b)) σ := by
  unfold cmpI
  refine Ans.of_run t103 ?_
  simp -implicitDefEqProofs only [c103, r103, go_sem, List.reduceReplicate, Nat.reduceAdd, Nat.reduceSub, Nat.reduceLT, Nat.reduceLeDiff, Nat.reduceMul, Nat.reduceEqDiff, reduceCtorEq, Int.reduceLE, Int.reduceLT, Int.reduceEq, Int.reduceNe, Int.reduceBEq, Int.reduceBNe, Int.reduceAdd, Int.reduceSub]
  refine CO.intro (nan_ans σ a) ?_
  simp -implicitDefEqProofs only [go_sem, List.reduceReplicate, Nat.reduceAdd, Nat.reduceSub, Nat.reduceLT, Nat.reduceLeDiff, Nat.reduceMul, Nat.reduceEqDiff, reduceCtorEq, Int.reduceLE, Int.reduceLT, Int.reduceEq, Int.reduceNe, Int.reduceBEq, Int.reduceBNe, Int.reduceAdd, Int.reduceSub]
  refine CO.intro (nan_ans σ b) ?_
  simp -implicitDefEqProofs only [go_sem, List.reduceReplicate, Nat.reduceAdd, Nat.reduceSub, Nat.reduceLT, Nat.reduceLeDiff, Nat.reduceMul, Nat.reduceEqDiff, reduceCtorEq, Int.reduceLE, Int.reduceLT, Int.reduceEq, Int.reduceNe, Int.reduceBEq, Int.reduceBNe, Int.reduceAdd, Int.reduceSub]
  by_cases h1 : a < b
  · have h1' : decide (a < b) = true := by simpa using h1
    simp -implicitDefEqProofs only [go_sem, List.reduceReplicate, Nat.reduceAdd, Nat.reduceSub, Nat.reduceLT, Nat.reduceLeDiff, Nat.reduceMul, Nat.reduceEqDiff, reduceCtorEq, Int.reduceLE, Int.reduceLT, Int.reduceEq, Int.reduceNe, Int.reduceBEq, Int.reduceBNe, Int.reduceAdd, Int.reduceSub, h1']
    rw [if_pos h1]
    exact Fini.ret rfl
  · have h1' : decide (a < b) = false := by simpa using h1
    simp -implicitDefEqProofs only [go_sem, List.reduceReplicate, Nat.reduceAdd, Nat.reduceSub, Nat.reduceLT, Nat.reduceLeDiff, Nat.reduceMul, Nat.reduceEqDiff, reduceCtorEq, Int.reduceLE, Int.reduceLT, Int.reduceEq, Int.reduceNe, Int.reduceBEq, Int.reduceBNe, Int.reduceAdd, Int.reduceSub, h1']
    rw [if_neg h1]
    by_cases h2 : b < a
    · have h2' : decide (b < a) = true := by simpa using h2
      simp -implicitDefEqProofs only [go_sem, List.reduceReplicate, Nat.reduceAdd, Nat.reduceSub, Nat.reduceLT, Nat.reduceLeDiff, Nat.reduceMul, Nat.reduceEqDiff, reduceCtorEq, Int.reduceLE, Int.reduceLT, Int.reduceEq, Int.reduceNe, Int.reduceBEq, Int.reduceBNe, Int.reduceAdd, Int.reduceSub, h2']
      rw [if_pos h2]
      exact Fini.ret rfl
    · have h2' : decide (b < a) = false := by simpa using h2
      simp -implicitDefEqProofs only [go_sem, List.reduceReplicate, Nat.reduceAdd, Nat.reduceSub, Nat.reduceLT, Nat.reduceLeDiff, Nat.reduceMul, Nat.reduceEqDiff, reduceCtorEq, Int.reduceLE, Int.reduceLT, Int.reduceEq, Int.reduceNe, Int.reduceBEq, Int.reduceBNe, Int.reduceAdd, Int.reduceSub, h2']
      rw [if_neg h2]
      exact Fini.ret rfl
def orF (a b c : Int) : Nat → Int
  | 0 => or3 a b c
  | 1 => if b != 0 then b else c
  | 2 => c
  | _ => 0
theorem or_ans (a b c : Int) : Ans Try.prog 101 [.sl 1 [I a, I b, I c]] σ (I (or3 a b c)) σ := by
  refine Ans.of_run t101 ?_
  simp -implicitDefEqProofs only [c101, r101, go_sem, List.reduceReplicate, Nat.reduceAdd, Nat.reduceSub, Nat.reduceLT, Nat.reduceLeDiff, Nat.reduceMul, Nat.reduceEqDiff, reduceCtorEq, Int.reduceLE, Int.reduceLT, Int.reduceEq, Int.reduceNe, Int.reduceBEq, Int.reduceBNe, Int.reduceAdd, Int.reduceSub]
  generalize hres : or3 a b c = res
  refine Go.Ab.L.intro (α := { i : Nat // i ≤ 3 ∧ orF a b c i = res }) (fun x => 3 - x.1)
    (fun x => mkE 18 [(3, I 0), (6, .sl 1 [I a, I b, I c]), (7, I ((3 : Nat) : Int)), (8, I x.1)]) (fun _ => σ) (fun x J hJ => ?_) ⟨0, Nat.zero_le _, hres⟩ rfl rfl
  obtain ⟨i, hi, hg⟩ := x
  simp only at hJ ⊢
  have i4 : i = 0 ∨ i = 1 ∨ i = 2 ∨ i = 3 := by omega
  have w0 : IntKind.i64.wrap (((0 : Nat) : Int) + 1) = ((1 : Nat) : Int) := by decide
  have w1 : IntKind.i64.wrap (((1 : Nat) : Int) + 1) = ((2 : Nat) : Int) := by decide
  have w2 : IntKind.i64.wrap (((2 : Nat) : Int) + 1) = ((3 : Nat) : Int) := by decide
  rcases i4 with rfl | rfl | rfl | rfl
  · have d1 : decide (((0 : Nat) : Int) < ((3 : Nat) : Int)) = true := by decide
    have d2 : (((0 : Nat) : Int) < ((3 : Nat) : Int)) = True := by simp
    simp only [orF, or3] at hg
    simp -implicitDefEqProofs only [mkE, List.foldl_cons, List.foldl_nil, go_sem, List.reduceReplicate, Nat.reduceAdd, Nat.reduceSub, Nat.reduceLT, Nat.reduceLeDiff, Nat.reduceMul, Nat.reduceEqDiff, reduceCtorEq, Int.reduceLE, Int.reduceLT, Int.reduceEq, Int.reduceNe, Int.reduceBEq, Int.reduceBNe, Int.reduceAdd, Int.reduceSub, d1, d2]
    cases h : a != 0
    · rw [h, if_neg Bool.false_ne_true] at hg
      have hJ' := hJ ⟨1, by omega, hg⟩ (by simp only; omega)
      simp only at hJ'
      simp -implicitDefEqProofs only [go_sem, List.reduceReplicate, Nat.reduceAdd, Nat.reduceSub, Nat.reduceLT, Nat.reduceLeDiff, Nat.reduceMul, Nat.reduceEqDiff, reduceCtorEq, Int.reduceLE, Int.reduceLT, Int.reduceEq, Int.reduceNe, Int.reduceBEq, Int.reduceBNe, Int.reduceAdd, Int.reduceSub, w0]
      exact hJ'
    · rw [h, if_pos rfl] at hg
      simp -implicitDefEqProofs only [go_sem, List.reduceReplicate, Nat.reduceAdd, Nat.reduceSub, Nat.reduceLT, Nat.reduceLeDiff, Nat.reduceMul, Nat.reduceEqDiff, reduceCtorEq, Int.reduceLE, Int.reduceLT, Int.reduceEq, Int.reduceNe, Int.reduceBEq, Int.reduceBNe, Int.reduceAdd, Int.reduceSub]
      rw [← hg]
      exact Fini.ret rfl
  · have d1 : decide (((1 : Nat) : Int) < ((3 : Nat) : Int)) = true := by decide
    have d2 : (((1 : Nat) : Int) < ((3 : Nat) : Int)) = True := by simp
    simp only [orF] at hg
    simp -implicitDefEqProofs only [mkE, List.foldl_cons, List.foldl_nil, go_sem, List.reduceReplicate, Nat.reduceAdd, Nat.reduceSub, Nat.reduceLT, Nat.reduceLeDiff, Nat.reduceMul, Nat.reduceEqDiff, reduceCtorEq, Int.reduceLE, Int.reduceLT, Int.reduceEq, Int.reduceNe, Int.reduceBEq, Int.reduceBNe, Int.reduceAdd, Int.reduceSub, d1, d2]
    cases h : b != 0
    · rw [h, if_neg Bool.false_ne_true] at hg
      have hJ' := hJ ⟨2, by omega, hg⟩ (by simp only; omega)
      simp only at hJ'
      simp -implicitDefEqProofs only [go_sem, List.reduceReplicate, Nat.reduceAdd, Nat.reduceSub, Nat.reduceLT, Nat.reduceLeDiff, Nat.reduceMul, Nat.reduceEqDiff, reduceCtorEq, Int.reduceLE, Int.reduceLT, Int.reduceEq, Int.reduceNe, Int.reduceBEq, Int.reduceBNe, Int.reduceAdd, Int.reduceSub, w1]
      exact hJ'
    · rw [h, if_pos rfl] at hg
      simp -implicitDefEqProofs only [go_sem, List.reduceReplicate, Nat.reduceAdd, Nat.reduceSub, Nat.reduceLT, Nat.reduceLeDiff, Nat.reduceMul, Nat.reduceEqDiff, reduceCtorEq, Int.reduceLE, Int.reduceLT, Int.reduceEq, Int.reduceNe, Int.reduceBEq, Int.reduceBNe, Int.reduceAdd, Int.reduceSub]
      rw [← hg]
      exact Fini.ret rfl
  · have d1 : decide (((2 : Nat) : Int) < ((3 : Nat) : Int)) = true := by decide
    have d2 : (((2 : Nat) : Int) < ((3 : Nat) : Int)) = True := by simp
    simp only [orF] at hg
    simp -implicitDefEqProofs only [mkE, List.foldl_cons, List.foldl_nil, go_sem, List.reduceReplicate, Nat.reduceAdd, Nat.reduceSub, Nat.reduceLT, Nat.reduceLeDiff, Nat.reduceMul, Nat.reduceEqDiff, reduceCtorEq, Int.reduceLE, Int.reduceLT, Int.reduceEq, Int.reduceNe, Int.reduceBEq, Int.reduceBNe, Int.reduceAdd, Int.reduceSub, d1, d2]
    cases h : c != 0
    · have hc : c = 0 := by simpa using h
      have hJ' := hJ ⟨3, by omega, by rw [← hg, hc]; rfl⟩ (by simp only; omega)
      simp only at hJ'
      simp -implicitDefEqProofs only [go_sem, List.reduceReplicate, Nat.reduceAdd, Nat.reduceSub, Nat.reduceLT, Nat.reduceLeDiff, Nat.reduceMul, Nat.reduceEqDiff, reduceCtorEq, Int.reduceLE, Int.reduceLT, Int.reduceEq, Int.reduceNe, Int.reduceBEq, Int.reduceBNe, Int.reduceAdd, Int.reduceSub, w2]
      exact hJ'
    · simp -implicitDefEqProofs only [go_sem, List.reduceReplicate, Nat.reduceAdd, Nat.reduceSub, Nat.reduceLT, Nat.reduceLeDiff, Nat.reduceMul, Nat.reduceEqDiff, reduceCtorEq, Int.reduceLE, Int.reduceLT, Int.reduceEq, Int.reduceNe, Int.reduceBEq, Int.reduceBNe, Int.reduceAdd, Int.reduceSub]
      rw [← hg]
      exact Fini.ret rfl
  · have d1 : decide (((3 : Nat) : Int) < ((3 : Nat) : Int)) = false := by decide
    have d2 : (((3 : Nat) : Int) < ((3 : Nat) : Int)) = False := by simp
    simp only [orF] at hg
    simp -implicitDefEqProofs only [mkE, List.foldl_cons, List.foldl_nil, go_sem, List.reduceReplicate, Nat.reduceAdd, Nat.reduceSub, Nat.reduceLT, Nat.reduceLeDiff, Nat.reduceMul, Nat.reduceEqDiff, reduceCtorEq, Int.reduceLE, Int.reduceLT, Int.reduceEq, Int.reduceNe, Int.reduceBEq, Int.reduceBNe, Int.reduceAdd, Int.reduceSub, d1, d2]
    rw [← hg]
    exact Fini.ret rfl
theorem compare_ans (x y : Mt) : Ans Try.prog 66 [mv x, mv y] σ (I (cmp3 x y)) σ := by
  have h1 := fun s => strcmp_ans s x.2.1 y.2.1
  have h2 := fun s => intcmp_ans s x.1 y.1
  have h3 := fun s => strcmp_ans s x.2.2 y.2.2
  have h4 := fun s => or_ans s (cmpS x.2.1 y.2.1) (cmpI x.1 y.1) (cmpS x.2.2 y.2.2)
  unfold cmp3
  refine Ans.of_run t66 ?_
  simp -implicitDefEqProofs only [c66, r66, go_sem, List.reduceReplicate, Nat.reduceAdd, Nat.reduceSub, Nat.reduceLT, Nat.reduceLeDiff, Nat.reduceMul, Nat.reduceEqDiff, reduceCtorEq, Int.reduceLE, Int.reduceLT, Int.reduceEq, Int.reduceNe, Int.reduceBEq, Int.reduceBNe, Int.reduceAdd, Int.reduceSub, D_callS]
  first | refine CD.intro (h1 _) ?_ | refine CS.intro h1 ?_
  simp -implicitDefEqProofs only [go_sem, List.reduceReplicate, Nat.reduceAdd, Nat.reduceSub, Nat.reduceLT, Nat.reduceLeDiff, Nat.reduceMul, Nat.reduceEqDiff, reduceCtorEq, Int.reduceLE, Int.reduceLT, Int.reduceEq, Int.reduceNe, Int.reduceBEq, Int.reduceBNe, Int.reduceAdd, Int.reduceSub, D_callS]
  first | refine CD.intro (h2 _) ?_ | refine CS.intro h2 ?_
  simp -implicitDefEqProofs only [go_sem, List.reduceReplicate, Nat.reduceAdd, Nat.reduceSub, Nat.reduceLT, Nat.reduceLeDiff, Nat.reduceMul, Nat.reduceEqDiff, reduceCtorEq, Int.reduceLE, Int.reduceLT, Int.reduceEq, Int.reduceNe, Int.reduceBEq, Int.reduceBNe, Int.reduceAdd, Int.reduceSub, D_callS]
  first | refine CD.intro (h3 _) ?_ | refine CS.intro h3 ?_
  simp -implicitDefEqProofs only [go_sem, List.reduceReplicate, Nat.reduceAdd, Nat.reduceSub, Nat.reduceLT, Nat.reduceLeDiff, Nat.reduceMul, Nat.reduceEqDiff, reduceCtorEq, Int.reduceLE, Int.reduceLT, Int.reduceEq, Int.reduceNe, Int.reduceBEq, Int.reduceBNe, Int.reduceAdd, Int.reduceSub, D_callS]
  first | refine CD.intro (h4 _) ?_ | refine CS.intro h4 ?_
  simp -implicitDefEqProofs only [go_sem, List.reduceReplicate, Nat.reduceAdd, Nat.reduceSub, Nat.reduceLT, Nat.reduceLeDiff, Nat.reduceMul, Nat.reduceEqDiff, reduceCtorEq, Int.reduceLE, Int.reduceLT, Int.reduceEq, Int.reduceNe, Int.reduceBEq, Int.reduceBNe, Int.reduceAdd, Int.reduceSub]
  exact Fini.ret rfl
theorem is_any (x : Mt) (h : MOK x) : Ans Try.prog 16 [mv x] σ (Bo true) σ := by
  obtain ⟨k, n, v⟩ := x
  obtain ⟨h1, h2, h3, h4, h5⟩ := h
  simp only at h1 h2 h3 h4 h5
  have hk : k = 1 ∨ k = 2 ∨ k = 3 ∨ k = 4 := by omega
  rcases hk with rfl | rfl | rfl | rfl
  · exact is1_ans σ n v h3 (h4 (by omega))
  · exact is2_ans σ n v h3 (h4 (by omega))
  · obtain ⟨st, ok, hp⟩ := pat_ok v (h5 (by omega))
    exact hp.is3 σ n h3
  · obtain ⟨st, ok, hp⟩ := pat_ok v (h5 (by omega))
    exact hp.is4 σ n h3
theorem list_ans (M : List Mt) (hl : M.length ≤ 5) (ho : ∀ y ∈ M, MOK y) (ha : Adj M) : Ans Try.prog 24 [.sl 3 (mvs M)] σ (Bo true) σ := by
  refine Ans.of_run' t24 (fun hbel _ => ?_)
  have hbel' : (∀ o ∈ σ, BelO σ.length o) = True := eq_true hbel
  have e5 : decide ((5 : Int) < ((M.length : Nat) : Int)) = false := by simp; omega
  simp -implicitDefEqProofs only [c24, r24, go_sem, List.reduceReplicate, Nat.reduceAdd, Nat.reduceSub, Nat.reduceLT, Nat.reduceLeDiff, Nat.reduceMul, Nat.reduceEqDiff, reduceCtorEq, Int.reduceLE, Int.reduceLT, Int.reduceEq, Int.reduceNe, Int.reduceBEq, Int.reduceBNe, Int.reduceAdd, Int.reduceSub, mvs_len, e5]
  refine Go.Ab.L.count M.length (fun i => mkE 33 [(0, .sl 3 (mvs M)), (8, .sl 3 (mvs M)), (9, I ((M.length : Nat) : Int)), (10, I i)]) (fun _ => σ) ?_ ?_ rfl rfl
  · intro i hi Q hQ
    have hx := mvs_get M i hi
    have ok1 := ho M[i] (List.getElem_mem hi)
    have hws : IntKind.i64.wrap ((i : Int) + 1) = ((i + 1 : Nat) : Int) := wrap_succ (by omega)
    have e0 : decide ((0 : Int) < (i : Nat)) = decide (0 < i) := by rw [Bool.eq_iff_iff]; simp
    simp -implicitDefEqProofs only [mkE, List.foldl_cons, List.foldl_nil, go_sem, List.reduceReplicate, Nat.reduceAdd, Nat.reduceSub, Nat.reduceLT, Nat.reduceLeDiff, Nat.reduceMul, Nat.reduceEqDiff, reduceCtorEq, Int.reduceLE, Int.reduceLT, Int.reduceEq, Int.reduceNe, Int.reduceBEq, Int.reduceBNe, Int.reduceAdd, Int.reduceSub, D_callS, mvs_len, nat_lt hi, dec_lt hi, hx, g0, s0]
    first | refine CD.intro (is_any _ M[i] ok1) ?_ | refine CS.intro (fun s => is_any s M[i] ok1) ?_
    simp -implicitDefEqProofs only [go_sem, List.reduceReplicate, Nat.reduceAdd, Nat.reduceSub, Nat.reduceLT, Nat.reduceLeDiff, Nat.reduceMul, Nat.reduceEqDiff, reduceCtorEq, Int.reduceLE, Int.reduceLT, Int.reduceEq, Int.reduceNe, Int.reduceBEq, Int.reduceBNe, Int.reduceAdd, Int.reduceSub, D_callS, e0]
    cases h0 : decide (0 < i)
    · simp -implicitDefEqProofs only [go_sem, List.reduceReplicate, Nat.reduceAdd, Nat.reduceSub, Nat.reduceLT, Nat.reduceLeDiff, Nat.reduceMul, Nat.reduceEqDiff, reduceCtorEq, Int.reduceLE, Int.reduceLT, Int.reduceEq, Int.reduceNe, Int.reduceBEq, Int.reduceBNe, Int.reduceAdd, Int.reduceSub, D_callS, hws, g0, s0, B_pl, B_any, B_nils, B_tup, B_osl, B_ptr, B_sl0, B_mvs, B_mat, B_m1, B_mcons, B_mmid, B_rp3, B_ds, B_d3, B_rpd, List.take_left, hbel', List.length_append, Nat.le_add_right]
      first | exact hQ | exact ⟨by omega, hQ⟩ | trace_state
    · have hi0 : 0 < i := by simpa using h0
      have hlt2 : i - 1 < M.length := by omega
      have hy := mvs_get M (i - 1) hlt2
      have ok2 := ho M[i - 1] (List.getElem_mem hlt2)
      have e3 : IntKind.i64.wrap ((i : Int) - 1) = ((i - 1 : Nat) : Int) := by rw [wrapN (by omega) (by omega)]; omega
      have hah := ha (i - 1) M[i - 1] M[i] (by simp [hlt2]) (by rw [show i - 1 + 1 = i by omega]; simp [hi])
      have hc := cmp3_ahead ok2 ok1 hah
      simp -implicitDefEqProofs only [go_sem, List.reduceReplicate, Nat.reduceAdd, Nat.reduceSub, Nat.reduceLT, Nat.reduceLeDiff, Nat.reduceMul, Nat.reduceEqDiff, reduceCtorEq, Int.reduceLE, Int.reduceLT, Int.reduceEq, Int.reduceNe, Int.reduceBEq, Int.reduceBNe, Int.reduceAdd, Int.reduceSub, D_callS, e3, hx, hy, mvs_len, nat_lt hlt2, nat_lt hi, g0, s0]
      first | refine CD.intro (compare_ans _ M[i - 1] M[i]) ?_ | refine CS.intro (fun s => compare_ans s M[i - 1] M[i]) ?_
      simp -implicitDefEqProofs only [go_sem, List.reduceReplicate, Nat.reduceAdd, Nat.reduceSub, Nat.reduceLT, Nat.reduceLeDiff, Nat.reduceMul, Nat.reduceEqDiff, reduceCtorEq, Int.reduceLE, Int.reduceLT, Int.reduceEq, Int.reduceNe, Int.reduceBEq, Int.reduceBNe, Int.reduceAdd, Int.reduceSub, D_callS, hc, hws, g0, s0, B_pl, B_any, B_nils, B_tup, B_osl, B_ptr, B_sl0, B_mvs, B_mat, B_m1, B_mcons, B_mmid, B_rp3, B_ds, B_d3, B_rpd, List.take_left, hbel', List.length_append, Nat.le_add_right]
      first | exact hQ | exact ⟨by omega, hQ⟩ | trace_state
  · intro Q
    have hlt : ¬ M.length < M.length := Nat.lt_irrefl _
    simp -implicitDefEqProofs only [mkE, List.foldl_cons, List.foldl_nil, go_sem, List.reduceReplicate, Nat.reduceAdd, Nat.reduceSub, Nat.reduceLT, Nat.reduceLeDiff, Nat.reduceMul, Nat.reduceEqDiff, reduceCtorEq, Int.reduceLE, Int.reduceLT, Int.reduceEq, Int.reduceNe, Int.reduceBEq, Int.reduceBNe, Int.reduceAdd, Int.reduceSub, mvs_len, nat_nlt hlt, dec_nlt hlt]
    exact Fini.ret rfl
end
end Go.Proofs.Ytoadgajhkhejiaa
