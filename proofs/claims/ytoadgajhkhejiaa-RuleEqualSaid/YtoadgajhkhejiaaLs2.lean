/- How large a tree is that was read, and a tree with nil kids as one with empty ones. No condition. -/
import Derived.Test.YtoadgajhkhejiaaPPar7
import Derived.Test.YtoadgajhkhejiaaPPar3
import Derived.Test.YtoadgajhkhejiaaPTree
import GoSem.Extern.BytealgCompare
import Derived.Laws.Strings
import Derived.Test.YtoadgajhkhejiaaProg
import Derived.Test.YtoadgajhkhejiaaAbStep
set_option linter.unusedSimpArgs false
set_option linter.unusedVariables false
namespace Go.Proofs.Ytoadgajhkhejiaa
open Go Go.Ab
set_option maxRecDepth 100000
open Rex
theorem sub_ks {M : Nat → Prop} {R : Ref → Value → Prop} {w : World} : ∀ (n : Nat) (x : Rex), SizeOf.sizeOf x ≤ n → ∀ v, Rep M R w (rvK x.ks) v → Rep M R w (.sl 6 (x.ks.map av)) v := by
  intro n
  induction n with
  | zero => intro x h; cases x; simp at h
  | succ n ih =>
    intro x hx v h
    have hlt : ∀ y ∈ x.ks, SizeOf.sizeOf y < SizeOf.sizeOf x := fun y hy => lt_of_mem hy
    generalize x.ks = L at h hlt
    rcases L with _ | ⟨y, L⟩
    · cases h; exact .sl0 6 _ _
    · rw [rvK_cons] at h
      generalize hM : y :: L = M' at h hlt
      have hget : ∀ i (hi : i < (M'.map rv).length), (M'.map rv)[i].cells = [I (M'[i]'(by simpa using hi)).op, U (M'[i]'(by simpa using hi)).a, U (M'[i]'(by simpa using hi)).b, U (M'[i]'(by simpa using hi)).c, U (M'[i]'(by simpa using hi)).d, rvK (M'[i]'(by simpa using hi)).ks] := fun i hi => by
        rw [List.getElem_map, rv_cells]
      have hget2 : ∀ i (hi : i < (M'.map av).length), (M'.map av)[i].cells = [I (M'[i]'(by simpa using hi)).op, U (M'[i]'(by simpa using hi)).a, U (M'[i]'(by simpa using hi)).b, U (M'[i]'(by simpa using hi)).c, U (M'[i]'(by simpa using hi)).d, .sl 6 ((M'[i]'(by simpa using hi)).ks.map av)] := fun i hi => by
        rw [List.getElem_map, av_eq]; rfl
      generalize hN : M'.map rv = N at h
      cases h with
      | sl0 => 
        have : M' = [] := by simpa using hN
        rw [this] at hM; cases hM
      | sl _ _ b o cap f hcap hc hr =>
        subst hN
        have e : (M'.map rv).length = (M'.map av).length := by simp
        rw [e]
        refine Rep.sl 6 (M'.map av) b o cap f (by rw [← e]; exact hcap) ?_ ?_
        · intro i j hi hj
          have hi' : i < (M'.map rv).length := by rw [e]; exact hi
          refine hc i j hi' ?_
          rw [hget2 i hi] at hj
          rw [hget i hi']
          exact hj
        · intro i j hi hj
          have hi' : i < (M'.map rv).length := by rw [e]; exact hi
          have hj6 : j < 6 := by rw [hget2 i hi] at hj; exact hj
          have hj' : j < ((M'.map rv)[i].cells).length := by rw [hget i hi']; exact hj6
          have h2 := hr i j hi' hj'
          simp only [hget i hi'] at h2
          simp only [hget2 i hi]
          have hmem : M'[i]'(by simpa using hi) ∈ M' := List.getElem_mem _
          have ih2 := ih (M'[i]'(by simpa using hi)) (by have := hlt _ hmem; omega)
          have h6 : j = 0 ∨ j = 1 ∨ j = 2 ∨ j = 3 ∨ j = 4 ∨ j = 5 := by omega
          rcases h6 with rfl | rfl | rfl | rfl | rfl | rfl
          · exact h2
          · exact h2
          · exact h2
          · exact h2
          · exact h2
          · exact ih2 _ h2
theorem sub_rv {M : Nat → Prop} {R : Ref → Value → Prop} {w : World} (x : Rex) (v : Value) (h : Rep M R w x.rv v) : Rep M R w x.av v := by
  have hk := sub_ks (M := M) (R := R) (w := w) (SizeOf.sizeOf x) x (Nat.le_refl _)
  rw [rv_eq] at h
  rw [av_eq]
  cases h with
  | agg _ vs hl hr =>
    refine .agg _ vs hl fun j hj hj' => ?_
    have h2 := hr j hj hj'
    have hj6 : j < 6 := hj
    have h6 : j = 0 ∨ j = 1 ∨ j = 2 ∨ j = 3 ∨ j = 4 ∨ j = 5 := by omega
    rcases h6 with rfl | rfl | rfl | rfl | rfl | rfl
    · exact h2
    · exact h2
    · exact h2
    · exact h2
    · exact h2
    · exact hk _ h2
theorem Ans.sub {P : Program} {f : FuncId} {x : Rex} {σ σ' : St} {r : AV} (h : Ans P f [x.av] σ r σ') : Ans P f [x.rv] σ r σ' := by
  intro M ν w vs hg hr
  refine h M ν w vs hg ⟨hr.1, fun j hj hj' => ?_⟩
  have h2 := hr.2 j hj hj'
  have : j = 0 := by simp at hj; exact hj
  subst this
  exact sub_rv x _ h2
theorem nodesL_snoc (K : List Rex) (x : Rex) : nodesL (K ++ [x]) = nodesL K + x.nodes := by
  induction K with
  | nil => simp [nodesL]
  | cons y K ih => simp only [List.cons_append, nodesL, ih]; omega
theorem nodes_one (op : Int) (K : List Rex) : (one op K).nodes ≤ 1 + nodesL K := by
  rcases K with _ | ⟨y, _ | ⟨z, K⟩⟩
  · simp [one, nodes_eq, Rex.ks, nodesL]
  · simp [one, nodesL]
  · rw [one, nodes_eq]; exact Nat.le_refl _
    intro x h; cases h
theorem nodes_ofSet (S : List Int) : (ofSet S).nodes = 1 := rfl
section
variable (s : ByteArray)
theorem nextA_le {a : Nat} (b : Bool) (c : Nat) (h : a ≤ s.size) : nextA s a b c ≤ s.size := by
  unfold nextA; split
  · rename_i hs; have := (sees_lt hs).1; omega
  · exact h
theorem pbyte_le {a : Nat} (b : Bool) (h : a ≤ s.size) : (pbyte s a b).2.1 ≤ s.size := by
  unfold pbyte; split
  · exact h
  · rename_i ho; have := over_lt (by simpa using ho : over s a b = false); show a + 1 ≤ s.size; omega
theorem psign_le {a : Nat} (b : Bool) (h : a ≤ s.size) : (psign s a b).2.1 ≤ s.size := pbyte_le s b h
theorem pmember_le {a : Nat} (b : Bool) (h : a ≤ s.size) : (pmember s a b).2.1 ≤ s.size := by
  unfold pmember; split
  · exact psign_le s _ (pbyte_le s b h)
  · exact pbyte_le s b h
theorem cTo_le {a : Nat} (b : Bool) (h : a ≤ s.size) : (cTo s a b).2.1 ≤ s.size := by
  unfold cTo; split
  · rename_i hs
    have := (sees_lt hs).1
    exact pmember_le s _ (by omega)
  · exact pmember_le s b h
theorem classL_le : ∀ (n : Nat) (S : List Int) (a : Nat) (b first : Bool), a ≤ s.size → (classL s n S a b first).2.1 ≤ s.size
  | 0, S, a, b, first, h => h
  | n + 1, S, a, b, first, h => by
    rw [classL]; split
    · exact classL_le n _ _ _ _ (cTo_le s b h)
    · exact h
theorem pclass_le {a : Nat} (b : Bool) (h : a ≤ s.size) : (pclass s a b).2.1 ≤ s.size :=
  nextA_le s _ 93 (classL_le s _ _ _ _ _ (nextA_le s b 94 h))
def Bd (c : Nat) (g : Bool) (P : PF) : Prop := ∀ a b, a ≤ s.size → (g = true → over s a b = false) →
  a ≤ (P a b).2.1 ∧ (P a b).2.1 ≤ s.size ∧ (P a b).1.nodes + 3 * a ≤ c + 3 * (P a b).2.1
theorem bd_atom {P : PF} {d : Nat} (h : Bd s 2 false P) : Bd s 0 true (patom s P d) := by
  intro a b ha hg
  have ho := hg rfl
  have hlt := over_lt ho
  have h1 : pbyte s a b = (byteAt s a, a + 1, b) := by simp [pbyte, ho]
  have h2 := h (a + 1) b (by omega) (fun e => absurd e Bool.false_ne_true)
  unfold patom
  rw [h1]
  simp only
  split
  · split
    · have n1 := nextA_le s (a := a + 1) (b || d == 8) 41 (by omega)
      have n2 := nextA_ge s (a + 1) (b || d == 8) 41
      refine ⟨by simp only; omega, n1, ?_⟩
      simp only [nodes_ofSet]; omega
    · have n1 := nextA_le s (P (a + 1) b).2.2 41 h2.2.1
      have n2 := nextA_ge s (P (a + 1) b).2.1 (P (a + 1) b).2.2 41
      refine ⟨by simp only; omega, n1, ?_⟩
      simp only; omega
  · split
    · have n1 := pclass_le s (a := a + 1) b (by omega)
      have n2 := (pclass_ge s (a + 1) b).1
      refine ⟨by simp only; omega, n1, ?_⟩
      simp only [nodes_ofSet]; omega
    · split
      · exact ⟨Nat.le_succ _, by simp only; omega, by simp only [nodes_ofSet]; omega⟩
      · split
        · have n1 := psign_le s (a := a + 1) b (by omega)
          have n2 := psign_ge s (a + 1) b
          refine ⟨by simp only; omega, n1, ?_⟩
          simp only [nodes_ofSet]; omega
        · exact ⟨Nat.le_succ _, by simp only; omega, by simp only [nodes_ofSet]; omega⟩
theorem nodes_kid (op : Int) (x : Rex) : (Rex.mk op 0 0 0 0 [x]).nodes = 1 + x.nodes := by
  rw [nodes_eq]; simp [Rex.ks, nodesL]
theorem bd_factor {P : PF} (h : Bd s 0 true P) : Bd s 0 true (pfactor s P) := by
  intro a b ha hg
  obtain ⟨h1, h2, h3⟩ := h a b ha hg
  unfold pfactor
  simp only
  split
  · rename_i hs; have := (sees_lt hs).1
    refine ⟨by simp only; omega, by simp only; omega, ?_⟩
    simp only [nodes_kid]; omega
  · split
    · rename_i hs; have := (sees_lt hs).1
      refine ⟨by simp only; omega, by simp only; omega, ?_⟩
      simp only [nodes_kid]; omega
    · split
      · rename_i hs; have := (sees_lt hs).1
        refine ⟨by simp only; omega, by simp only; omega, ?_⟩
        simp only [nodes_kid]; omega
      · exact ⟨h1, h2, h3⟩
theorem bd_wayL {P : PF} (h : Bd s 0 true P) : ∀ (n : Nat) (K : List Rex) (a : Nat) (b : Bool), a ≤ s.size →
    a ≤ (pwayL s P n K a b).2.1 ∧ (pwayL s P n K a b).2.1 ≤ s.size ∧ nodesL (pwayL s P n K a b).1 + 3 * a ≤ nodesL K + 3 * (pwayL s P n K a b).2.1
  | 0, K, a, b, ha => ⟨Nat.le_refl _, ha, Nat.le_refl _⟩
  | n + 1, K, a, b, ha => by
    rw [pwayL]; split
    · rename_i hg
      have ho : over s a b = false := by
        cases h : over s a b
        · rfl
        · simp [wGo, h] at hg
      obtain ⟨h1, h2, h3⟩ := h a b ha (fun _ => ho)
      obtain ⟨i1, i2, i3⟩ := bd_wayL h n (K ++ [(P a b).1]) (P a b).2.1 (P a b).2.2 h2
      rw [nodesL_snoc] at i3
      exact ⟨by omega, i2, by omega⟩
    · exact ⟨Nat.le_refl _, ha, Nat.le_refl _⟩
theorem bd_way {P : PF} (h : Bd s 0 true P) : Bd s 1 false (pway s P) := by
  intro a b ha _
  obtain ⟨i1, i2, i3⟩ := bd_wayL s h (s.size + 1) [] a b ha
  have i4 := nodes_one 2 (pwayL s P (s.size + 1) [] a b).1
  simp only [nodesL] at i3
  unfold pway
  exact ⟨i1, i2, by simp only; omega⟩
theorem bd_waysL {P : PF} (h : Bd s 1 false P) : ∀ (n : Nat) (K : List Rex) (a : Nat) (b : Bool), a ≤ s.size →
    a ≤ (pwaysL s P n K a b).2.1 ∧ (pwaysL s P n K a b).2.1 ≤ s.size ∧ nodesL (pwaysL s P n K a b).1 + 3 * a ≤ nodesL K + 3 * (pwaysL s P n K a b).2.1
  | 0, K, a, b, ha => ⟨Nat.le_refl _, ha, Nat.le_refl _⟩
  | n + 1, K, a, b, ha => by
    rw [pwaysL]; split
    · rename_i hs; have := (sees_lt hs).1
      obtain ⟨h1, h2, h3⟩ := h (a + 1) b (by omega) (fun e => absurd e Bool.false_ne_true)
      obtain ⟨i1, i2, i3⟩ := bd_waysL h n (K ++ [(P (a + 1) b).1]) (P (a + 1) b).2.1 (P (a + 1) b).2.2 h2
      rw [nodesL_snoc] at i3
      exact ⟨by omega, i2, by omega⟩
    · exact ⟨Nat.le_refl _, ha, Nat.le_refl _⟩
theorem bd_ways {P : PF} (h : Bd s 1 false P) : Bd s 2 false (pways s P) := by
  intro a b ha _
  obtain ⟨h1, h2, h3⟩ := h a b ha (fun e => absurd e Bool.false_ne_true)
  obtain ⟨i1, i2, i3⟩ := bd_waysL s h (s.size + 1) [(P a b).1] (P a b).2.1 (P a b).2.2 h2
  have i4 := nodes_one 3 (pwaysL s P (s.size + 1) [(P a b).1] (P a b).2.1 (P a b).2.2).1
  simp only [nodesL] at i3
  unfold pways
  exact ⟨by simp only; omega, i2, by simp only; omega⟩
theorem bd_lvl {P : PF} (h : Bd s 2 false P) (d : Nat) : Bd s 2 false (lvl s P d) := bd_ways s (bd_way s (bd_factor s (bd_atom s h)))
theorem bd_PW : ∀ k, Bd s 2 false (PW s k)
  | 0 => bd_lvl s (fun a b ha _ => ⟨Nat.le_refl _, ha, by simp only [nodes_ofSet]; omega⟩) 8
  | k + 1 => bd_lvl s (bd_PW k) _
theorem pparse_nodes : (pparse s).1.nodes ≤ 122 := by
  unfold pparse
  simp only
  split
  · show (1 : Nat) ≤ 122; decide
  · rename_i hb
    have h := bd_PW s 8 0 (decide (40 < s.size)) (Nat.zero_le _) (fun e => absurd e Bool.false_ne_true)
    have hs : s.size ≤ 40 := by
      rcases Nat.lt_or_ge 40 s.size with h40 | h40
      · have := (fwd_PW s 8 0 true).2 rfl
        simp [h40, this] at hb
      · exact h40
    simp only
    omega
end
end Go.Proofs.Ytoadgajhkhejiaa
namespace Go.Proofs.Ytoadgajhkhejiaa
open Go Go.Ab
set_option maxRecDepth 100000
def letterB (c : Nat) : Bool := decide (97 ≤ c) && decide (c ≤ 122) || decide (65 ≤ c) && decide (c ≤ 90) || c == 95
def digitB (c : Nat) : Bool := decide (48 ≤ c) && decide (c ≤ 57)
def nameB (s : ByteArray) : Bool := decide (1 ≤ s.size) && decide (s.size ≤ 12) && letterB (byteAt s 0) && (List.range s.size).all fun i => letterB (byteAt s i) || digitB (byteAt s i)
theorem int_le (a b : Nat) : decide ((a : Int) ≤ (b : Int)) = decide (a ≤ b) := by
  rw [Bool.eq_iff_iff]; simp only [decide_eq_true_eq]; omega
theorem letter_ans (σ : St) (c : Nat) : Ans Try.prog 94 [.pl (.int .u8 c)] σ (Bo (letterB c)) σ := by
  have e1 : decide ((97 : Int) ≤ c) = decide (97 ≤ c) := int_le 97 c
  have e2 : decide ((c : Int) ≤ 122) = decide (c ≤ 122) := int_le c 122
  have e3 : decide ((65 : Int) ≤ c) = decide (65 ≤ c) := int_le 65 c
  have e4 : decide ((c : Int) ≤ 90) = decide (c ≤ 90) := int_le c 90
  have e5 : ((c : Int) == 95) = (c == 95) := beq_cast c 95
  have hg : (if (if decide (97 ≤ c) then decide (c ≤ 122) else false) then true else if (if decide (65 ≤ c) then decide (c ≤ 90) else false) then true else (c == 95)) = letterB c := by
    unfold letterB
    cases decide (97 ≤ c) <;> cases decide (c ≤ 122) <;> cases decide (65 ≤ c) <;> cases decide (c ≤ 90) <;> cases (c == 95) <;> rfl
  rw [← hg]
  refine Ans.of_run t94 ?_
  cases h1 : decide (97 ≤ c) <;> cases h2 : decide (c ≤ 122) <;> cases h3 : decide (65 ≤ c) <;> cases h4 : decide (c ≤ 90) <;> rw [h1] at e1 <;> rw [h2] at e2 <;> rw [h3] at e3 <;> rw [h4] at e4
  all_goals (simp -implicitDefEqProofs only [c94, r94, go_sem, List.reduceReplicate, Nat.reduceAdd, Nat.reduceSub, Nat.reduceLT, Nat.reduceLeDiff, Nat.reduceMul, Nat.reduceEqDiff, reduceCtorEq, Int.reduceLE, Int.reduceLT, Int.reduceEq, Int.reduceNe, Int.reduceBEq, Int.reduceBNe, Int.reduceAdd, Int.reduceSub, e1, e2, e3, e4, e5]; exact Fini.ret rfl)
theorem decN (a b : Nat) : decide ((a : Int) < (b : Int)) = decide (a < b) := by
  rw [Bool.eq_iff_iff]; simp only [decide_eq_true_eq]; omega
theorem name_ans' (σ : St) (s : ByteArray) : Ans Try.prog 51 [Sx s] σ (Bo (nameB s)) σ := by
  refine Ans.of_run t51 ?_
  have d1 : decide ((s.size : Int) < 1) = decide (s.size < 1) := decN s.size 1
  have d2 : decide ((12 : Int) < s.size) = decide (12 < s.size) := decN 12 s.size
  by_cases h1 : s.size < 1
  · have e1 : decide (s.size < 1) = true := by simpa using h1
    rw [e1] at d1
    simp -implicitDefEqProofs only [c51, r51, go_sem, List.reduceReplicate, Nat.reduceAdd, Nat.reduceSub, Nat.reduceLT, Nat.reduceLeDiff, Nat.reduceMul, Nat.reduceEqDiff, reduceCtorEq, Int.reduceLE, Int.reduceLT, Int.reduceEq, Int.reduceNe, Int.reduceBEq, Int.reduceBNe, Int.reduceAdd, Int.reduceSub, d1]
    refine Fini.ret' rfl (bo_congr ?_)
    rw [nameB, show decide (1 ≤ s.size) = false from decide_eq_false (by omega)]; rfl
  have e1 : decide (s.size < 1) = false := by simpa using h1
  rw [e1] at d1
  by_cases h2 : 12 < s.size
  · have e2 : decide (12 < s.size) = true := by simpa using h2
    rw [e2] at d2
    simp -implicitDefEqProofs only [c51, r51, go_sem, List.reduceReplicate, Nat.reduceAdd, Nat.reduceSub, Nat.reduceLT, Nat.reduceLeDiff, Nat.reduceMul, Nat.reduceEqDiff, reduceCtorEq, Int.reduceLE, Int.reduceLT, Int.reduceEq, Int.reduceNe, Int.reduceBEq, Int.reduceBNe, Int.reduceAdd, Int.reduceSub, d1, d2]
    refine Fini.ret' rfl (bo_congr ?_)
    rw [nameB, show decide (s.size ≤ 12) = false from decide_eq_false (by omega), Bool.and_false]; rfl
  have e2 : decide (12 < s.size) = false := by simpa using h2
  rw [e2] at d2
  have z1 : ((0 : Int) < s.size) = True := by simp; omega
  have n1 : decide (1 ≤ s.size) = true := by simp; omega
  have n2 : decide (s.size ≤ 12) = true := by simp; omega
  simp -implicitDefEqProofs only [c51, r51, go_sem, List.reduceReplicate, Nat.reduceAdd, Nat.reduceSub, Nat.reduceLT, Nat.reduceLeDiff, Nat.reduceMul, Nat.reduceEqDiff, reduceCtorEq, Int.reduceLE, Int.reduceLT, Int.reduceEq, Int.reduceNe, Int.reduceBEq, Int.reduceBNe, Int.reduceAdd, Int.reduceSub, d1, d2, z1, byteAt_def, Int.toNat_zero]
  refine CO.intro (letter_ans _ _) ?_
  cases hl : letterB (byteAt s 0) with
  | false =>
    simp -implicitDefEqProofs only [go_sem, List.reduceReplicate, Nat.reduceAdd, Nat.reduceSub, Nat.reduceLT, Nat.reduceLeDiff, Nat.reduceMul, Nat.reduceEqDiff, reduceCtorEq, Int.reduceLE, Int.reduceLT, Int.reduceEq, Int.reduceNe, Int.reduceBEq, Int.reduceBNe, Int.reduceAdd, Int.reduceSub, Int.toNat_zero, hl]
    refine Fini.ret' rfl (bo_congr ?_)
    rw [nameB, hl, Bool.and_false]; rfl
  | true =>
  simp -implicitDefEqProofs only [go_sem, List.reduceReplicate, Nat.reduceAdd, Nat.reduceSub, Nat.reduceLT, Nat.reduceLeDiff, Nat.reduceMul, Nat.reduceEqDiff, reduceCtorEq, Int.reduceLE, Int.reduceLT, Int.reduceEq, Int.reduceNe, Int.reduceBEq, Int.reduceBNe, Int.reduceAdd, Int.reduceSub, Int.toNat_zero, hl]
  refine Go.Ab.L.scan s.size (fun i => letterB (byteAt s i) || digitB (byteAt s i)) (fun i => mkE 41 [(0, Sx s), (19, I s.size), (20, I i)]) (fun _ => σ) ?_ ?_ ?_ rfl
  · intro i hi hp J hJ
    have hlt : ((i : Int) < s.size) = True := by simp; omega
    have hin := wrap_nat (n := i) (by omega)
    have f1 : decide ((byteAt s i : Int) < 48) = decide (byteAt s i < 48) := decN _ 48
    have f2 : decide ((57 : Int) < byteAt s i) = decide (57 < byteAt s i) := decN 57 _
    simp -implicitDefEqProofs only [mkE, List.foldl_cons, List.foldl_nil, go_sem, List.reduceReplicate, Nat.reduceAdd, Nat.reduceSub, Nat.reduceLT, Nat.reduceLeDiff, Nat.reduceMul, Nat.reduceEqDiff, reduceCtorEq, Int.reduceLE, Int.reduceLT, Int.reduceEq, Int.reduceNe, Int.reduceBEq, Int.reduceBNe, Int.reduceAdd, Int.reduceSub, hlt, byteAt_def]
    refine CO.intro (letter_ans _ _) ?_
    have hd : digitB (byteAt s i) = !(decide (byteAt s i < 48) || decide (57 < byteAt s i)) := by
      unfold digitB
      rw [Bool.eq_iff_iff]; simp
    rw [hd] at hJ
    cases h3 : letterB (byteAt s i) with
    | true =>
      rw [h3] at hJ
      simp -implicitDefEqProofs only [go_sem, List.reduceReplicate, Nat.reduceAdd, Nat.reduceSub, Nat.reduceLT, Nat.reduceLeDiff, Nat.reduceMul, Nat.reduceEqDiff, reduceCtorEq, Int.reduceLE, Int.reduceLT, Int.reduceEq, Int.reduceNe, Int.reduceBEq, Int.reduceBNe, Int.reduceAdd, Int.reduceSub, hin]
      exact hJ rfl
    | false =>
      rw [h3] at hJ
      simp -implicitDefEqProofs only [go_sem, List.reduceReplicate, Nat.reduceAdd, Nat.reduceSub, Nat.reduceLT, Nat.reduceLeDiff, Nat.reduceMul, Nat.reduceEqDiff, reduceCtorEq, Int.reduceLE, Int.reduceLT, Int.reduceEq, Int.reduceNe, Int.reduceBEq, Int.reduceBNe, Int.reduceAdd, Int.reduceSub, hlt, byteAt_def]
      cases h4 : decide (byteAt s i < 48) <;> rw [h4] at f1 hJ
      · cases h5 : decide (57 < byteAt s i) <;> rw [h5] at f2 hJ
        · simp -implicitDefEqProofs only [go_sem, List.reduceReplicate, Nat.reduceAdd, Nat.reduceSub, Nat.reduceLT, Nat.reduceLeDiff, Nat.reduceMul, Nat.reduceEqDiff, reduceCtorEq, Int.reduceLE, Int.reduceLT, Int.reduceEq, Int.reduceNe, Int.reduceBEq, Int.reduceBNe, Int.reduceAdd, Int.reduceSub, f1, f2, hlt, byteAt_def, hin]
          exact hJ rfl
        · simp -implicitDefEqProofs only [go_sem, List.reduceReplicate, Nat.reduceAdd, Nat.reduceSub, Nat.reduceLT, Nat.reduceLeDiff, Nat.reduceMul, Nat.reduceEqDiff, reduceCtorEq, Int.reduceLE, Int.reduceLT, Int.reduceEq, Int.reduceNe, Int.reduceBEq, Int.reduceBNe, Int.reduceAdd, Int.reduceSub, f1, f2, hlt, byteAt_def]
          refine Fini.ret' rfl (bo_congr ?_)
          rw [nameB, List.all_eq_false.2 ⟨i, List.mem_range.2 hi, by simp [h3, hd, h4, h5]⟩, Bool.and_false]
      · simp -implicitDefEqProofs only [go_sem, List.reduceReplicate, Nat.reduceAdd, Nat.reduceSub, Nat.reduceLT, Nat.reduceLeDiff, Nat.reduceMul, Nat.reduceEqDiff, reduceCtorEq, Int.reduceLE, Int.reduceLT, Int.reduceEq, Int.reduceNe, Int.reduceBEq, Int.reduceBNe, Int.reduceAdd, Int.reduceSub, f1, hlt, byteAt_def]
        refine Fini.ret' rfl (bo_congr ?_)
        rw [nameB, List.all_eq_false.2 ⟨i, List.mem_range.2 hi, by simp [h3, hd, h4]⟩, Bool.and_false]
  · intro hp J
    have hlt : ((s.size : Int) < s.size) = False := by simp
    simp -implicitDefEqProofs only [mkE, List.foldl_cons, List.foldl_nil, go_sem, List.reduceReplicate, Nat.reduceAdd, Nat.reduceSub, Nat.reduceLT, Nat.reduceLeDiff, Nat.reduceMul, Nat.reduceEqDiff, reduceCtorEq, Int.reduceLE, Int.reduceLT, Int.reduceEq, Int.reduceNe, Int.reduceBEq, Int.reduceBNe, Int.reduceAdd, Int.reduceSub, hlt]
    refine Fini.ret' rfl (bo_congr ?_)
    rw [nameB, n1, n2, hl, List.all_eq_true.2 fun i hi => hp i (List.mem_range.1 hi)]; rfl
  · rfl
end Go.Proofs.Ytoadgajhkhejiaa
namespace Go.Proofs.Ytoadgajhkhejiaa
open Go Go.Ab
set_option maxRecDepth 100000
def likeB (k : Int) : Bool := k == 3 || k == 4
def progO (v : ByteArray) : Option (List Stp) := if (pparse v).2 then (pparse v).1.made else none
def isB (k : Int) (nm v : ByteArray) : Bool := nameB nm && (if likeB k then (pparse v).2 else (k == 1 || k == 2) && decide (v.size ≤ 24))
def largeB (k : Int) (nm v : ByteArray) : Bool := likeB k && isB k nm v && (progO v).isNone
def holdsB (k : Int) (nm v w : ByteArray) : Bool := isB k nm v && (if k == 1 then w.toList == v.toList else if k == 2 then !(w.toList == v.toList) else
  match progO v with
  | some l => pmatch l w == (k == 3)
  | none => false)
theorem like_any (σ : St) (k : Int) (nm v : ByteArray) : Ans Try.prog 52 [mat k nm v] σ (Bo (likeB k)) σ := by
  refine Ans.of_run t52 ?_
  simp -implicitDefEqProofs only [c52, r52, go_sem, List.reduceReplicate, Nat.reduceAdd, Nat.reduceSub, Nat.reduceLT, Nat.reduceLeDiff, Nat.reduceMul, Nat.reduceEqDiff, reduceCtorEq, Int.reduceLE, Int.reduceLT, Int.reduceEq, Int.reduceNe, Int.reduceBEq, Int.reduceBNe, Int.reduceAdd, Int.reduceSub]
  unfold likeB
  cases h : k == 3
  · simp -implicitDefEqProofs only [go_sem, List.reduceReplicate, Nat.reduceAdd, Nat.reduceSub, Nat.reduceLT, Nat.reduceLeDiff, Nat.reduceMul, Nat.reduceEqDiff, reduceCtorEq, Int.reduceLE, Int.reduceLT, Int.reduceEq, Int.reduceNe, Int.reduceBEq, Int.reduceBNe, Int.reduceAdd, Int.reduceSub]
    exact Fini.ret rfl
  · simp -implicitDefEqProofs only [go_sem, List.reduceReplicate, Nat.reduceAdd, Nat.reduceSub, Nat.reduceLT, Nat.reduceLeDiff, Nat.reduceMul, Nat.reduceEqDiff, reduceCtorEq, Int.reduceLE, Int.reduceLT, Int.reduceEq, Int.reduceNe, Int.reduceBEq, Int.reduceBNe, Int.reduceAdd, Int.reduceSub]
    exact Fini.ret rfl
theorem is_any (σ : St) (k : Int) (nm v : ByteArray) : Ans Try.prog 16 [mat k nm v] σ (Bo (isB k nm v)) σ := by
  refine Ans.of_run t16 ?_
  unfold isB
  simp -implicitDefEqProofs only [c16, r16, go_sem, List.reduceReplicate, Nat.reduceAdd, Nat.reduceSub, Nat.reduceLT, Nat.reduceLeDiff, Nat.reduceMul, Nat.reduceEqDiff, reduceCtorEq, Int.reduceLE, Int.reduceLT, Int.reduceEq, Int.reduceNe, Int.reduceBEq, Int.reduceBNe, Int.reduceAdd, Int.reduceSub]
  refine CO.intro (name_ans' σ nm) ?_
  cases hn : nameB nm with
  | false =>
    simp -implicitDefEqProofs only [go_sem, List.reduceReplicate, Nat.reduceAdd, Nat.reduceSub, Nat.reduceLT, Nat.reduceLeDiff, Nat.reduceMul, Nat.reduceEqDiff, reduceCtorEq, Int.reduceLE, Int.reduceLT, Int.reduceEq, Int.reduceNe, Int.reduceBEq, Int.reduceBNe, Int.reduceAdd, Int.reduceSub]
    exact Fini.ret rfl
  | true =>
  simp -implicitDefEqProofs only [go_sem, List.reduceReplicate, Nat.reduceAdd, Nat.reduceSub, Nat.reduceLT, Nat.reduceLeDiff, Nat.reduceMul, Nat.reduceEqDiff, reduceCtorEq, Int.reduceLE, Int.reduceLT, Int.reduceEq, Int.reduceNe, Int.reduceBEq, Int.reduceBNe, Int.reduceAdd, Int.reduceSub]
  refine CO.intro (like_any σ k nm v) ?_
  cases hk : likeB k with
  | true =>
    simp -implicitDefEqProofs only [go_sem, List.reduceReplicate, Nat.reduceAdd, Nat.reduceSub, Nat.reduceLT, Nat.reduceLeDiff, Nat.reduceMul, Nat.reduceEqDiff, reduceCtorEq, Int.reduceLE, Int.reduceLT, Int.reduceEq, Int.reduceNe, Int.reduceBEq, Int.reduceBNe, Int.reduceAdd, Int.reduceSub]
    refine CO.intro (parse_ans v σ) ?_
    have hrv := Rex.rv_eq (pparse v).1
    generalize (pparse v).1 = x at hrv ⊢
    generalize (pparse v).2 = b
    rw [hrv]
    rcases Rex.rvK_cases x.ks with e | ⟨l, e⟩ <;> rw [e]
    all_goals (simp -implicitDefEqProofs only [go_sem, List.reduceReplicate, Nat.reduceAdd, Nat.reduceSub, Nat.reduceLT, Nat.reduceLeDiff, Nat.reduceMul, Nat.reduceEqDiff, reduceCtorEq, Int.reduceLE, Int.reduceLT, Int.reduceEq, Int.reduceNe, Int.reduceBEq, Int.reduceBNe, Int.reduceAdd, Int.reduceSub]; exact Fini.ret rfl)
  | false =>
    have d : decide ((v.size : Int) ≤ 24) = decide (v.size ≤ 24) := int_le v.size 24
    simp -implicitDefEqProofs only [go_sem, List.reduceReplicate, Nat.reduceAdd, Nat.reduceSub, Nat.reduceLT, Nat.reduceLeDiff, Nat.reduceMul, Nat.reduceEqDiff, reduceCtorEq, Int.reduceLE, Int.reduceLT, Int.reduceEq, Int.reduceNe, Int.reduceBEq, Int.reduceBNe, Int.reduceAdd, Int.reduceSub]
    cases h1 : k == 1 with
    | true =>
      simp -implicitDefEqProofs only [go_sem, List.reduceReplicate, Nat.reduceAdd, Nat.reduceSub, Nat.reduceLT, Nat.reduceLeDiff, Nat.reduceMul, Nat.reduceEqDiff, reduceCtorEq, Int.reduceLE, Int.reduceLT, Int.reduceEq, Int.reduceNe, Int.reduceBEq, Int.reduceBNe, Int.reduceAdd, Int.reduceSub, d]
      exact Fini.ret rfl
    | false =>
      simp -implicitDefEqProofs only [go_sem, List.reduceReplicate, Nat.reduceAdd, Nat.reduceSub, Nat.reduceLT, Nat.reduceLeDiff, Nat.reduceMul, Nat.reduceEqDiff, reduceCtorEq, Int.reduceLE, Int.reduceLT, Int.reduceEq, Int.reduceNe, Int.reduceBEq, Int.reduceBNe, Int.reduceAdd, Int.reduceSub]
      cases h2 : k == 2 with
      | true =>
        simp -implicitDefEqProofs only [go_sem, List.reduceReplicate, Nat.reduceAdd, Nat.reduceSub, Nat.reduceLT, Nat.reduceLeDiff, Nat.reduceMul, Nat.reduceEqDiff, reduceCtorEq, Int.reduceLE, Int.reduceLT, Int.reduceEq, Int.reduceNe, Int.reduceBEq, Int.reduceBNe, Int.reduceAdd, Int.reduceSub, d]
        exact Fini.ret rfl
      | false =>
        simp -implicitDefEqProofs only [go_sem, List.reduceReplicate, Nat.reduceAdd, Nat.reduceSub, Nat.reduceLT, Nat.reduceLeDiff, Nat.reduceMul, Nat.reduceEqDiff, reduceCtorEq, Int.reduceLE, Int.reduceLT, Int.reduceEq, Int.reduceNe, Int.reduceBEq, Int.reduceBNe, Int.reduceAdd, Int.reduceSub]
        exact Fini.ret rfl
theorem program_any (σ : St) (k : Int) (nm v : ByteArray) : Ans Try.prog 49 [mat k nm v] σ (madeV (progO v)) σ := by
  refine Ans.of_run t49 ?_
  unfold progO
  simp -implicitDefEqProofs only [c49, r49, go_sem, List.reduceReplicate, Nat.reduceAdd, Nat.reduceSub, Nat.reduceLT, Nat.reduceLeDiff, Nat.reduceMul, Nat.reduceEqDiff, reduceCtorEq, Int.reduceLE, Int.reduceLT, Int.reduceEq, Int.reduceNe, Int.reduceBEq, Int.reduceBNe, Int.reduceAdd, Int.reduceSub]
  refine CO.intro (parse_ans v σ) ?_
  have hrv := Rex.rv_eq (pparse v).1
  have hno := pparse_nodes v
  generalize (pparse v).1 = x at hrv hno ⊢
  cases (pparse v).2 with
  | false =>
    rw [hrv]
    rcases Rex.rvK_cases x.ks with e | ⟨l, e⟩ <;> rw [e]
    all_goals (simp -implicitDefEqProofs only [go_sem, List.reduceReplicate, Nat.reduceAdd, Nat.reduceSub, Nat.reduceLT, Nat.reduceLeDiff, Nat.reduceMul, Nat.reduceEqDiff, reduceCtorEq, Int.reduceLE, Int.reduceLT, Int.reduceEq, Int.reduceNe, Int.reduceBEq, Int.reduceBNe, Int.reduceAdd, Int.reduceSub]; exact Fini.ret rfl)
  | true =>
    have hm : Ans Try.prog 90 [x.rv] σ (madeV x.made) σ := Ans.sub (make_ans σ x (by omega))
    rw [hrv] at hm ⊢
    rcases Rex.rvK_cases x.ks with e | ⟨l, e⟩ <;> rw [e] at hm ⊢
    all_goals
      simp -implicitDefEqProofs only [go_sem, List.reduceReplicate, Nat.reduceAdd, Nat.reduceSub, Nat.reduceLT, Nat.reduceLeDiff, Nat.reduceMul, Nat.reduceEqDiff, reduceCtorEq, Int.reduceLE, Int.reduceLT, Int.reduceEq, Int.reduceNe, Int.reduceBEq, Int.reduceBNe, Int.reduceAdd, Int.reduceSub]
      refine CO.intro hm ?_
      cases x.made with
      | none =>
        simp -implicitDefEqProofs only [go_sem, List.reduceReplicate, Nat.reduceAdd, Nat.reduceSub, Nat.reduceLT, Nat.reduceLeDiff, Nat.reduceMul, Nat.reduceEqDiff, reduceCtorEq, Int.reduceLE, Int.reduceLT, Int.reduceEq, Int.reduceNe, Int.reduceBEq, Int.reduceBNe, Int.reduceAdd, Int.reduceSub, madeV]
        exact Fini.ret rfl
      | some l =>
        simp -implicitDefEqProofs only [go_sem, List.reduceReplicate, Nat.reduceAdd, Nat.reduceSub, Nat.reduceLT, Nat.reduceLeDiff, Nat.reduceMul, Nat.reduceEqDiff, reduceCtorEq, Int.reduceLE, Int.reduceLT, Int.reduceEq, Int.reduceNe, Int.reduceBEq, Int.reduceBNe, Int.reduceAdd, Int.reduceSub, madeV]
        exact Fini.ret rfl
theorem large_any (σ : St) (k : Int) (nm v : ByteArray) : Ans Try.prog 18 [mat k nm v] σ (Bo (largeB k nm v)) σ := by
  refine Ans.of_run t18 ?_
  unfold largeB
  simp -implicitDefEqProofs only [c18, r18, go_sem, List.reduceReplicate, Nat.reduceAdd, Nat.reduceSub, Nat.reduceLT, Nat.reduceLeDiff, Nat.reduceMul, Nat.reduceEqDiff, reduceCtorEq, Int.reduceLE, Int.reduceLT, Int.reduceEq, Int.reduceNe, Int.reduceBEq, Int.reduceBNe, Int.reduceAdd, Int.reduceSub]
  refine CO.intro (like_any σ k nm v) ?_
  cases hk : likeB k with
  | false =>
    simp -implicitDefEqProofs only [go_sem, List.reduceReplicate, Nat.reduceAdd, Nat.reduceSub, Nat.reduceLT, Nat.reduceLeDiff, Nat.reduceMul, Nat.reduceEqDiff, reduceCtorEq, Int.reduceLE, Int.reduceLT, Int.reduceEq, Int.reduceNe, Int.reduceBEq, Int.reduceBNe, Int.reduceAdd, Int.reduceSub]
    exact Fini.ret rfl
  | true =>
  simp -implicitDefEqProofs only [go_sem, List.reduceReplicate, Nat.reduceAdd, Nat.reduceSub, Nat.reduceLT, Nat.reduceLeDiff, Nat.reduceMul, Nat.reduceEqDiff, reduceCtorEq, Int.reduceLE, Int.reduceLT, Int.reduceEq, Int.reduceNe, Int.reduceBEq, Int.reduceBNe, Int.reduceAdd, Int.reduceSub]
  refine CO.intro (is_any σ k nm v) ?_
  cases hi : isB k nm v with
  | false =>
    simp -implicitDefEqProofs only [go_sem, List.reduceReplicate, Nat.reduceAdd, Nat.reduceSub, Nat.reduceLT, Nat.reduceLeDiff, Nat.reduceMul, Nat.reduceEqDiff, reduceCtorEq, Int.reduceLE, Int.reduceLT, Int.reduceEq, Int.reduceNe, Int.reduceBEq, Int.reduceBNe, Int.reduceAdd, Int.reduceSub]
    exact Fini.ret rfl
  | true =>
  simp -implicitDefEqProofs only [go_sem, List.reduceReplicate, Nat.reduceAdd, Nat.reduceSub, Nat.reduceLT, Nat.reduceLeDiff, Nat.reduceMul, Nat.reduceEqDiff, reduceCtorEq, Int.reduceLE, Int.reduceLT, Int.reduceEq, Int.reduceNe, Int.reduceBEq, Int.reduceBNe, Int.reduceAdd, Int.reduceSub]
  refine CO.intro (program_any σ k nm v) ?_
  cases progO v with
  | none =>
    simp -implicitDefEqProofs only [go_sem, List.reduceReplicate, Nat.reduceAdd, Nat.reduceSub, Nat.reduceLT, Nat.reduceLeDiff, Nat.reduceMul, Nat.reduceEqDiff, reduceCtorEq, Int.reduceLE, Int.reduceLT, Int.reduceEq, Int.reduceNe, Int.reduceBEq, Int.reduceBNe, Int.reduceAdd, Int.reduceSub, madeV]
    exact Fini.ret rfl
  | some l =>
    simp -implicitDefEqProofs only [go_sem, List.reduceReplicate, Nat.reduceAdd, Nat.reduceSub, Nat.reduceLT, Nat.reduceLeDiff, Nat.reduceMul, Nat.reduceEqDiff, reduceCtorEq, Int.reduceLE, Int.reduceLT, Int.reduceEq, Int.reduceNe, Int.reduceBEq, Int.reduceBNe, Int.reduceAdd, Int.reduceSub, madeV]
    exact Fini.ret rfl
theorem holds_any (σ : St) (k : Int) (nm v : ByteArray) (x : AV) (w : ByteArray) (hg : ∀ σ, Ans Try.prog 48 [x, Sx nm] σ (Sx w) σ) (hw : w.size ≤ 100000) : Ans Try.prog 15 [mat k nm v, x] σ (Bo (holdsB k nm v w)) σ := by
  refine Ans.of_run t15 ?_
  unfold holdsB
  simp -implicitDefEqProofs only [c15, r15, go_sem, List.reduceReplicate, Nat.reduceAdd, Nat.reduceSub, Nat.reduceLT, Nat.reduceLeDiff, Nat.reduceMul, Nat.reduceEqDiff, reduceCtorEq, Int.reduceLE, Int.reduceLT, Int.reduceEq, Int.reduceNe, Int.reduceBEq, Int.reduceBNe, Int.reduceAdd, Int.reduceSub]
  refine CO.intro (is_any σ k nm v) ?_
  cases hi : isB k nm v with
  | false =>
    simp -implicitDefEqProofs only [go_sem, List.reduceReplicate, Nat.reduceAdd, Nat.reduceSub, Nat.reduceLT, Nat.reduceLeDiff, Nat.reduceMul, Nat.reduceEqDiff, reduceCtorEq, Int.reduceLE, Int.reduceLT, Int.reduceEq, Int.reduceNe, Int.reduceBEq, Int.reduceBNe, Int.reduceAdd, Int.reduceSub]
    exact Fini.ret rfl
  | true =>
  simp -implicitDefEqProofs only [go_sem, List.reduceReplicate, Nat.reduceAdd, Nat.reduceSub, Nat.reduceLT, Nat.reduceLeDiff, Nat.reduceMul, Nat.reduceEqDiff, reduceCtorEq, Int.reduceLE, Int.reduceLT, Int.reduceEq, Int.reduceNe, Int.reduceBEq, Int.reduceBNe, Int.reduceAdd, Int.reduceSub]
  refine CO.intro (hg σ) ?_
  simp -implicitDefEqProofs only [go_sem, List.reduceReplicate, Nat.reduceAdd, Nat.reduceSub, Nat.reduceLT, Nat.reduceLeDiff, Nat.reduceMul, Nat.reduceEqDiff, reduceCtorEq, Int.reduceLE, Int.reduceLT, Int.reduceEq, Int.reduceNe, Int.reduceBEq, Int.reduceBNe, Int.reduceAdd, Int.reduceSub]
  cases h1 : k == 1 with
  | true =>
    simp -implicitDefEqProofs only [go_sem, List.reduceReplicate, Nat.reduceAdd, Nat.reduceSub, Nat.reduceLT, Nat.reduceLeDiff, Nat.reduceMul, Nat.reduceEqDiff, reduceCtorEq, Int.reduceLE, Int.reduceLT, Int.reduceEq, Int.reduceNe, Int.reduceBEq, Int.reduceBNe, Int.reduceAdd, Int.reduceSub]
    exact Fini.ret rfl
  | false =>
  simp -implicitDefEqProofs only [go_sem, List.reduceReplicate, Nat.reduceAdd, Nat.reduceSub, Nat.reduceLT, Nat.reduceLeDiff, Nat.reduceMul, Nat.reduceEqDiff, reduceCtorEq, Int.reduceLE, Int.reduceLT, Int.reduceEq, Int.reduceNe, Int.reduceBEq, Int.reduceBNe, Int.reduceAdd, Int.reduceSub]
  cases h2 : k == 2 with
  | true =>
    simp -implicitDefEqProofs only [go_sem, List.reduceReplicate, Nat.reduceAdd, Nat.reduceSub, Nat.reduceLT, Nat.reduceLeDiff, Nat.reduceMul, Nat.reduceEqDiff, reduceCtorEq, Int.reduceLE, Int.reduceLT, Int.reduceEq, Int.reduceNe, Int.reduceBEq, Int.reduceBNe, Int.reduceAdd, Int.reduceSub]
    exact Fini.ret rfl
  | false =>
  simp -implicitDefEqProofs only [go_sem, List.reduceReplicate, Nat.reduceAdd, Nat.reduceSub, Nat.reduceLT, Nat.reduceLeDiff, Nat.reduceMul, Nat.reduceEqDiff, reduceCtorEq, Int.reduceLE, Int.reduceLT, Int.reduceEq, Int.reduceNe, Int.reduceBEq, Int.reduceBNe, Int.reduceAdd, Int.reduceSub]
  refine CO.intro (program_any σ k nm v) ?_
  cases progO v with
  | none =>
    simp -implicitDefEqProofs only [go_sem, List.reduceReplicate, Nat.reduceAdd, Nat.reduceSub, Nat.reduceLT, Nat.reduceLeDiff, Nat.reduceMul, Nat.reduceEqDiff, reduceCtorEq, Int.reduceLE, Int.reduceLT, Int.reduceEq, Int.reduceNe, Int.reduceBEq, Int.reduceBNe, Int.reduceAdd, Int.reduceSub, madeV]
    exact Fini.ret rfl
  | some l =>
    simp -implicitDefEqProofs only [go_sem, List.reduceReplicate, Nat.reduceAdd, Nat.reduceSub, Nat.reduceLT, Nat.reduceLeDiff, Nat.reduceMul, Nat.reduceEqDiff, reduceCtorEq, Int.reduceLE, Int.reduceLT, Int.reduceEq, Int.reduceNe, Int.reduceBEq, Int.reduceBNe, Int.reduceAdd, Int.reduceSub, madeV]
    refine CD.intro (match_ans l _ (.inr rfl) w hw σ) ?_
    simp -implicitDefEqProofs only [go_sem, List.reduceReplicate, Nat.reduceAdd, Nat.reduceSub, Nat.reduceLT, Nat.reduceLeDiff, Nat.reduceMul, Nat.reduceEqDiff, reduceCtorEq, Int.reduceLE, Int.reduceLT, Int.reduceEq, Int.reduceNe, Int.reduceBEq, Int.reduceBNe, Int.reduceAdd, Int.reduceSub]
    exact Fini.ret rfl
end Go.Proofs.Ytoadgajhkhejiaa
namespace Go.Proofs.Ytoadgajhkhejiaa
open Go Go.Ab
set_option maxRecDepth 100000
abbrev Mtr := Int × ByteArray × ByteArray
def mv3 (x : Mtr) : AV := mat x.1 x.2.1 x.2.2
def mvs3 (L : List Mtr) : List AV := L.map mv3
end Go.Proofs.Ytoadgajhkhejiaa
namespace Go.Proofs.Ytoadgajhkhejiaa
open Go Go.Ab
def cmpL : List UInt8 → List UInt8 → Int
  | [], [] => 0
  | [], _ :: _ => -1
  | _ :: _, [] => 1
  | a :: x, b :: y => if a != b then (if a < b then -1 else 1) else cmpL x y
def cmpI2 (x y : List UInt8) : Int := match (List.range (min x.length y.length)).find? fun i => x.getD i 0 != y.getD i 0 with
  | some i => if x.getD i 0 < y.getD i 0 then -1 else 1
  | none => if x.length < y.length then -1 else if x.length > y.length then 1 else 0
theorem cmpI2_eq : ∀ x y : List UInt8, cmpI2 x y = cmpL x y
  | [], [] => rfl
  | [], b :: y => by simp [cmpI2, cmpL]
  | a :: x, [] => by simp [cmpI2, cmpL]
  | a :: x, b :: y => by
    rw [cmpL, ← cmpI2_eq x y]
    unfold cmpI2
    rw [List.length_cons, List.length_cons, Nat.succ_min_succ, List.range_succ_eq_map, List.find?_cons]
    simp only [List.getD_cons_zero]
    cases h : (a != b) with
    | true => simp
    | false =>
      simp only [Bool.false_eq_true, if_false]
      rw [List.find?_map]
      simp only [Function.comp_def, List.getD_cons_succ]
      cases (List.range (min x.length y.length)).find? fun i => x.getD i 0 != y.getD i 0 with
      | none => simp
      | some i => simp
theorem cmpL_less : ∀ x y : List UInt8, cmpL x y = if x == y then 0 else if Op.bytesLess x y then -1 else 1
  | [], [] => rfl
  | [], b :: y => by simp [cmpL, Op.bytesLess]
  | a :: x, [] => by simp [cmpL, Op.bytesLess]
  | a :: x, b :: y => by
    rw [cmpL, cmpL_less x y, Op.bytesLess]
    by_cases h : a = b
    · subst h
      have : ¬ a < a := by simp
      simp [this]
    · by_cases hl : a < b
      · simp [h, hl]
      · simp [h, hl]
theorem cmp_data (a b : ByteArray) : Extern.BytealgCompare.cmp a b = cmpL a.data.toList b.data.toList := by
  rw [← cmpI2_eq]
  unfold Extern.BytealgCompare.cmp cmpI2
  have hg : ∀ (a : ByteArray) (i : Nat), a[i]! = a.data.toList.getD i 0 := fun a i => by
    rw [List.getD_eq_getElem?_getD, Array.getElem?_toList, getElem!_def]
    by_cases h : i < a.size
    · have h1 : a[i]? = some a[i] := by rw [getElem?_pos]
      have h2 : a.data[i]? = some a[i] := Array.getElem?_eq_getElem h
      rw [h1, h2]; rfl
    · have h1 : a[i]? = none := by rw [getElem?_neg]; exact h
      have h2 : a.data[i]? = none := Array.getElem?_eq_none (by simpa using h)
      rw [h1, h2]; rfl
  simp only [hg]
  rfl
end Go.Proofs.Ytoadgajhkhejiaa
namespace Go.Proofs.Ytoadgajhkhejiaa
open Go Go.Ab
set_option maxRecDepth 100000
def cmpS (a b : ByteArray) : Int := Extern.BytealgCompare.cmp a b
def cmpI (a b : Int) : Int := if a < b then -1 else if b < a then 1 else 0
def or3 (a b c : Int) : Int := if a != 0 then a else if b != 0 then b else c
def cmp3 (x y : Mtr) : Int := or3 (cmpS x.2.1 y.2.1) (cmpI x.1 y.1) (cmpS x.2.2 y.2.2)
section
variable (σ : St)
theorem strcmp_ans (a b : ByteArray) : Ans Try.prog 102 [Sx a, Sx b] σ (I (cmpS a b)) σ := by
  have h139 : Ans Try.prog 139 [Sx a, Sx b] σ (I (cmpS a b)) σ := cmp_ok _ _ _ _ rfl
  have h123 : Ans Try.prog 123 [Sx a, Sx b] σ (I (cmpS a b)) σ := by
    refine Ans.of_run t123 ?_
    simp -implicitDefEqProofs only [c123, r123, go_sem, List.reduceReplicate, Nat.reduceAdd, Nat.reduceSub, Nat.reduceLT, Nat.reduceLeDiff, Nat.reduceMul, Nat.reduceEqDiff, reduceCtorEq, Int.reduceLE, Int.reduceLT, Int.reduceEq, Int.reduceNe, Int.reduceBEq, Int.reduceBNe, Int.reduceAdd, Int.reduceSub]
    refine CO.intro h139 ?_
    simp -implicitDefEqProofs only [go_sem, List.reduceReplicate, Nat.reduceAdd, Nat.reduceSub, Nat.reduceLT, Nat.reduceLeDiff, Nat.reduceMul, Nat.reduceEqDiff, reduceCtorEq, Int.reduceLE, Int.reduceLT, Int.reduceEq, Int.reduceNe, Int.reduceBEq, Int.reduceBNe, Int.reduceAdd, Int.reduceSub]
    exact Fini.ret rfl
  refine Ans.of_run t102 ?_
  simp -implicitDefEqProofs only [c102, r102, go_sem, List.reduceReplicate, Nat.reduceAdd, Nat.reduceSub, Nat.reduceLT, Nat.reduceLeDiff, Nat.reduceMul, Nat.reduceEqDiff, reduceCtorEq, Int.reduceLE, Int.reduceLT, Int.reduceEq, Int.reduceNe, Int.reduceBEq, Int.reduceBNe, Int.reduceAdd, Int.reduceSub]
  refine CO.intro h123 ?_
  simp -implicitDefEqProofs only [go_sem, List.reduceReplicate, Nat.reduceAdd, Nat.reduceSub, Nat.reduceLT, Nat.reduceLeDiff, Nat.reduceMul, Nat.reduceEqDiff, reduceCtorEq, Int.reduceLE, Int.reduceLT, Int.reduceEq, Int.reduceNe, Int.reduceBEq, Int.reduceBNe, Int.reduceAdd, Int.reduceSub]
  exact Fini.ret rfl
theorem nan_ans (a : Int) : Ans Try.prog 124 [I a] σ (Bo false) σ := by
  have h : (a != a) = false := by simp
  refine Ans.of_run t124 ?_
  simp -implicitDefEqProofs only [c124, r124, go_sem, List.reduceReplicate, Nat.reduceAdd, Nat.reduceSub, Nat.reduceLT, Nat.reduceLeDiff, Nat.reduceMul, Nat.reduceEqDiff, reduceCtorEq, Int.reduceLE, Int.reduceLT, Int.reduceEq, Int.reduceNe, Int.reduceBEq, Int.reduceBNe, Int.reduceAdd, Int.reduceSub, h]
  exact Fini.ret rfl
theorem intcmp_ans (a b : Int) : Ans Try.prog 103 [I a, I b] σ (I (cmpI a b)) σ := by
  unfold cmpI
  refine Ans.of_run t103 ?_
  simp -implicitDefEqProofs only [c103, r103, go_sem, List.reduceReplicate, Nat.reduceAdd, Nat.reduceSub, Nat.reduceLT, Nat.reduceLeDiff, Nat.reduceMul, Nat.reduceEqDiff, reduceCtorEq, Int.reduceLE, Int.reduceLT, Int.reduceEq, Int.reduceNe, Int.reduceBEq, Int.reduceBNe, Int.reduceAdd, Int.reduceSub]
  refine CO.intro (nan_ans σ a) ?_
  simp -implicitDefEqProofs only [go_sem, List.reduceReplicate, Nat.reduceAdd, Nat.reduceSub, Nat.reduceLT, Nat.reduceLeDiff, Nat.reduceMul, Nat.reduceEqDiff, reduceCtorEq, Int.reduceLE, Int.reduceLT, Int.reduceEq, Int.reduceNe, Int.reduceBEq, Int.reduceBNe, Int.reduceAdd, Int.reduceSub]
  refine CO.intro (nan_ans σ b) ?_
  simp -implicitDefEqProofs only [go_sem, List.reduceReplicate, Nat.reduceAdd, Nat.reduceSub, Nat.reduceLT, Nat.reduceLeDiff, Nat.reduceMul, Nat.reduceEqDiff, reduceCtorEq, Int.reduceLE, Int.reduceLT, Int.reduceEq, Int.reduceNe, Int.reduceBEq, Int.reduceBNe, Int.reduceAdd, Int.reduceSub]
  by_cases h1 : a < b
  · have h1' : decide (a < b) = true := by simpa using h1
    simp -implicitDefEqProofs only [go_sem, List.reduceReplicate, Nat.reduceAdd, Nat.reduceSub, Nat.reduceLT, Nat.reduceLeDiff, Nat.reduceMul, Nat.reduceEqDiff, reduceCtorEq, Int.reduceLE, Int.reduceLT, Int.reduceEq, Int.reduceNe, Int.reduceBEq, Int.reduceBNe, Int.reduceAdd, Int.reduceSub, h1']
    rw [if_pos h1]
    exact Fini.ret rfl
  · have h1' : decide (a < b) = false := by simpa using h1
    simp -implicitDefEqProofs only [go_sem, List.reduceReplicate, Nat.reduceAdd, Nat.reduceSub, Nat.reduceLT, Nat.reduceLeDiff, Nat.reduceMul, Nat.reduceEqDiff, reduceCtorEq, Int.reduceLE, Int.reduceLT, Int.reduceEq, Int.reduceNe, Int.reduceBEq, Int.reduceBNe, Int.reduceAdd, Int.reduceSub, h1']
    rw [if_neg h1]
    by_cases h2 : b < a
    · have h2' : decide (b < a) = true := by simpa using h2
      simp -implicitDefEqProofs only [go_sem, List.reduceReplicate, Nat.reduceAdd, Nat.reduceSub, Nat.reduceLT, Nat.reduceLeDiff, Nat.reduceMul, Nat.reduceEqDiff, reduceCtorEq, Int.reduceLE, Int.reduceLT, Int.reduceEq, Int.reduceNe, Int.reduceBEq, Int.reduceBNe, Int.reduceAdd, Int.reduceSub, h2']
      rw [if_pos h2]
      exact Fini.ret rfl
    · have h2' : decide (b < a) = false := by simpa using h2
      simp -implicitDefEqProofs only [go_sem, List.reduceReplicate, Nat.reduceAdd, Nat.reduceSub, Nat.reduceLT, Nat.reduceLeDiff, Nat.reduceMul, Nat.reduceEqDiff, reduceCtorEq, Int.reduceLE, Int.reduceLT, Int.reduceEq, Int.reduceNe, Int.reduceBEq, Int.reduceBNe, Int.reduceAdd, Int.reduceSub, h2']
      rw [if_neg h2]
      exact Fini.ret rfl
def orF (a b c : Int) : Nat → Int
  | 0 => or3 a b c
  | 1 => if b != 0 then b else c
  | 2 => c
  | _ => 0
theorem or_ans (a b c : Int) : Ans Try.prog 101 [.sl 1 [I a, I b, I c]] σ (I (or3 a b c)) σ := by
  refine Ans.of_run t101 ?_
  simp -implicitDefEqProofs only [c101, r101, go_sem, List.reduceReplicate, Nat.reduceAdd, Nat.reduceSub, Nat.reduceLT, Nat.reduceLeDiff, Nat.reduceMul, Nat.reduceEqDiff, reduceCtorEq, Int.reduceLE, Int.reduceLT, Int.reduceEq, Int.reduceNe, Int.reduceBEq, Int.reduceBNe, Int.reduceAdd, Int.reduceSub]
  generalize hres : or3 a b c = res
  refine Go.Ab.L.intro (α := { i : Nat // i ≤ 3 ∧ orF a b c i = res }) (fun x => 3 - x.1)
    (fun x => mkE 18 [(3, I 0), (6, .sl 1 [I a, I b, I c]), (7, I ((3 : Nat) : Int)), (8, I x.1)]) (fun _ => σ) (fun x J hJ => ?_) ⟨0, Nat.zero_le _, hres⟩ rfl rfl
  obtain ⟨i, hi, hg⟩ := x
  simp only at hJ ⊢
  have i4 : i = 0 ∨ i = 1 ∨ i = 2 ∨ i = 3 := by omega
  have w0 : IntKind.i64.wrap (((0 : Nat) : Int) + 1) = ((1 : Nat) : Int) := by decide
  have w1 : IntKind.i64.wrap (((1 : Nat) : Int) + 1) = ((2 : Nat) : Int) := by decide
  have w2 : IntKind.i64.wrap (((2 : Nat) : Int) + 1) = ((3 : Nat) : Int) := by decide
  rcases i4 with rfl | rfl | rfl | rfl
  · have d1 : decide (((0 : Nat) : Int) < ((3 : Nat) : Int)) = true := by decide
    have d2 : (((0 : Nat) : Int) < ((3 : Nat) : Int)) = True := by simp
    simp only [orF, or3] at hg
    simp -implicitDefEqProofs only [mkE, List.foldl_cons, List.foldl_nil, go_sem, List.reduceReplicate, Nat.reduceAdd, Nat.reduceSub, Nat.reduceLT, Nat.reduceLeDiff, Nat.reduceMul, Nat.reduceEqDiff, reduceCtorEq, Int.reduceLE, Int.reduceLT, Int.reduceEq, Int.reduceNe, Int.reduceBEq, Int.reduceBNe, Int.reduceAdd, Int.reduceSub, d1, d2]
    cases h : a != 0
    · rw [h, if_neg Bool.false_ne_true] at hg
      have hJ' := hJ ⟨1, by omega, hg⟩ (by simp only; omega)
      simp only at hJ'
      simp -implicitDefEqProofs only [go_sem, List.reduceReplicate, Nat.reduceAdd, Nat.reduceSub, Nat.reduceLT, Nat.reduceLeDiff, Nat.reduceMul, Nat.reduceEqDiff, reduceCtorEq, Int.reduceLE, Int.reduceLT, Int.reduceEq, Int.reduceNe, Int.reduceBEq, Int.reduceBNe, Int.reduceAdd, Int.reduceSub, w0]
      exact hJ'
    · rw [h, if_pos rfl] at hg
      simp -implicitDefEqProofs only [go_sem, List.reduceReplicate, Nat.reduceAdd, Nat.reduceSub, Nat.reduceLT, Nat.reduceLeDiff, Nat.reduceMul, Nat.reduceEqDiff, reduceCtorEq, Int.reduceLE, Int.reduceLT, Int.reduceEq, Int.reduceNe, Int.reduceBEq, Int.reduceBNe, Int.reduceAdd, Int.reduceSub]
      rw [← hg]
      exact Fini.ret rfl
  · have d1 : decide (((1 : Nat) : Int) < ((3 : Nat) : Int)) = true := by decide
    have d2 : (((1 : Nat) : Int) < ((3 : Nat) : Int)) = True := by simp
    simp only [orF] at hg
    simp -implicitDefEqProofs only [mkE, List.foldl_cons, List.foldl_nil, go_sem, List.reduceReplicate, Nat.reduceAdd, Nat.reduceSub, Nat.reduceLT, Nat.reduceLeDiff, Nat.reduceMul, Nat.reduceEqDiff, reduceCtorEq, Int.reduceLE, Int.reduceLT, Int.reduceEq, Int.reduceNe, Int.reduceBEq, Int.reduceBNe, Int.reduceAdd, Int.reduceSub, d1, d2]
    cases h : b != 0
    · rw [h, if_neg Bool.false_ne_true] at hg
      have hJ' := hJ ⟨2, by omega, hg⟩ (by simp only; omega)
      simp only at hJ'
      simp -implicitDefEqProofs only [go_sem, List.reduceReplicate, Nat.reduceAdd, Nat.reduceSub, Nat.reduceLT, Nat.reduceLeDiff, Nat.reduceMul, Nat.reduceEqDiff, reduceCtorEq, Int.reduceLE, Int.reduceLT, Int.reduceEq, Int.reduceNe, Int.reduceBEq, Int.reduceBNe, Int.reduceAdd, Int.reduceSub, w1]
      exact hJ'
    · rw [h, if_pos rfl] at hg
      simp -implicitDefEqProofs only [go_sem, List.reduceReplicate, Nat.reduceAdd, Nat.reduceSub, Nat.reduceLT, Nat.reduceLeDiff, Nat.reduceMul, Nat.reduceEqDiff, reduceCtorEq, Int.reduceLE, Int.reduceLT, Int.reduceEq, Int.reduceNe, Int.reduceBEq, Int.reduceBNe, Int.reduceAdd, Int.reduceSub]
      rw [← hg]
      exact Fini.ret rfl
  · have d1 : decide (((2 : Nat) : Int) < ((3 : Nat) : Int)) = true := by decide
    have d2 : (((2 : Nat) : Int) < ((3 : Nat) : Int)) = True := by simp
    simp only [orF] at hg
    simp -implicitDefEqProofs only [mkE, List.foldl_cons, List.foldl_nil, go_sem, List.reduceReplicate, Nat.reduceAdd, Nat.reduceSub, Nat.reduceLT, Nat.reduceLeDiff, Nat.reduceMul, Nat.reduceEqDiff, reduceCtorEq, Int.reduceLE, Int.reduceLT, Int.reduceEq, Int.reduceNe, Int.reduceBEq, Int.reduceBNe, Int.reduceAdd, Int.reduceSub, d1, d2]
    cases h : c != 0
    · have hc : c = 0 := by simpa using h
      have hJ' := hJ ⟨3, by omega, by rw [← hg, hc]; rfl⟩ (by simp only; omega)
      simp only at hJ'
      simp -implicitDefEqProofs only [go_sem, List.reduceReplicate, Nat.reduceAdd, Nat.reduceSub, Nat.reduceLT, Nat.reduceLeDiff, Nat.reduceMul, Nat.reduceEqDiff, reduceCtorEq, Int.reduceLE, Int.reduceLT, Int.reduceEq, Int.reduceNe, Int.reduceBEq, Int.reduceBNe, Int.reduceAdd, Int.reduceSub, w2]
      exact hJ'
    · simp -implicitDefEqProofs only [go_sem, List.reduceReplicate, Nat.reduceAdd, Nat.reduceSub, Nat.reduceLT, Nat.reduceLeDiff, Nat.reduceMul, Nat.reduceEqDiff, reduceCtorEq, Int.reduceLE, Int.reduceLT, Int.reduceEq, Int.reduceNe, Int.reduceBEq, Int.reduceBNe, Int.reduceAdd, Int.reduceSub]
      rw [← hg]
      exact Fini.ret rfl
  · have d1 : decide (((3 : Nat) : Int) < ((3 : Nat) : Int)) = false := by decide
    have d2 : (((3 : Nat) : Int) < ((3 : Nat) : Int)) = False := by simp
    simp only [orF] at hg
    simp -implicitDefEqProofs only [mkE, List.foldl_cons, List.foldl_nil, go_sem, List.reduceReplicate, Nat.reduceAdd, Nat.reduceSub, Nat.reduceLT, Nat.reduceLeDiff, Nat.reduceMul, Nat.reduceEqDiff, reduceCtorEq, Int.reduceLE, Int.reduceLT, Int.reduceEq, Int.reduceNe, Int.reduceBEq, Int.reduceBNe, Int.reduceAdd, Int.reduceSub, d1, d2]
    rw [← hg]
    exact Fini.ret rfl
theorem compare_ans (x y : Mtr) : Ans Try.prog 66 [mv3 x, mv3 y] σ (I (cmp3 x y)) σ := by
  have h1 := fun s => strcmp_ans s x.2.1 y.2.1
  have h2 := fun s => intcmp_ans s x.1 y.1
  have h3 := fun s => strcmp_ans s x.2.2 y.2.2
  have h4 := fun s => or_ans s (cmpS x.2.1 y.2.1) (cmpI x.1 y.1) (cmpS x.2.2 y.2.2)
  unfold cmp3
  refine Ans.of_run t66 ?_
  simp -implicitDefEqProofs only [c66, r66, go_sem, List.reduceReplicate, Nat.reduceAdd, Nat.reduceSub, Nat.reduceLT, Nat.reduceLeDiff, Nat.reduceMul, Nat.reduceEqDiff, reduceCtorEq, Int.reduceLE, Int.reduceLT, Int.reduceEq, Int.reduceNe, Int.reduceBEq, Int.reduceBNe, Int.reduceAdd, Int.reduceSub, D_callS, mv3]
  first | refine CD.intro (h1 _) ?_ | refine CS.intro h1 ?_
  simp -implicitDefEqProofs only [go_sem, List.reduceReplicate, Nat.reduceAdd, Nat.reduceSub, Nat.reduceLT, Nat.reduceLeDiff, Nat.reduceMul, Nat.reduceEqDiff, reduceCtorEq, Int.reduceLE, Int.reduceLT, Int.reduceEq, Int.reduceNe, Int.reduceBEq, Int.reduceBNe, Int.reduceAdd, Int.reduceSub, D_callS]
  first | refine CD.intro (h2 _) ?_ | refine CS.intro h2 ?_
  simp -implicitDefEqProofs only [go_sem, List.reduceReplicate, Nat.reduceAdd, Nat.reduceSub, Nat.reduceLT, Nat.reduceLeDiff, Nat.reduceMul, Nat.reduceEqDiff, reduceCtorEq, Int.reduceLE, Int.reduceLT, Int.reduceEq, Int.reduceNe, Int.reduceBEq, Int.reduceBNe, Int.reduceAdd, Int.reduceSub, D_callS]
  first | refine CD.intro (h3 _) ?_ | refine CS.intro h3 ?_
  simp -implicitDefEqProofs only [go_sem, List.reduceReplicate, Nat.reduceAdd, Nat.reduceSub, Nat.reduceLT, Nat.reduceLeDiff, Nat.reduceMul, Nat.reduceEqDiff, reduceCtorEq, Int.reduceLE, Int.reduceLT, Int.reduceEq, Int.reduceNe, Int.reduceBEq, Int.reduceBNe, Int.reduceAdd, Int.reduceSub, D_callS]
  first | refine CD.intro (h4 _) ?_ | refine CS.intro h4 ?_
  simp -implicitDefEqProofs only [go_sem, List.reduceReplicate, Nat.reduceAdd, Nat.reduceSub, Nat.reduceLT, Nat.reduceLeDiff, Nat.reduceMul, Nat.reduceEqDiff, reduceCtorEq, Int.reduceLE, Int.reduceLT, Int.reduceEq, Int.reduceNe, Int.reduceBEq, Int.reduceBNe, Int.reduceAdd, Int.reduceSub]
  exact Fini.ret rfl
end
theorem cmpS_eq (a b : ByteArray) : cmpS a b = (if a.toList == b.toList then 0 else if Op.bytesLess a.toList b.toList then -1 else 1) := by
  rw [cmpS, cmp_data, cmpL_less, ByteArray.toList_eq, ByteArray.toList_eq]
def aheadD (x y : Mtr) : Bool :=
  if !(x.2.1.toList == y.2.1.toList) then Op.bytesLess x.2.1.toList y.2.1.toList
  else if !(x.1 == y.1) then decide (x.1 < y.1)
  else Op.bytesLess x.2.2.toList y.2.2.toList
theorem less_irrefl : ∀ x : List UInt8, Op.bytesLess x x = false
  | [] => rfl
  | a :: x => by rw [Op.bytesLess, less_irrefl x]; simp
theorem cmp3_aheadD (x y : Mtr) : decide (0 ≤ cmp3 x y) = !aheadD x y := by
  unfold cmp3 or3 aheadD
  rw [cmpS_eq, cmpS_eq]
  cases h1 : (x.2.1.toList == y.2.1.toList) with
  | false =>
    cases h2 : Op.bytesLess x.2.1.toList y.2.1.toList <;> simp
  | true =>
    simp only [Bool.not_true, Bool.false_eq_true, if_false, if_true]
    unfold cmpI
    by_cases h3 : x.1 < y.1
    · have : (x.1 == y.1) = false := by simp; omega
      simp [h3, this]
    · by_cases h4 : y.1 < x.1
      · have : (x.1 == y.1) = false := by simp; omega
        simp [h3, h4, this]
      · have h5 : (x.1 == y.1) = true := by simp; omega
        simp only [h3, h4, h5, if_false, Bool.not_true, Bool.false_eq_true]
        cases h6 : (x.2.2.toList == y.2.2.toList) with
        | true =>
          have : x.2.2.toList = y.2.2.toList := by simpa using h6
          rw [this, less_irrefl]; rfl
        | false => cases h7 : Op.bytesLess x.2.2.toList y.2.2.toList <;> simp
end Go.Proofs.Ytoadgajhkhejiaa
namespace Go.Proofs.Ytoadgajhkhejiaa
open Go Go.Ab
set_option maxRecDepth 100000
def epsTo (ys : List Stp) (p q : Nat) : Prop := ∃ s, ys[p]? = some s ∧ ((s.op = 2 ∧ (q = s.x.toNat ∨ q = s.y.toNat)) ∨ (s.op = 3 ∧ q = s.x.toNat))
inductive Eps (ys : List Stp) : Nat → Nat → Prop where
  | refl (p : Nat) : Eps ys p p
  | step {p q r : Nat} : epsTo ys p q → Eps ys q r → Eps ys p r
theorem stpAt_of {ys : List Stp} {p : Nat} {s : Stp} (h : ys[p]? = some s) : stpAt ys p = s := by
  rw [stpAt, List.getD_eq_getElem?_getD, h]; rfl
end Go.Proofs.Ytoadgajhkhejiaa
namespace Go.Proofs.Ytoadgajhkhejiaa
open Go Go.Ab
set_option maxRecDepth 100000
theorem Eps.snoc {ys : List Stp} {p q r : Nat} (h : Eps ys p q) (h' : epsTo ys q r) : Eps ys p r := by
  induction h with
  | refl p => exact .step h' (.refl _)
  | step h1 _ ih => exact .step h1 (ih h')
section
variable {ys : List Stp} (hc : pcheck ys = true)
include hc
end
inductive Reach (ys : List Stp) (s : ByteArray) : Nat → Nat → Prop where
  | zero : Reach ys s 0 0
  | eps {p q i : Nat} : Reach ys s p i → epsTo ys p q → Reach ys s q i
  | byte {p i : Nat} : Reach ys s p i → p < ys.length → i < s.size → takesS (stpAt ys p) (byteAt s i) = true → Reach ys s (p + 1) (i + 1)
theorem Reach.last {ys : List Stp} {s : ByteArray} {q i : Nat} (h : Reach ys s q i) : (i = 0 ∧ Eps ys 0 q) ∨ ∃ j p, i = j + 1 ∧ j < s.size ∧ p < ys.length ∧ Reach ys s p j ∧ takesS (stpAt ys p) (byteAt s j) = true ∧ Eps ys (p + 1) q := by
  induction h with
  | zero => exact .inl ⟨rfl, .refl _⟩
  | eps _ h1 ih =>
    rcases ih with ⟨h, h'⟩ | ⟨j, p, h⟩
    · exact .inl ⟨h, h'.snoc h1⟩
    · exact .inr ⟨j, p, h.1, h.2.1, h.2.2.1, h.2.2.2.1, h.2.2.2.2.1, h.2.2.2.2.2.snoc h1⟩
  | byte h hp hi ht _ => exact .inr ⟨_, _, rfl, hi, hp, h, ht, .refl _⟩
end Go.Proofs.Ytoadgajhkhejiaa
namespace Go.Proofs.Ytoadgajhkhejiaa
open Go Go.Ab
set_option maxRecDepth 100000
inductive Star (R : Nat → Nat → Prop) : Nat → Nat → Prop where
  | refl (i : Nat) : Star R i i
  | step {i m j : Nat} : R i m → Star R m j → Star R i j
section
variable (s : ByteArray)
mutual
def Mt : Rex → Nat → Nat → Prop
  | .mk op a b c d ks => fun i j =>
    if op == 1 then i < s.size ∧ j = i + 1 ∧ takesS ⟨1, a, b, c, d, 0, 0⟩ (byteAt s i) = true
    else if op == 2 then MtL ks i j
    else if op == 3 then MtA ks i j
    else if op == 4 then Star (MtH ks) i j
    else if op == 5 then ∃ m, MtH ks i m ∧ Star (MtH ks) m j
    else if op == 6 then i = j ∨ MtH ks i j
    else False
def MtL : List Rex → Nat → Nat → Prop
  | [] => fun i j => i = j
  | x :: xs => fun i j => ∃ m, Mt x i m ∧ MtL xs m j
def MtA : List Rex → Nat → Nat → Prop
  | [] => fun _ _ => False
  | x :: xs => fun i j => Mt x i j ∨ MtA xs i j
def MtH : List Rex → Nat → Nat → Prop
  | [] => fun _ _ => False
  | x :: _ => fun i j => Mt x i j
end
inductive Ed (ys : List Stp) : Nat × Nat → Nat × Nat → Prop where
  | eps {p q i : Nat} : epsTo ys p q → Ed ys (p, i) (q, i)
  | byte {p i : Nat} : p < ys.length → i < s.size → takesS (stpAt ys p) (byteAt s i) = true → Ed ys (p, i) (p + 1, i + 1)
def Run (ys : List Stp) (lo hi : Nat) : Nat → Nat × Nat → Nat × Nat → Prop
  | 0, c, d => c = d ∧ ¬ (lo ≤ c.1 ∧ c.1 < hi)
  | k + 1, c, d => (lo ≤ c.1 ∧ c.1 < hi) ∧ ∃ e, Ed s ys c e ∧ Run ys lo hi k e d
def Path (ys : List Stp) : Nat → Nat × Nat → Nat × Nat → Prop
  | 0, c, d => c = d
  | k + 1, c, d => ∃ e, Ed s ys c e ∧ Path ys k e d
variable {s} {ys : List Stp}
theorem Run.split {lo hi lo' hi' : Nat} (h1 : lo ≤ lo') (h2 : hi' ≤ hi) : ∀ (k : Nat) (c d : Nat × Nat), Run s ys lo hi k c d → ∃ k1 k2 m, k1 + k2 = k ∧ Run s ys lo' hi' k1 c m ∧ Run s ys lo hi k2 m d
  | 0, c, d, h => ⟨0, 0, c, rfl, ⟨rfl, fun hc => h.2 ⟨by omega, by omega⟩⟩, h⟩
  | k + 1, c, d, h => by
    by_cases hc : lo' ≤ c.1 ∧ c.1 < hi'
    · obtain ⟨_, e, he, hr⟩ := h
      obtain ⟨k1, k2, m, hk, h3, h4⟩ := Run.split h1 h2 k e d hr
      exact ⟨k1 + 1, k2, m, by omega, ⟨hc, e, he, h3⟩, h4⟩
    · exact ⟨0, k + 1, c, by omega, ⟨rfl, hc⟩, h⟩
theorem Path.run {lo hi : Nat} : ∀ (k : Nat) (c d : Nat × Nat), Path s ys k c d → ¬ (lo ≤ d.1 ∧ d.1 < hi) → ∃ k1 k2 m, Run s ys lo hi k1 c m ∧ Path s ys k2 m d
  | 0, c, d, h, hd => ⟨0, 0, c, ⟨rfl, by rw [show c = d from h]; exact hd⟩, h⟩
  | k + 1, c, d, h, hd => by
    by_cases hc : lo ≤ c.1 ∧ c.1 < hi
    · obtain ⟨e, he, hr⟩ := h
      obtain ⟨k1, k2, m, h3, h4⟩ := Path.run k e d hr hd
      exact ⟨k1 + 1, k2, m, ⟨hc, e, he, h3⟩, h4⟩
    · exact ⟨0, k + 1, c, ⟨rfl, hc⟩, h⟩
theorem Path.snoc : ∀ (k : Nat) (c d e : Nat × Nat), Path s ys k c d → Ed s ys d e → Path s ys (k + 1) c e
  | 0, c, d, e, h, he => by rw [show c = d from h]; exact ⟨e, he, rfl⟩
  | k + 1, c, d, e, h, he => by
    obtain ⟨f, hf, hr⟩ := h
    exact ⟨f, hf, Path.snoc k f d e hr he⟩
theorem Run.out {lo hi k : Nat} {c d : Nat × Nat} (h : Run s ys lo hi k c d) (hc : ¬ (lo ≤ c.1 ∧ c.1 < hi)) : k = 0 ∧ c = d := by
  cases k with
  | zero => exact ⟨rfl, h.1⟩
  | succ k => exact absurd h.1 hc
theorem Run.move {lo hi k : Nat} {c d : Nat × Nat} (h : Run s ys lo hi k c d) (hc : lo ≤ c.1 ∧ c.1 < hi) : ∃ k' e, k = k' + 1 ∧ Ed s ys c e ∧ Run s ys lo hi k' e d := by
  cases k with
  | zero => exact absurd hc h.2
  | succ k => obtain ⟨_, e, h1, h2⟩ := h; exact ⟨k, e, rfl, h1, h2⟩
theorem Ed.two {p i : Nat} {e : Nat × Nat} {st : Stp} (h : Ed s ys (p, i) e) (hs : ys[p]? = some st) (ho : st.op = 2) : e = (st.x.toNat, i) ∨ e = (st.y.toNat, i) := by
  cases h with
  | eps h =>
    obtain ⟨s', h1, h2⟩ := h
    rw [hs] at h1; cases h1
    rcases h2 with ⟨_, rfl | rfl⟩ | ⟨h3, _⟩
    · exact .inl rfl
    · exact .inr rfl
    · omega
  | byte h1 h2 h3 =>
    rw [stpAt_of hs] at h3
    simp [takesS, ho] at h3
theorem Ed.one {p i : Nat} {e : Nat × Nat} {st : Stp} (h : Ed s ys (p, i) e) (hs : ys[p]? = some st) (ho : st.op = 1) : e = (p + 1, i + 1) ∧ i < s.size ∧ takesS st (byteAt s i) = true := by
  cases h with
  | eps h =>
    obtain ⟨s', h1, h2⟩ := h
    rw [hs] at h1; cases h1
    rcases h2 with ⟨h3, _⟩ | ⟨h3, _⟩ <;> omega
  | byte h1 h2 h3 =>
    rw [stpAt_of hs] at h3
    exact ⟨rfl, h2, h3⟩
theorem Ed.four {p i : Nat} {e : Nat × Nat} {st : Stp} (h : Ed s ys (p, i) e) (hs : ys[p]? = some st) (ho : st.op = 4) : False := by
  cases h with
  | eps h =>
    obtain ⟨s', h1, h2⟩ := h
    rw [hs] at h1; cases h1
    rcases h2 with ⟨h3, _⟩ | ⟨h3, _⟩ <;> omega
  | byte h1 h2 h3 =>
    rw [stpAt_of hs] at h3
    simp [takesS, ho] at h3
def Frag (ys : List Stp) (n : Nat) (l : List Stp) : Prop := ∀ k, k < l.length → ys[n + k]? = l[k]?
theorem Frag.left {n : Nat} {a b : List Stp} (h : Frag ys n (a ++ b)) : Frag ys n a := fun k hk => by
  rw [h k (by simp; omega), List.getElem?_append_left hk]
theorem Frag.right {n : Nat} {a b : List Stp} (h : Frag ys n (a ++ b)) : Frag ys (n + a.length) b := fun k hk => by
  rw [show n + a.length + k = n + (a.length + k) by omega, h _ (by simp; omega), List.getElem?_append_right (by omega)]
  congr 1; omega
theorem Frag.head {n : Nat} {a : Stp} {b : List Stp} (h : Frag ys n (a :: b)) : ys[n]? = some a := by
  have := h 0 (by simp); simpa using this
theorem Frag.tail {n : Nat} {a : Stp} {b : List Stp} (h : Frag ys n (a :: b)) : Frag ys (n + 1) b := fun k hk => by
  have := h (k + 1) (by simp; omega)
  rw [show n + 1 + k = n + (k + 1) by omega, this]; simp
end
end Go.Proofs.Ytoadgajhkhejiaa
namespace Go.Proofs.Ytoadgajhkhejiaa
open Go Go.Ab Rex
set_option maxRecDepth 100000
def joinB (a b : List Bool) : List Bool := (List.range a.length).map fun i => a.getD i false || b.getD i false
def starL (F : List Bool → List Bool) : Nat → List Bool → List Bool
  | 0, cur => cur
  | m + 1, cur => if joinB cur (F cur) == cur then cur else starL F m (joinB cur (F cur))
def byteB (s : ByteArray) (st : Stp) (S : List Bool) : List Bool := (List.range (s.size + 1)).map fun j => match j with
  | 0 => false
  | i + 1 => S.getD i false && takesS st (byteAt s i)
def noB (s : ByteArray) : List Bool := List.replicate (s.size + 1) false
section
variable (s : ByteArray)
mutual
def daft : Rex → List Bool → List Bool
  | .mk op a b c d ks => fun S =>
    if op == 1 then byteB s ⟨1, a, b, c, d, 0, 0⟩ S
    else if op == 2 then daftL ks S
    else if op == 3 then daftA ks S (noB s)
    else if op == 6 then joinB S (daftH ks S)
    else if op == 5 then starL (daftH ks) (s.size + 1) (daftH ks S)
    else starL (daftH ks) (s.size + 1) S
def daftL : List Rex → List Bool → List Bool
  | [] => fun S => S
  | x :: xs => fun S => daftL xs (daft x S)
def daftA : List Rex → List Bool → List Bool → List Bool
  | [] => fun _ acc => acc
  | x :: xs => fun S acc => daftA xs S (joinB acc (daft x S))
def daftH : List Rex → List Bool → List Bool
  | [] => fun S => S
  | x :: _ => fun S => daft x S
end
end
theorem Star.one {R : Nat → Nat → Prop} {i m j : Nat} (h : R i m) (h' : Star R m j) : Star R i j := .step h h'
end Go.Proofs.Ytoadgajhkhejiaa
namespace Go.Proofs.Ytoadgajhkhejiaa
open Go Go.Ab Rex
set_option maxRecDepth 100000
section
variable {s : ByteArray} {ys : List Stp}
def Comp (s : ByteArray) (ys : List Stp) (x : Rex) : Prop := ∀ n i j, Frag ys n (lay n x) → Mt s x i j → Reach ys s n i → Reach ys s (n + (lay n x).length) j
theorem compL (l : List Rex) : ∀ n i j, (∀ k ∈ l, Comp s ys k) → Frag ys n (layL n l) → MtL s l i j → Reach ys s n i → Reach ys s (n + (layL n l).length) j := by
  induction l with
  | nil => intro n i j _ _ h hr; rw [show i = j from h] at hr; exact hr
  | cons x xs ih =>
    intro n i j hk hf h hr
    rw [layL] at hf ⊢
    obtain ⟨m, h1, h2⟩ := h
    have a1 := hk x List.mem_cons_self n i m hf.left h1 hr
    have a2 := ih _ m j (fun k hk' => hk k (List.mem_cons_of_mem _ hk')) hf.right h2 a1
    rw [List.length_append, ← Nat.add_assoc]
    exact a2
end
end Go.Proofs.Ytoadgajhkhejiaa
namespace Go.Proofs.Ytoadgajhkhejiaa
open Go Go.Ab
set_option maxRecDepth 100000
abbrev bv (S : List Bool) : AV := .sl 1 (S.map Bo)
end Go.Proofs.Ytoadgajhkhejiaa
namespace Go.Proofs.Ytoadgajhkhejiaa
open Go Go.Ab
set_option maxRecDepth 100000
def c3 : ACode :=
 (.seq (.ops [⟨some 2, none, .prim (.boxr (.tmp 0))⟩,
 ⟨some 4, none, .prim (.mov (.const (.bool false)))⟩])
 (.seq (.seq (.ops [⟨some 10, none, .prim (.load 3 true (.tmp 2))⟩,
 ⟨some 11, none, .prim (.bsl false 3 true 1 [.pl (.int .i64 0), .pl (.string .empty), .pl (.string .empty)] [(0, 3, (.tmp 10))])⟩,
 ⟨some 12, none, .prim (.mov (.tmp 1))⟩,
 ⟨some 13, none, .call (.func 13) [(.tmp 11), (.tmp 12)]⟩,
 ⟨some 14, none, .prim (.un .not (.tmp 13))⟩])
 (.cond (.tmp 14)
 (.seq (.ops [⟨some 15, none, .call (.func 14) []⟩,
 ⟨some 4, none, .prim (.mov (.tmp 15))⟩])
 .ret)
 .skip))
 (.seq (.after (.after (.ops [⟨some 5, none, .prim (.mov (.const (.slice none 0 0)))⟩,
 ⟨some 6, none, .prim (.mov (.const (.slice none 0 0)))⟩]) (.own 5 2)) (.own 6 2))
 (.seq (.seq (.ops [⟨some 7, none, .prim (.mov (.const (.int .i64 0)))⟩])
 (.block 0 (.loop [0, 3, 4, 8, 9, 10, 11, 12, 13, 14, 15, 16, 17, 18, 19, 20, 21, 22, 23, 24, 25, 26, 27, 28, 29, 30, 31, 32, 33, 34, 35, 36, 37, 38, 39, 40, 41, 42, 43, 44, 45, 46, 47, 48, 49, 50, 51, 52, 53, 54, 55, 56, 57, 58, 59, 60, 61, 62, 63, 64, 65, 66, 67, 68, 69, 70, 71, 72, 73, 74, 75, 76, 77, 78, 79, 80, 81, 82, 83, 84, 85, 86, 87, 88, 89, 90, 91, 92, 93, 94, 95, 96, 97, 98] (.seq (.seq (.ops [⟨some 16, none, .prim (.mov (.tmp 7))⟩,
 ⟨some 17, none, .prim (.mov (.tmp 1))⟩,
 ⟨some 18, none, .prim (.lenv (.tmp 17))⟩,
 ⟨some 19, none, .prim (.bin false .lss (.tmp 16) (.tmp 18))⟩])
 (.cond (.tmp 19)
 .skip
 (.exit 0)))
 (.seq (.block 1 (.seq (.seq (.ops [⟨some 22, none, .prim (.mov (.tmp 1))⟩,
 ⟨some 23, none, .prim (.mov (.tmp 7))⟩,
 ⟨some 24, none, .prim (.iadrs 2 (.tmp 22) (.tmp 23))⟩,
 ⟨some 25, none, .prim (.fadr 1 (.tmp 24))⟩,
 ⟨some 26, none, .prim (.load 1 false (.tmp 25))⟩,
 ⟨some 27, none, .prim (.lens (.tmp 26))⟩,
 ⟨some 28, none, .prim (.bin false .gtr (.tmp 27) (.const (.int .i64 30)))⟩])
 (.cond (.tmp 28)
 (.seq (.ops [⟨some 29, none, .call (.func 14) []⟩,
 ⟨some 4, none, .prim (.mov (.tmp 29))⟩])
 .ret)
 .skip))
 (.seq (.draw [⟨⟨some 30, none, .prim (.mov (.tmp 1))⟩, [], false, 0, 0⟩,
 ⟨⟨some 31, none, .prim (.mov (.tmp 7))⟩, [], false, 0, 0⟩,
 ⟨⟨some 32, none, .prim (.iadrs 2 (.tmp 30) (.tmp 31))⟩, [0, 1], false, 0, 0⟩,
 ⟨⟨some 33, none, .prim (.fadr 0 (.tmp 32))⟩, [0, 1, 2], false, 0, 0⟩,
 ⟨⟨some 34, none, .prim (.load 1 false (.tmp 33))⟩, [0, 1, 2, 3], false, 0, 0⟩,
 ⟨⟨some 35, none, .prim (.fadr 1 (.tmp 2))⟩, [], false, 0, 0⟩,
 ⟨⟨some 36, none, .prim (.load 1 false (.tmp 35))⟩, [5], false, 0, 0⟩,
 ⟨⟨some 37, none, .prim (.bin false .eql (.tmp 34) (.tmp 36))⟩, [0, 1, 2, 3, 4, 5, 6], false, 0, 0⟩])
 (.cond (.tmp 37)
 (.after (.after (.ops [⟨some 38, none, .prim (.mov (.tmp 6))⟩,
 ⟨some 39, none, .prim (.mov (.tmp 1))⟩,
 ⟨some 40, none, .prim (.mov (.tmp 7))⟩,
 ⟨some 41, none, .prim (.iadrs 2 (.tmp 39) (.tmp 40))⟩,
 ⟨some 42, none, .prim (.load 2 true (.tmp 41))⟩,
 ⟨some 43, none, .prim (.bsl false 2 true 1 [.pl (.string .empty), .pl (.string .empty)] [(0, 2, (.tmp 42))])⟩,
 ⟨some 44, none, .prim (.app 2 (.tmp 38) (.tmp 43))⟩,
 ⟨some 6, none, .prim (.mov (.tmp 44))⟩]) (.clear [38, 43, 44])) (.keep 2))
 (.after (.after (.ops [⟨some 45, none, .prim (.mov (.tmp 5))⟩,
 ⟨some 46, none, .prim (.mov (.tmp 1))⟩,
 ⟨some 47, none, .prim (.mov (.tmp 7))⟩,
 ⟨some 48, none, .prim (.iadrs 2 (.tmp 46) (.tmp 47))⟩,
 ⟨some 49, none, .prim (.load 2 true (.tmp 48))⟩,
 ⟨some 50, none, .prim (.bsl false 2 true 1 [.pl (.string .empty), .pl (.string .empty)] [(0, 2, (.tmp 49))])⟩,
 ⟨some 51, none, .prim (.app 2 (.tmp 45) (.tmp 50))⟩,
 ⟨some 5, none, .prim (.mov (.tmp 51))⟩]) (.clear [45, 50, 51])) (.keep 2))))))
 (.ops [⟨some 20, none, .prim (.mov (.tmp 7))⟩,
 ⟨some 21, none, .prim (.bin false .add (.tmp 20) (.const (.int .i64 1)))⟩,
 ⟨some 7, none, .prim (.mov (.tmp 21))⟩]))))))
 (.seq (.after (.after (.after (.ghost (.shut 5) (.ghost (.shut 6) (.ghost (.keep 0) (.draw [⟨⟨some 52, none, .prim (.mov (.tmp 5))⟩, [], false, 0, 0⟩,
 ⟨⟨some 53, none, .prim (.app 2 (.const (.slice none 0 0)) (.tmp 52))⟩, [0], true, 0, 0⟩,
 ⟨⟨some 54, none, .prim (.fadr 1 (.tmp 2))⟩, [], false, 0, 1⟩,
 ⟨⟨some 55, none, .prim (.load 1 false (.tmp 54))⟩, [2], false, 0, 1⟩,
 ⟨⟨some 56, none, .prim (.build [.pl (.string .empty), .pl (.string .empty)] [(0, 1, (.tmp 55))])⟩, [2, 3], false, 0, 1⟩,
 ⟨⟨some 57, none, .prim (.bsl false 2 true 1 [.pl (.string .empty), .pl (.string .empty)] [(0, 2, (.tmp 56))])⟩, [2, 3, 4], false, 0, 1⟩,
 ⟨⟨some 58, none, .prim (.app 2 (.tmp 53) (.tmp 57))⟩, [0, 1, 2, 3, 4, 5], true, 0, 0⟩,
 ⟨⟨some 8, none, .prim (.mov (.tmp 58))⟩, [0, 1, 2, 3, 4, 5, 6], false, 2, 2⟩])))) (.shut 8)) (.clear [53, 57, 58])) (.keep 0))
 (.seq (.after (.after (.after (.draw [⟨⟨some 59, none, .prim (.mov (.tmp 6))⟩, [], false, 0, 0⟩,
 ⟨⟨some 60, none, .prim (.app 2 (.const (.slice none 0 0)) (.tmp 59))⟩, [0], true, 0, 0⟩,
 ⟨⟨some 61, none, .prim (.fadr 1 (.tmp 2))⟩, [], false, 0, 1⟩,
 ⟨⟨some 62, none, .prim (.load 1 false (.tmp 61))⟩, [2], false, 0, 1⟩,
 ⟨⟨some 63, none, .prim (.build [.pl (.string .empty), .pl (.string .empty)] [(0, 1, (.tmp 62)), (1, 1, (.const (.string (ByteArray.mk #[122, 122]))))])⟩, [2, 3], false, 0, 1⟩,
 ⟨⟨some 64, none, .prim (.bsl false 2 true 1 [.pl (.string .empty), .pl (.string .empty)] [(0, 2, (.tmp 63))])⟩, [2, 3, 4], false, 0, 1⟩,
 ⟨⟨some 65, none, .prim (.app 2 (.tmp 60) (.tmp 64))⟩, [0, 1, 2, 3, 4, 5], true, 0, 0⟩,
 ⟨⟨some 9, none, .prim (.mov (.tmp 65))⟩, [0, 1, 2, 3, 4, 5, 6], false, 2, 2⟩]) (.shut 9)) (.clear [60, 64, 65])) (.keep 0))
 (.seq (.draw [⟨⟨some 66, none, .prim (.load 3 true (.tmp 2))⟩, [], false, 0, 0⟩,
 ⟨⟨some 67, none, .prim (.mov (.tmp 5))⟩, [], false, 0, 0⟩,
 ⟨⟨some 68, none, .call (.func 15) [(.tmp 66), (.tmp 67)]⟩, [0, 1], true, 0, 0⟩,
 ⟨⟨some 69, none, .prim (.load 3 true (.tmp 2))⟩, [], false, 0, 1⟩,
 ⟨⟨some 70, none, .prim (.mov (.tmp 8))⟩, [], false, 0, 1⟩,
 ⟨⟨some 71, none, .call (.func 15) [(.tmp 69), (.tmp 70)]⟩, [0, 1, 2, 3, 4], true, 0, 0⟩,
 ⟨⟨some 72, none, .prim (.bin true .eql (.tmp 68) (.tmp 71))⟩, [0, 1, 2, 3, 4, 5], false, 2, 2⟩,
 ⟨⟨some 73, none, .prim (.mov (.tmp 72))⟩, [0, 1, 2, 3, 4, 5, 6], false, 2, 2⟩,
 ⟨⟨some 74, (some (73, true)), .prim (.load 3 true (.tmp 2))⟩, [0, 1, 2, 3, 4, 5, 6, 7], false, 2, 2⟩,
 ⟨⟨some 75, (some (73, true)), .prim (.mov (.tmp 6))⟩, [0, 1, 2, 3, 4, 5, 6, 7], false, 2, 2⟩,
 ⟨⟨some 76, (some (73, true)), .call (.func 15) [(.tmp 74), (.tmp 75)]⟩, [0, 1, 2, 3, 4, 5, 6, 7, 8, 9], true, 0, 0⟩,
 ⟨⟨some 77, (some (73, true)), .prim (.load 3 true (.tmp 2))⟩, [0, 1, 2, 3, 4, 5, 6, 7], false, 2, 3⟩,
 ⟨⟨some 78, (some (73, true)), .prim (.mov (.tmp 1))⟩, [0, 1, 2, 3, 4, 5, 6, 7], false, 2, 3⟩,
 ⟨⟨some 79, (some (73, true)), .call (.func 15) [(.tmp 77), (.tmp 78)]⟩, [0, 1, 2, 3, 4, 5, 6, 7, 8, 9, 10, 11, 12], true, 0, 0⟩,
 ⟨⟨some 80, (some (73, true)), .prim (.bin true .eql (.tmp 76) (.tmp 79))⟩, [0, 1, 2, 3, 4, 5, 6, 7, 8, 9, 10, 11, 12, 13], false, 4, 4⟩,
 ⟨⟨some 81, none, .prim (.pick (.tmp 73) (.tmp 80) (.const (.bool false)))⟩, [0, 1, 2, 3, 4, 5, 6, 7, 8, 9, 10, 11, 12, 13, 14], false, 4, 4⟩,
 ⟨⟨some 82, none, .prim (.mov (.tmp 81))⟩, [0, 1, 2, 3, 4, 5, 6, 7, 8, 9, 10, 11, 12, 13, 14, 15], false, 4, 4⟩,
 ⟨⟨some 83, (some (82, true)), .prim (.mov (.tmp 6))⟩, [0, 1, 2, 3, 4, 5, 6, 7, 8, 9, 10, 11, 12, 13, 14, 15, 16], false, 4, 4⟩,
 ⟨⟨some 84, (some (82, true)), .prim (.lenv (.tmp 83))⟩, [0, 1, 2, 3, 4, 5, 6, 7, 8, 9, 10, 11, 12, 13, 14, 15, 16, 17], false, 4, 4⟩,
 ⟨⟨some 85, (some (82, true)), .prim (.bin false .eql (.tmp 84) (.const (.int .i64 0)))⟩, [0, 1, 2, 3, 4, 5, 6, 7, 8, 9, 10, 11, 12, 13, 14, 15, 16, 17, 18], false, 4, 4⟩,
 ⟨⟨some 86, (some (82, true)), .prim (.mov (.tmp 85))⟩, [0, 1, 2, 3, 4, 5, 6, 7, 8, 9, 10, 11, 12, 13, 14, 15, 16, 17, 18, 19], false, 4, 4⟩,
 ⟨⟨some 87, (some (86, false)), .prim (.load 3 true (.tmp 2))⟩, [0, 1, 2, 3, 4, 5, 6, 7, 8, 9, 10, 11, 12, 13, 14, 15, 16, 17, 18, 19, 20], false, 4, 4⟩,
 ⟨⟨some 88, (some (86, false)), .prim (.mov (.tmp 9))⟩, [0, 1, 2, 3, 4, 5, 6, 7, 8, 9, 10, 11, 12, 13, 14, 15, 16, 17, 18, 19, 20], false, 4, 4⟩,
 ⟨⟨some 89, (some (86, false)), .call (.func 15) [(.tmp 87), (.tmp 88)]⟩, [0, 1, 2, 3, 4, 5, 6, 7, 8, 9, 10, 11, 12, 13, 14, 15, 16, 17, 18, 19, 20, 21, 22], true, 0, 0⟩,
 ⟨⟨some 90, (some (86, false)), .prim (.load 3 true (.tmp 2))⟩, [0, 1, 2, 3, 4, 5, 6, 7, 8, 9, 10, 11, 12, 13, 14, 15, 16, 17, 18, 19, 20], false, 4, 5⟩,
 ⟨⟨some 91, (some (86, false)), .prim (.mov (.tmp 1))⟩, [0, 1, 2, 3, 4, 5, 6, 7, 8, 9, 10, 11, 12, 13, 14, 15, 16, 17, 18, 19, 20], false, 4, 5⟩,
 ⟨⟨some 92, (some (86, false)), .call (.func 15) [(.tmp 90), (.tmp 91)]⟩, [0, 1, 2, 3, 4, 5, 6, 7, 8, 9, 10, 11, 12, 13, 14, 15, 16, 17, 18, 19, 20, 21, 22, 23, 24, 25], true, 0, 0⟩,
 ⟨⟨some 93, (some (86, false)), .prim (.bin true .eql (.tmp 89) (.tmp 92))⟩, [0, 1, 2, 3, 4, 5, 6, 7, 8, 9, 10, 11, 12, 13, 14, 15, 16, 17, 18, 19, 20, 21, 22, 23, 24, 25, 26], false, 6, 6⟩,
 ⟨⟨some 94, (some (82, true)), .prim (.pick (.tmp 86) (.const (.bool true)) (.tmp 93))⟩, [0, 1, 2, 3, 4, 5, 6, 7, 8, 9, 10, 11, 12, 13, 14, 15, 16, 17, 18, 19, 20, 21, 22, 23, 24, 25, 26, 27], false, 6, 6⟩,
 ⟨⟨some 95, none, .prim (.pick (.tmp 82) (.tmp 94) (.const (.bool false)))⟩, [0, 1, 2, 3, 4, 5, 6, 7, 8, 9, 10, 11, 12, 13, 14, 15, 16, 17, 18, 19, 20, 21, 22, 23, 24, 25, 26, 27, 28], false, 6, 6⟩,
 ⟨⟨some 96, none, .prim (.mov (.tmp 95))⟩, [0, 1, 2, 3, 4, 5, 6, 7, 8, 9, 10, 11, 12, 13, 14, 15, 16, 17, 18, 19, 20, 21, 22, 23, 24, 25, 26, 27, 28, 29], false, 6, 6⟩,
 ⟨⟨some 97, (some (96, true)), .call (.func 14) []⟩, [0, 1, 2, 3, 4, 5, 6, 7, 8, 9, 10, 11, 12, 13, 14, 15, 16, 17, 18, 19, 20, 21, 22, 23, 24, 25, 26, 27, 28, 29, 30], true, 0, 0⟩,
 ⟨⟨some 98, none, .prim (.pick (.tmp 96) (.tmp 97) (.const (.bool false)))⟩, [0, 1, 2, 3, 4, 5, 6, 7, 8, 9, 10, 11, 12, 13, 14, 15, 16, 17, 18, 19, 20, 21, 22, 23, 24, 25, 26, 27, 28, 29, 30, 31], false, 7, 7⟩,
 ⟨⟨some 4, none, .prim (.mov (.tmp 98))⟩, [0, 1, 2, 3, 4, 5, 6, 7, 8, 9, 10, 11, 12, 13, 14, 15, 16, 17, 18, 19, 20, 21, 22, 23, 24, 25, 26, 27, 28, 29, 30, 31, 32], false, 7, 7⟩])
 .ret)))))))
def o3 : List Tmp := []
def r3 : List RV := [.tmp 4]
theorem t3 : Text Try.prog 3 o3 c3 r3 99 := ⟨⟨Try.f3, _, by kernel_rfl, by kernel_rfl, rfl, by kernel_rfl, by kernel_rfl, rfl⟩, by kernel_rfl⟩
def c4 : ACode :=
 (.seq (.ops [⟨some 2, none, .prim (.boxr (.tmp 0))⟩,
 ⟨some 4, none, .prim (.mov (.const (.bool false)))⟩])
 (.seq (.seq (.ops [⟨some 6, none, .prim (.load 3 true (.tmp 2))⟩,
 ⟨some 7, none, .prim (.bsl false 3 true 1 [.pl (.int .i64 0), .pl (.string .empty), .pl (.string .empty)] [(0, 3, (.tmp 6))])⟩,
 ⟨some 8, none, .prim (.mov (.tmp 1))⟩,
 ⟨some 9, none, .call (.func 13) [(.tmp 7), (.tmp 8)]⟩,
 ⟨some 10, none, .prim (.un .not (.tmp 9))⟩])
 (.cond (.tmp 10)
 (.seq (.ops [⟨some 11, none, .call (.func 14) []⟩,
 ⟨some 4, none, .prim (.mov (.tmp 11))⟩])
 .ret)
 .skip))
 (.seq (.seq (.ops [⟨some 5, none, .prim (.mov (.const (.int .i64 0)))⟩])
 (.block 0 (.loop [0, 3, 4, 6, 7, 8, 9, 10, 11, 12, 13, 14, 15, 16, 17, 18, 19, 20, 21, 22, 23, 24, 25, 26, 27, 28, 29, 30, 31, 32, 33, 34, 35, 36, 37, 38, 39, 40, 41, 42, 43, 44, 45, 46, 47, 48, 49] (.seq (.seq (.ops [⟨some 12, none, .prim (.mov (.tmp 5))⟩,
 ⟨some 13, none, .prim (.mov (.tmp 1))⟩,
 ⟨some 14, none, .prim (.lenv (.tmp 13))⟩,
 ⟨some 15, none, .prim (.bin false .lss (.tmp 12) (.tmp 14))⟩])
 (.cond (.tmp 15)
 .skip
 (.exit 0)))
 (.seq (.block 1 (.seq (.ops [⟨some 18, none, .prim (.mov (.tmp 1))⟩,
 ⟨some 19, none, .prim (.mov (.tmp 5))⟩,
 ⟨some 20, none, .prim (.iadrs 2 (.tmp 18) (.tmp 19))⟩,
 ⟨some 21, none, .prim (.fadr 1 (.tmp 20))⟩,
 ⟨some 22, none, .prim (.load 1 false (.tmp 21))⟩,
 ⟨some 23, none, .prim (.lens (.tmp 22))⟩,
 ⟨some 24, none, .prim (.bin false .gtr (.tmp 23) (.const (.int .i64 30)))⟩])
 (.cond (.tmp 24)
 (.seq (.ops [⟨some 25, none, .call (.func 14) []⟩,
 ⟨some 4, none, .prim (.mov (.tmp 25))⟩])
 .ret)
 .skip)))
 (.ops [⟨some 16, none, .prim (.mov (.tmp 5))⟩,
 ⟨some 17, none, .prim (.bin false .add (.tmp 16) (.const (.int .i64 1)))⟩,
 ⟨some 5, none, .prim (.mov (.tmp 17))⟩]))))))
 (.seq (.draw [⟨⟨some 26, none, .prim (.load 3 true (.tmp 2))⟩, [], false, 0, 0⟩,
 ⟨⟨some 27, none, .call (.func 16) [(.tmp 26)]⟩, [0], true, 0, 0⟩,
 ⟨⟨some 28, none, .prim (.load 3 true (.tmp 2))⟩, [], false, 0, 1⟩,
 ⟨⟨some 29, none, .call (.func 17) [(.tmp 28)]⟩, [0, 1, 2], true, 0, 0⟩,
 ⟨⟨some 30, none, .prim (.bin true .eql (.tmp 27) (.tmp 29))⟩, [0, 1, 2, 3], false, 2, 2⟩,
 ⟨⟨some 31, none, .prim (.mov (.tmp 30))⟩, [0, 1, 2, 3, 4], false, 2, 2⟩,
 ⟨⟨some 32, (some (31, true)), .prim (.load 3 true (.tmp 2))⟩, [0, 1, 2, 3, 4, 5], false, 2, 2⟩,
 ⟨⟨some 33, (some (31, true)), .call (.func 18) [(.tmp 32)]⟩, [0, 1, 2, 3, 4, 5, 6], true, 0, 0⟩,
 ⟨⟨some 34, (some (31, true)), .prim (.load 3 true (.tmp 2))⟩, [0, 1, 2, 3, 4, 5], false, 2, 3⟩,
 ⟨⟨some 35, (some (31, true)), .call (.func 19) [(.tmp 34)]⟩, [0, 1, 2, 3, 4, 5, 6, 7, 8], true, 0, 0⟩,
 ⟨⟨some 36, (some (31, true)), .prim (.bin true .eql (.tmp 33) (.tmp 35))⟩, [0, 1, 2, 3, 4, 5, 6, 7, 8, 9], false, 4, 4⟩,
 ⟨⟨some 37, none, .prim (.pick (.tmp 31) (.tmp 36) (.const (.bool false)))⟩, [0, 1, 2, 3, 4, 5, 6, 7, 8, 9, 10], false, 4, 4⟩,
 ⟨⟨some 38, none, .prim (.mov (.tmp 37))⟩, [0, 1, 2, 3, 4, 5, 6, 7, 8, 9, 10, 11], false, 4, 4⟩,
 ⟨⟨some 39, (some (38, true)), .prim (.load 3 true (.tmp 2))⟩, [0, 1, 2, 3, 4, 5, 6, 7, 8, 9, 10, 11, 12], false, 4, 4⟩,
 ⟨⟨some 40, (some (38, true)), .prim (.mov (.tmp 1))⟩, [0, 1, 2, 3, 4, 5, 6, 7, 8, 9, 10, 11, 12], false, 4, 4⟩,
 ⟨⟨some 41, (some (38, true)), .call (.func 15) [(.tmp 39), (.tmp 40)]⟩, [0, 1, 2, 3, 4, 5, 6, 7, 8, 9, 10, 11, 12, 13, 14], true, 0, 0⟩,
 ⟨⟨some 42, (some (38, true)), .prim (.load 3 true (.tmp 2))⟩, [0, 1, 2, 3, 4, 5, 6, 7, 8, 9, 10, 11, 12], false, 4, 5⟩,
 ⟨⟨some 43, (some (38, true)), .prim (.mov (.tmp 1))⟩, [0, 1, 2, 3, 4, 5, 6, 7, 8, 9, 10, 11, 12], false, 4, 5⟩,
 ⟨⟨some 44, (some (38, true)), .call (.func 20) [(.tmp 42), (.tmp 43)]⟩, [0, 1, 2, 3, 4, 5, 6, 7, 8, 9, 10, 11, 12, 13, 14, 15, 16, 17], true, 0, 0⟩,
 ⟨⟨some 45, (some (38, true)), .prim (.bin true .eql (.tmp 41) (.tmp 44))⟩, [0, 1, 2, 3, 4, 5, 6, 7, 8, 9, 10, 11, 12, 13, 14, 15, 16, 17, 18], false, 6, 6⟩,
 ⟨⟨some 46, none, .prim (.pick (.tmp 38) (.tmp 45) (.const (.bool false)))⟩, [0, 1, 2, 3, 4, 5, 6, 7, 8, 9, 10, 11, 12, 13, 14, 15, 16, 17, 18, 19], false, 6, 6⟩,
 ⟨⟨some 47, none, .prim (.mov (.tmp 46))⟩, [0, 1, 2, 3, 4, 5, 6, 7, 8, 9, 10, 11, 12, 13, 14, 15, 16, 17, 18, 19, 20], false, 6, 6⟩,
 ⟨⟨some 48, (some (47, true)), .call (.func 14) []⟩, [0, 1, 2, 3, 4, 5, 6, 7, 8, 9, 10, 11, 12, 13, 14, 15, 16, 17, 18, 19, 20, 21], true, 0, 0⟩,
 ⟨⟨some 49, none, .prim (.pick (.tmp 47) (.tmp 48) (.const (.bool false)))⟩, [0, 1, 2, 3, 4, 5, 6, 7, 8, 9, 10, 11, 12, 13, 14, 15, 16, 17, 18, 19, 20, 21, 22], false, 7, 7⟩,
 ⟨⟨some 4, none, .prim (.mov (.tmp 49))⟩, [0, 1, 2, 3, 4, 5, 6, 7, 8, 9, 10, 11, 12, 13, 14, 15, 16, 17, 18, 19, 20, 21, 22, 23], false, 7, 7⟩])
 .ret))))
def o4 : List Tmp := []
def r4 : List RV := [.tmp 4]
theorem t4 : Text Try.prog 4 o4 c4 r4 50 := ⟨⟨Try.f4, _, by kernel_rfl, by kernel_rfl, rfl, by kernel_rfl, by kernel_rfl, rfl⟩, by kernel_rfl⟩
def c9 : ACode :=
 (.seq (.ops [⟨some 4, none, .prim (.boxr (.tmp 0))⟩,
 ⟨some 5, none, .prim (.boxr (.tmp 1))⟩,
 ⟨some 6, none, .prim (.boxr (.tmp 2))⟩,
 ⟨some 8, none, .prim (.mov (.const (.bool false)))⟩])
 (.seq (.draw [⟨⟨some 16, none, .prim (.load 6 true (.tmp 4))⟩, [], false, 0, 0⟩,
 ⟨⟨some 17, none, .call (.func 32) [(.tmp 16)]⟩, [0], true, 0, 0⟩,
 ⟨⟨some 18, none, .prim (.load 2 true (.tmp 5))⟩, [], false, 0, 1⟩,
 ⟨⟨some 19, none, .call (.func 33) [(.tmp 18)]⟩, [0, 1, 2], true, 0, 0⟩,
 ⟨⟨some 20, none, .prim (.load 2 true (.tmp 6))⟩, [], false, 0, 2⟩,
 ⟨⟨some 21, none, .call (.func 33) [(.tmp 20)]⟩, [0, 1, 2, 3, 4], true, 0, 0⟩,
 ⟨⟨some 9, none, .flo 6⟩, [], false, 0, 3⟩,
 ⟨⟨some 10, none, .flo 3⟩, [], false, 0, 3⟩,
 ⟨⟨some 11, none, .flo 3⟩, [], false, 0, 3⟩,
 ⟨⟨some 9, none, .adopt true 9 6 (.tmp 17)⟩, [0, 1, 2, 3, 4, 5, 6, 7, 8], true, 0, 0⟩,
 ⟨⟨some 10, none, .adopt false 10 3 (.tmp 19)⟩, [0, 1, 2, 3, 4, 5, 6, 7, 8, 9], true, 0, 0⟩,
 ⟨⟨some 11, none, .adopt false 11 3 (.tmp 21)⟩, [0, 1, 2, 3, 4, 5, 6, 7, 8, 9, 10], true, 0, 0⟩])
 (.seq (.ops [⟨some 22, none, .prim (.load 6 true (.tmp 9))⟩,
 ⟨some 23, none, .prim (.load 3 true (.tmp 10))⟩,
 ⟨some 24, none, .prim (.load 3 true (.tmp 11))⟩,
 ⟨some 25, none, .call (.func 34) [(.tmp 22), (.tmp 23), (.tmp 24)]⟩,
 ⟨some 12, none, .prim (.mov (.tmp 25))⟩])
 (.seq (.seq (.ops [⟨some 13, none, .prim (.mov (.const (.int .i64 0)))⟩])
 (.block 0 (.loop [0, 1, 2, 4, 5, 6, 7, 8, 14, 15, 16, 17, 18, 19, 20, 21, 22, 23, 24, 25, 26, 27, 28, 29, 30, 31, 32, 33, 34, 35, 36, 37, 38, 39, 40, 41, 42, 43, 44, 45, 46, 47, 48, 49, 50, 51, 52, 53, 54, 55, 56, 57, 58, 59, 60, 61, 62, 63, 64, 65, 66, 67, 68, 69, 70, 71, 72, 73, 74, 75, 76, 77, 78, 79, 80, 81, 82, 83, 84, 85, 86, 87, 88, 89, 90, 91, 92, 93, 94, 95, 96, 97, 98, 99] (.seq (.seq (.ops [⟨some 26, none, .prim (.mov (.tmp 13))⟩,
 ⟨some 27, none, .prim (.fadr 5 (.tmp 9))⟩,
 ⟨some 28, none, .prim (.load 1 false (.tmp 27))⟩,
 ⟨some 29, none, .prim (.lenv (.tmp 28))⟩,
 ⟨some 30, none, .prim (.bin false .lss (.tmp 26) (.tmp 29))⟩])
 (.cond (.tmp 30)
 .skip
 (.exit 0)))
 (.seq (.block 1 (.seq (.draw [⟨⟨some 33, none, .prim (.mov (.tmp 12))⟩, [], false, 0, 0⟩,
 ⟨⟨some 34, none, .prim (.mov (.tmp 33))⟩, [0], false, 0, 0⟩,
 ⟨⟨some 35, (some (34, true)), .prim (.fadr 1 (.tmp 10))⟩, [0, 1], false, 0, 0⟩,
 ⟨⟨some 36, (some (34, true)), .prim (.load 1 false (.tmp 35))⟩, [0, 1, 2], false, 0, 0⟩,
 ⟨⟨some 37, (some (34, true)), .prim (.fadr 5 (.tmp 9))⟩, [0, 1], false, 0, 0⟩,
 ⟨⟨some 38, (some (34, true)), .prim (.load 1 false (.tmp 37))⟩, [0, 1, 4], false, 0, 0⟩,
 ⟨⟨some 39, (some (34, true)), .prim (.mov (.tmp 13))⟩, [0, 1], false, 0, 0⟩,
 ⟨⟨some 40, (some (34, true)), .prim (.iadrs 1 (.tmp 38) (.tmp 39))⟩, [0, 1, 4, 5, 6], false, 0, 0⟩,
 ⟨⟨some 41, (some (34, true)), .prim (.load 1 false (.tmp 40))⟩, [0, 1, 4, 5, 6, 7], false, 0, 0⟩,
 ⟨⟨some 42, (some (34, true)), .call (.func 35) [(.tmp 36), (.tmp 41)]⟩, [0, 1, 2, 3, 4, 5, 6, 7, 8], true, 0, 0⟩,
 ⟨⟨some 43, (some (34, true)), .prim (.fadr 1 (.tmp 11))⟩, [0, 1], false, 0, 1⟩,
 ⟨⟨some 44, (some (34, true)), .prim (.load 1 false (.tmp 43))⟩, [0, 1, 10], false, 0, 1⟩,
 ⟨⟨some 45, (some (34, true)), .prim (.fadr 5 (.tmp 9))⟩, [0, 1], false, 0, 1⟩,
 ⟨⟨some 46, (some (34, true)), .prim (.load 1 false (.tmp 45))⟩, [0, 1, 12], false, 0, 1⟩,
 ⟨⟨some 47, (some (34, true)), .prim (.mov (.tmp 13))⟩, [0, 1], false, 0, 1⟩,
 ⟨⟨some 48, (some (34, true)), .prim (.iadrs 1 (.tmp 46) (.tmp 47))⟩, [0, 1, 12, 13, 14], false, 0, 1⟩,
 ⟨⟨some 49, (some (34, true)), .prim (.load 1 false (.tmp 48))⟩, [0, 1, 12, 13, 14, 15], false, 0, 1⟩,
 ⟨⟨some 50, (some (34, true)), .call (.func 35) [(.tmp 44), (.tmp 49)]⟩, [0, 1, 2, 3, 4, 5, 6, 7, 8, 9, 10, 11, 12, 13, 14, 15, 16], true, 0, 0⟩,
 ⟨⟨some 51, (some (34, true)), .prim (.bin false .neq (.tmp 42) (.tmp 50))⟩, [0, 1, 2, 3, 4, 5, 6, 7, 8, 9, 10, 11, 12, 13, 14, 15, 16, 17], false, 2, 2⟩,
 ⟨⟨some 52, none, .prim (.pick (.tmp 34) (.tmp 51) (.const (.bool false)))⟩, [0, 1, 2, 3, 4, 5, 6, 7, 8, 9, 10, 11, 12, 13, 14, 15, 16, 17, 18], false, 2, 2⟩])
 (.cond (.tmp 52)
 (.seq (.ops [⟨some 8, none, .prim (.mov (.const (.bool false)))⟩])
 .ret)
 .skip)))
 (.ops [⟨some 31, none, .prim (.mov (.tmp 13))⟩,
 ⟨some 32, none, .prim (.bin false .add (.tmp 31) (.const (.int .i64 1)))⟩,
 ⟨some 13, none, .prim (.mov (.tmp 32))⟩]))))))
 (.seq (.ops [⟨some 53, none, .prim (.load 6 true (.tmp 9))⟩,
 ⟨some 14, none, .prim (.allocm [.nils, .nils, .pl (.bool false), .pl (.float .f64 0), .pl (.float .f64 0), .nils])⟩,
 ⟨none, none, .prim (.store 6 (.tmp 14) (.tmp 53))⟩])
 (.seq (.seq (.ops [⟨some 54, none, .prim (.fadr 5 (.tmp 9))⟩,
 ⟨some 55, none, .prim (.load 1 false (.tmp 54))⟩,
 ⟨some 56, none, .prim (.lenv (.tmp 55))⟩,
 ⟨some 15, none, .prim (.mov (.tmp 56))⟩])
 (.seq (.ops [⟨some 57, none, .prim (.mov (.tmp 15))⟩,
 ⟨some 58, none, .prim (.bin false .gtr (.tmp 57) (.const (.int .i64 0)))⟩])
 (.cond (.tmp 58)
 (.seq (.seq (.ops [⟨some 59, none, .prim (.mov (.tmp 3))⟩,
 ⟨some 60, none, .prim (.bin false .lss (.tmp 59) (.const (.int .i64 0)))⟩])
 (.cond (.tmp 60)
 (.ops [⟨some 3, none, .prim (.mov (.const (.int .i64 0)))⟩])
 .skip))
 (.seq (.ops [⟨some 61, none, .prim (.mov (.tmp 3))⟩,
 ⟨some 62, none, .prim (.mov (.tmp 15))⟩,
 ⟨some 63, none, .prim (.bin false .rem (.tmp 61) (.tmp 62))⟩,
 ⟨some 3, none, .prim (.mov (.tmp 63))⟩])
 (.after (.draw [⟨⟨some 64, none, .prim (.fadr 5 (.tmp 9))⟩, [], false, 0, 0⟩,
 ⟨⟨some 65, none, .prim (.load 1 false (.tmp 64))⟩, [0], false, 0, 0⟩,
 ⟨⟨some 66, none, .prim (.mov (.tmp 3))⟩, [], false, 0, 0⟩,
 ⟨⟨some 67, none, .prim (.slcv 1 (.tmp 65) none (some (.tmp 66)))⟩, [0, 1, 2], false, 0, 0⟩,
 ⟨⟨some 68, none, .prim (.app 1 (.const (.slice none 0 0)) (.tmp 67))⟩, [0, 1, 2, 3], true, 0, 0⟩,
 ⟨⟨some 69, none, .prim (.fadr 5 (.tmp 9))⟩, [], false, 0, 1⟩,
 ⟨⟨some 70, none, .prim (.load 1 false (.tmp 69))⟩, [5], false, 0, 1⟩,
 ⟨⟨some 71, none, .prim (.mov (.tmp 3))⟩, [], false, 0, 1⟩,
 ⟨⟨some 72, none, .prim (.bin false .add (.tmp 71) (.const (.int .i64 1)))⟩, [7], false, 0, 1⟩,
 ⟨⟨some 73, none, .prim (.slcv 1 (.tmp 70) (some (.tmp 72)) none)⟩, [5, 6, 7, 8], false, 0, 1⟩,
 ⟨⟨some 74, none, .prim (.app 1 (.tmp 68) (.tmp 73))⟩, [0, 1, 2, 3, 4, 5, 6, 7, 8, 9], true, 0, 0⟩,
 ⟨⟨some 75, none, .prim (.fadr 5 (.tmp 14))⟩, [0, 1, 2, 3, 4, 5, 6, 7, 8, 9, 10], false, 2, 2⟩,
 ⟨⟨none, none, .prim (.store 1 (.tmp 75) (.tmp 74))⟩, [0, 1, 2, 3, 4, 5, 6, 7, 8, 9, 10, 11], true, 0, 0⟩]) (.shutc 14 5 1))))
 .skip)))
 (.seq (.draw [⟨⟨some 76, none, .prim (.mov (.tmp 12))⟩, [], false, 0, 0⟩,
 ⟨⟨some 77, none, .prim (.un .not (.tmp 76))⟩, [0], false, 0, 0⟩,
 ⟨⟨some 78, none, .prim (.mov (.tmp 77))⟩, [0, 1], false, 0, 0⟩,
 ⟨⟨some 79, (some (78, false)), .prim (.load 6 true (.tmp 14))⟩, [0, 1, 2], false, 0, 0⟩,
 ⟨⟨some 80, (some (78, false)), .prim (.load 3 true (.tmp 10))⟩, [0, 1, 2], false, 0, 0⟩,
 ⟨⟨some 81, (some (78, false)), .prim (.load 3 true (.tmp 11))⟩, [0, 1, 2], false, 0, 0⟩,
 ⟨⟨some 82, (some (78, false)), .call (.func 34) [(.tmp 79), (.tmp 80), (.tmp 81)]⟩, [0, 1, 2, 3, 4, 5], true, 0, 0⟩,
 ⟨⟨some 83, none, .prim (.pick (.tmp 78) (.const (.bool true)) (.tmp 82))⟩, [0, 1, 2, 3, 4, 5, 6], false, 1, 1⟩,
 ⟨⟨some 84, none, .prim (.mov (.tmp 83))⟩, [0, 1, 2, 3, 4, 5, 6, 7], false, 1, 1⟩,
 ⟨⟨some 85, (some (84, true)), .prim (.load 6 true (.tmp 9))⟩, [0, 1, 2, 3, 4, 5, 6, 7, 8], false, 1, 1⟩,
 ⟨⟨some 86, (some (84, true)), .prim (.load 3 true (.tmp 10))⟩, [0, 1, 2, 3, 4, 5, 6, 7, 8], false, 1, 1⟩,
 ⟨⟨some 87, (some (84, true)), .call (.func 36) [(.tmp 85), (.tmp 86)]⟩, [0, 1, 2, 3, 4, 5, 6, 7, 8, 9, 10], true, 0, 0⟩,
 ⟨⟨some 88, (some (84, true)), .prim (.load 6 true (.tmp 9))⟩, [0, 1, 2, 3, 4, 5, 6, 7, 8], false, 1, 2⟩,
 ⟨⟨some 89, (some (84, true)), .prim (.load 3 true (.tmp 11))⟩, [0, 1, 2, 3, 4, 5, 6, 7, 8], false, 1, 2⟩,
 ⟨⟨some 90, (some (84, true)), .call (.func 36) [(.tmp 88), (.tmp 89)]⟩, [0, 1, 2, 3, 4, 5, 6, 7, 8, 9, 10, 11, 12, 13], true, 0, 0⟩,
 ⟨⟨some 91, (some (84, true)), .prim (.bin false .eql (.tmp 87) (.tmp 90))⟩, [0, 1, 2, 3, 4, 5, 6, 7, 8, 9, 10, 11, 12, 13, 14], false, 3, 3⟩,
 ⟨⟨some 92, (some (84, true)), .prim (.mov (.tmp 91))⟩, [0, 1, 2, 3, 4, 5, 6, 7, 8, 9, 10, 11, 12, 13, 14, 15], false, 3, 3⟩,
 ⟨⟨some 93, (some (92, false)), .prim (.mov (.tmp 12))⟩, [0, 1, 2, 3, 4, 5, 6, 7, 8, 9, 10, 11, 12, 13, 14, 15, 16], false, 3, 3⟩,
 ⟨⟨some 94, (some (92, false)), .prim (.un .not (.tmp 93))⟩, [0, 1, 2, 3, 4, 5, 6, 7, 8, 9, 10, 11, 12, 13, 14, 15, 16, 17], false, 3, 3⟩,
 ⟨⟨some 95, (some (84, true)), .prim (.pick (.tmp 92) (.const (.bool true)) (.tmp 94))⟩, [0, 1, 2, 3, 4, 5, 6, 7, 8, 9, 10, 11, 12, 13, 14, 15, 16, 17, 18], false, 3, 3⟩,
 ⟨⟨some 96, none, .prim (.pick (.tmp 84) (.tmp 95) (.const (.bool false)))⟩, [0, 1, 2, 3, 4, 5, 6, 7, 8, 9, 10, 11, 12, 13, 14, 15, 16, 17, 18, 19], false, 3, 3⟩,
 ⟨⟨some 97, none, .prim (.mov (.tmp 96))⟩, [0, 1, 2, 3, 4, 5, 6, 7, 8, 9, 10, 11, 12, 13, 14, 15, 16, 17, 18, 19, 20], false, 3, 3⟩,
 ⟨⟨some 98, (some (97, true)), .call (.func 31) []⟩, [0, 1, 2, 3, 4, 5, 6, 7, 8, 9, 10, 11, 12, 13, 14, 15, 16, 17, 18, 19, 20, 21], true, 0, 0⟩,
 ⟨⟨some 99, none, .prim (.pick (.tmp 97) (.tmp 98) (.const (.bool false)))⟩, [0, 1, 2, 3, 4, 5, 6, 7, 8, 9, 10, 11, 12, 13, 14, 15, 16, 17, 18, 19, 20, 21, 22], false, 4, 4⟩,
 ⟨⟨some 8, none, .prim (.mov (.tmp 99))⟩, [0, 1, 2, 3, 4, 5, 6, 7, 8, 9, 10, 11, 12, 13, 14, 15, 16, 17, 18, 19, 20, 21, 22, 23], false, 4, 4⟩])
 .ret)))))))
def o9 : List Tmp := [9, 14]
def r9 : List RV := [.tmp 8]
theorem t9 : Text Try.prog 9 o9 c9 r9 100 := ⟨⟨Try.f9, _, by kernel_rfl, by kernel_rfl, rfl, by kernel_rfl, by kernel_rfl, rfl⟩, by kernel_rfl⟩
end Go.Proofs.Ytoadgajhkhejiaa
namespace Go.Proofs.Ytoadgajhkhejiaa
open Go Go.Ab Rex
set_option maxRecDepth 100000
def After (w : ByteArray) (x : Rex) : Prop := ∀ (σ : St) (S : List Bool), S.length = w.size + 1 → Ans Try.prog 121 [x.av, Sx w, bv S] σ (bv (daft w x S)) σ
end Go.Proofs.Ytoadgajhkhejiaa
namespace Go.Proofs.Ytoadgajhkhejiaa
open Go Go.Ab
set_option maxRecDepth 100000
open Rex
abbrev dob (s : ByteArray) (a d : Nat) (b : Bool) : Ob := .box [Sx s, I a, I d, Bo b]
section
variable (σ : St) (p : Nat) (s : ByteArray) (a d : Nat)
end
end Go.Proofs.Ytoadgajhkhejiaa
namespace Go.Proofs.Ytoadgajhkhejiaa
open Go Go.Ab
set_option maxRecDepth 100000
open Rex
abbrev DF := Nat → Rex × Nat × Nat × Bool
def DAns (f : FuncId) (g : Bool) (s : ByteArray) (d : Nat) (F : DF) : Prop :=
  ∀ (σ : St) (p a : Nat), p < σ.length → s.size ≤ 40 → (g = true → a < s.size) →
    Ans Try.prog f [.ptr p 0] (σ.set p (dob s a d false)) (F a).1.rv (σ.set p (dob s (F a).2.1 (F a).2.2.1 (F a).2.2.2))
section
variable {σ : St} {p : Nat} {s : ByteArray}
theorem DAns.ex {f : FuncId} {g : Bool} {d : Nat} {F : DF} (h : DAns f g s d F) (hp : p < σ.length) (a : Nat) (hs : s.size ≤ 40) (hg : g = true → a < s.size) (ex : St) :
    Ans Try.prog f [.ptr p 0] (σ.set p (dob s a d false) ++ ex) (F a).1.rv (σ.set p (dob s (F a).2.1 (F a).2.2.1 (F a).2.2.2) ++ ex) := by
  have := h (σ.set p (dob s a d false) ++ ex) p a (by simp; omega) hs hg
  rwa [sA hp, sA hp] at this
end
section
variable (s : ByteArray)
end
end Go.Proofs.Ytoadgajhkhejiaa
namespace Go.Proofs.Ytoadgajhkhejiaa
open Go Go.Ab Rex
set_option maxRecDepth 100000
theorem getlab_ans (σ : St) (L : List Lab) (nm : ByteArray) (hl : L.length ≤ 1000) : Ans Try.prog 35 [.sl 2 (lvs L), Sx nm] σ (Sx (getL L nm)) σ := by
  refine Ans.of_run t35 ?_
  simp -implicitDefEqProofs only [c35, r35, go_sem, List.reduceReplicate, Nat.reduceAdd, Nat.reduceSub, Nat.reduceLT, Nat.reduceLeDiff, Nat.reduceMul, Nat.reduceEqDiff, reduceCtorEq, Int.reduceLE, Int.reduceLT, Int.reduceEq, Int.reduceNe, Int.reduceBEq, Int.reduceBNe, Int.reduceAdd, Int.reduceSub]
  generalize hres : getL L nm = res
  refine Go.Ab.L.intro (α := { i : Nat // i ≤ L.length ∧ getL (L.drop i) nm = res }) (fun x => L.length - x.1) (fun x => mkE 24 [(0, .sl 2 (lvs L)), (1, Sx nm), (5, I x.1)]) (fun _ => σ)
    (fun x J hJ => ?_) ⟨0, Nat.zero_le _, hres⟩ rfl rfl
  obtain ⟨i, h1, h2⟩ := x
  simp only at hJ ⊢
  by_cases hi : i < L.length
  · have hx := lvs_get L i hi
    rw [List.drop_eq_getElem_cons hi, getL] at h2
    generalize L[i] = y at hx h2
    obtain ⟨a, b⟩ := y
    simp only [lv] at hx
    have hin := wrap_nat (n := i) (by omega)
    cases hb : (a.toList == nm.toList) with
    | true =>
      rw [hb, if_pos rfl] at h2
      subst h2
      simp -implicitDefEqProofs only [mkE, List.foldl_cons, List.foldl_nil, go_sem, List.reduceReplicate, Nat.reduceAdd, Nat.reduceSub, Nat.reduceLT, Nat.reduceLeDiff, Nat.reduceMul, Nat.reduceEqDiff, reduceCtorEq, Int.reduceLE, Int.reduceLT, Int.reduceEq, Int.reduceNe, Int.reduceBEq, Int.reduceBNe, Int.reduceAdd, Int.reduceSub, lvs_len, nat_lt hi, dec_lt hi, hx, hb]
      exact Fini.ret rfl
    | false =>
      rw [hb, if_neg Bool.false_ne_true] at h2
      simp -implicitDefEqProofs only [mkE, List.foldl_cons, List.foldl_nil, go_sem, List.reduceReplicate, Nat.reduceAdd, Nat.reduceSub, Nat.reduceLT, Nat.reduceLeDiff, Nat.reduceMul, Nat.reduceEqDiff, reduceCtorEq, Int.reduceLE, Int.reduceLT, Int.reduceEq, Int.reduceNe, Int.reduceBEq, Int.reduceBNe, Int.reduceAdd, Int.reduceSub, lvs_len, nat_lt hi, dec_lt hi, hx, hb, hin]
      exact hJ ⟨i + 1, hi, h2⟩ (by simp only; omega)
  · rw [List.drop_eq_nil_iff.2 (by omega), getL] at h2
    subst h2
    simp -implicitDefEqProofs only [mkE, List.foldl_cons, List.foldl_nil, go_sem, List.reduceReplicate, Nat.reduceAdd, Nat.reduceSub, Nat.reduceLT, Nat.reduceLeDiff, Nat.reduceMul, Nat.reduceEqDiff, reduceCtorEq, Int.reduceLE, Int.reduceLT, Int.reduceEq, Int.reduceNe, Int.reduceBEq, Int.reduceBNe, Int.reduceAdd, Int.reduceSub, lvs_len, nat_nlt hi, dec_nlt hi]
    exact Fini.ret rfl
end Go.Proofs.Ytoadgajhkhejiaa
namespace Go.Proofs.Ytoadgajhkhejiaa
open Go Go.Ab
set_option maxRecDepth 100000
theorem mvs3_get (M : List Mtr) (i : Nat) (h : i < M.length) : (mvs3 M)[i]? = some (mv3 M[i]) := by simp [mvs3, h]
theorem mvs3_len (M : List Mtr) : (mvs3 M).length = M.length := List.length_map ..
abbrev noM3 : Mtr := (0, ⟨#[]⟩, ⟨#[]⟩)
def isM (x : Mtr) : Bool := isB x.1 x.2.1 x.2.2
def okL (M : List Mtr) (i : Nat) : Bool := isM (M.getD i noM3) && (i == 0 || aheadD (M.getD (i - 1) noM3) (M.getD i noM3))
def listB (M : List Mtr) : Bool := decide (M.length ≤ 5) && (List.range M.length).all (okL M)
theorem mget_D (M : List Mtr) (i : Nat) (h : i < M.length) : (mvs3 M)[i]? = some (mv3 (M.getD i noM3)) := by
  rw [mvs3_get M i h, List.getD_eq_getElem?_getD, List.getElem?_eq_getElem h]; rfl
end Go.Proofs.Ytoadgajhkhejiaa
