/- The document's parser of patterns: ways, and the whole. No condition. -/
import Derived.Test.YtoadgajhkhejiaaPDoc3
import Derived.Test.YtoadgajhkhejiaaPDoc1
import Derived.Test.YtoadgajhkhejiaaPPar5
import Derived.Test.YtoadgajhkhejiaaCmp
import Derived.Test.YtoadgajhkhejiaaPTree2
set_option linter.unusedSimpArgs false
set_option linter.unusedVariables false
namespace Go.Proofs.Ytoadgajhkhejiaa
open Go Go.Ab
set_option maxRecDepth 100000
open Rex
def dwayL (s : ByteArray) (F : DF) : Nat → List Rex → Nat → Nat → Bool → List Rex × Nat × Nat × Bool
  | 0, K, a, d, b => (K, a, d, b)
  | n + 1, K, a, d, b => if wGo s a b then dwayL s F n (K ++ [(F a).1]) (F a).2.1 (F a).2.2.1 (F a).2.2.2 else (K, a, d, b)
def dway (s : ByteArray) (F : DF) (d : Nat) : DF := fun a =>
  (one 2 (dwayL s F (s.size + 1) [] a d false).1, (dwayL s F (s.size + 1) [] a d false).2)
def dwaysL (s : ByteArray) (F : DF) : Nat → List Rex → Nat → Nat → Bool → List Rex × Nat × Nat × Bool
  | 0, K, a, d, b => (K, a, d, b)
  | n + 1, K, a, d, b => if sees s a b 124 then dwaysL s F n (K ++ [(F (a + 1)).1]) (F (a + 1)).2.1 (F (a + 1)).2.2.1 (F (a + 1)).2.2.2 else (K, a, d, b)
def dways (s : ByteArray) (F : DF) : DF := fun a =>
  (one 3 (dwaysL s F (s.size + 1) [(F a).1] (F a).2.1 (F a).2.2.1 (F a).2.2.2).1, (dwaysL s F (s.size + 1) [(F a).1] (F a).2.1 (F a).2.2.1 (F a).2.2.2).2)
def dlvl (s : ByteArray) (W : DF) (d : Nat) : DF := dways s (dway s (dfactor s (datom s W d)) d)
def DW (s : ByteArray) : Nat → DF
  | 0 => dlvl s (fun a => (zeroR, a, 0, false)) 8
  | k + 1 => dlvl s (DW s k) (7 - k)
def dparse (s : ByteArray) : Rex × Bool :=
  if decide (40 < s.size) then (zeroR, false)
  else if (DW s 8 0).2.2.2 || decide ((DW s 8 0).2.1 < s.size) then (zeroR, false) else ((DW s 8 0).1, true)
structure DOK (g : Nat) (d : Nat) (F : DF) : Prop where
  ge : ∀ a, a + g ≤ (F a).2.1
  deep : ∀ a, (F a).2.2.2 = false → (F a).2.2.1 = d
theorem dclassL_ge (s : ByteArray) : ∀ (k : Nat) (S : List Int) (a : Nat) (b : Bool) (n : Nat), a ≤ (dclassL s k S a b n).2.1
  | 0, S, a, b, n => Nat.le_refl _
  | k + 1, S, a, b, n => by
    rw [dclassL]; split
    · exact Nat.le_trans (Nat.le_trans (dmember_ge s a) (dTo_ge s a)) (dclassL_ge s k _ _ _ _)
    · exact Nat.le_refl _
theorem dclass_ge (s : ByteArray) (a : Nat) : a ≤ (dclass s a).2.1 := by
  have h := Nat.le_trans (nextA_ge s a false 94) (dclassL_ge s (s.size + 3) z4 (nextA s a false 94) false 0)
  unfold dclass dOut
  split
  · exact h
  · exact Nat.le_succ_of_le h
theorem dok_atom (s : ByteArray) {F : DF} {d : Nat} (h : ∀ a, a ≤ (F a).2.1) : DOK 1 d (datom s F d) := by
  constructor
  · intro a
    have h1 := h (a + 1)
    have h2 := dclass_ge s (a + 1)
    unfold datom
    simp only
    repeat' split
    all_goals simp only
    all_goals omega
  · intro a
    unfold datom
    simp only
    repeat' split
    all_goals simp
theorem dfactor_cases (s : ByteArray) (F : DF) (a : Nat) : (dfactor s F a).2.2 = (F a).2.2 ∧ (F a).2.1 ≤ (dfactor s F a).2.1 := by
  unfold dfactor
  simp only
  repeat' split
  all_goals exact ⟨rfl, by simp⟩
theorem dok_factor (s : ByteArray) {F : DF} {d : Nat} (h : DOK 1 d F) : DOK 1 d (dfactor s F) := by
  constructor
  · intro a
    exact Nat.le_trans (h.ge a) (dfactor_cases s F a).2
  · intro a
    rw [(dfactor_cases s F a).1]
    exact h.deep a
theorem dwayL_ok (s : ByteArray) {F : DF} {d : Nat} (h : DOK 1 d F) : ∀ n K a d0 b, a ≤ (dwayL s F n K a d0 b).2.1 ∧ ((b = false → d0 = d) → (dwayL s F n K a d0 b).2.2.2 = false → (dwayL s F n K a d0 b).2.2.1 = d)
  | 0, K, a, d0, b => ⟨Nat.le_refl _, fun h1 h2 => h1 h2⟩
  | n + 1, K, a, d0, b => by
    rw [dwayL]; split
    · have h1 := dwayL_ok s h n (K ++ [(F a).1]) (F a).2.1 (F a).2.2.1 (F a).2.2.2
      exact ⟨Nat.le_trans (Nat.le_trans (Nat.le_succ a) (h.ge a)) h1.1, fun _ h2 => h1.2 (h.deep a) h2⟩
    · exact ⟨Nat.le_refl _, fun h1 h2 => h1 h2⟩
theorem dok_way (s : ByteArray) {F : DF} {d : Nat} (h : DOK 1 d F) : DOK 0 d (dway s F d) :=
  ⟨fun a => (dwayL_ok s h (s.size + 1) [] a d false).1, fun a => (dwayL_ok s h (s.size + 1) [] a d false).2 (fun _ => rfl)⟩
theorem dwaysL_ok (s : ByteArray) {F : DF} {d : Nat} (h : DOK 0 d F) : ∀ n K a d0 b, a ≤ (dwaysL s F n K a d0 b).2.1 ∧ ((b = false → d0 = d) → (dwaysL s F n K a d0 b).2.2.2 = false → (dwaysL s F n K a d0 b).2.2.1 = d)
  | 0, K, a, d0, b => ⟨Nat.le_refl _, fun h1 h2 => h1 h2⟩
  | n + 1, K, a, d0, b => by
    rw [dwaysL]; split
    · have h1 := dwaysL_ok s h n (K ++ [(F (a + 1)).1]) (F (a + 1)).2.1 (F (a + 1)).2.2.1 (F (a + 1)).2.2.2
      exact ⟨Nat.le_trans (Nat.le_trans (Nat.le_succ a) (h.ge (a + 1))) h1.1, fun _ h2 => h1.2 (h.deep (a + 1)) h2⟩
    · exact ⟨Nat.le_refl _, fun h1 h2 => h1 h2⟩
theorem dok_ways (s : ByteArray) {F : DF} {d : Nat} (h : DOK 0 d F) : DOK 0 d (dways s F) := by
  constructor
  · intro a
    exact Nat.le_trans (h.ge a) (dwaysL_ok s h (s.size + 1) [(F a).1] (F a).2.1 (F a).2.2.1 (F a).2.2.2).1
  · intro a
    exact (dwaysL_ok s h (s.size + 1) [(F a).1] (F a).2.1 (F a).2.2.1 (F a).2.2.2).2 (h.deep a)
theorem dok_lvl (s : ByteArray) {W : DF} (h : ∀ a, a ≤ (W a).2.1) (d : Nat) : DOK 0 d (dlvl s W d) := dok_ways s (dok_way s (dok_factor s (dok_atom s h)))
theorem dok_DW (s : ByteArray) : ∀ k, DOK 0 (8 - k) (DW s k)
  | 0 => dok_lvl s (fun a => Nat.le_refl _) 8
  | k + 1 => by
    have := dok_lvl s (dok_DW s k).ge (7 - k)
    rw [show 8 - (k + 1) = 7 - k by omega]
    exact this
section
variable (s : ByteArray)
theorem dway_ans (F : DF) (d : Nat) (hF : DAns 135 true s d F) (hok : DOK 1 d F) : DAns 119 false s d (dway s F d) := by
  intro σ p a hp hs _
  refine Ans.of_run' t119 (fun hbel _ => ?_)
  have hb2 := bel_dat hbel
  simp -implicitDefEqProofs only [c119, r119, go_sem, List.reduceReplicate, Nat.reduceAdd, Nat.reduceSub, Nat.reduceLT, Nat.reduceLeDiff, Nat.reduceMul, Nat.reduceEqDiff, reduceCtorEq, Int.reduceLE, Int.reduceLT, Int.reduceEq, Int.reduceNe, Int.reduceBEq, Int.reduceBNe, Int.reduceAdd, Int.reduceSub, List.append_assoc, List.length_append, List.length_set]
  unfold dway
  simp only
  have hm : s.size - a < s.size + 1 := by omega
  generalize hres : dwayL s F (s.size + 1) [] a d false = res
  refine L.intro (α := { x : Nat × List Rex × Nat × Nat × Bool // dwayL s F x.1 x.2.1 x.2.2.1 x.2.2.2.1 x.2.2.2.2 = res ∧ s.size - x.2.2.1 < x.1 ∧ (x.2.2.2.2 = false → x.2.2.2.1 = d) ∧ x.2.1.length ≤ x.2.2.1 })
    (fun x => x.1.1)
    (fun x => mkE 43 [(0, .ptr p 0), (2, .ptr σ.length 0), (3, vK σ.length x.1.2.1)])
    (fun x => σ.set p (dob s x.1.2.2.1 x.1.2.2.2.1 x.1.2.2.2.2) ++ exK x.1.2.1)
    (fun x J hJ => ?_) ⟨(s.size + 1, [], a, d, false), hres, hm, fun _ => rfl, Nat.zero_le _⟩ ?_ ?_
  · obtain ⟨⟨n, K, a1, d1, b1⟩, h1, h2, h3, h4⟩ := x
    simp only at h1 h2 h3 h4 hJ ⊢
    cases n with
    | zero => omega
    | succ n =>
    rw [dwayL] at h1
    have k124 : (((byteAt s a1 : Nat) : Int) == 124) = (byteAt s a1 == 124) := beq_cast _ 124
    have n124 : (((byteAt s a1 : Nat) : Int) != 124) = !(byteAt s a1 == 124) := by rw [bne, k124]
    have k41 : (((byteAt s a1 : Nat) : Int) == 41) = (byteAt s a1 == 41) := beq_cast _ 41
    have n41 : (((byteAt s a1 : Nat) : Int) != 41) = !(byteAt s a1 == 41) := by rw [bne, k41]
    cases hgo : wGo s a1 b1 with
    | true =>
      rw [hgo, if_pos rfl] at h1
      obtain ⟨ha, hb⟩ := wGo_lt hgo
      subst hb
      have hd1 := h3 rfl
      subst hd1
      have hov : over s a1 false = false := by simp [wGo] at hgo; exact hgo.1
      have hs1 : (byteAt s a1 == 124) = false := by rw [← sees_byte hov]; simp [wGo] at hgo; exact hgo.2.1
      have hs2 : (byteAt s a1 == 41) = false := by rw [← sees_byte hov]; simp [wGo] at hgo; exact hgo.2.2
      have ha' : (a1 : Int) < s.size := by omega
      have hea := hok.ge a1
      have hJ' := hJ ⟨(n, K ++ [(F a1).1], (F a1).2.1, (F a1).2.2.1, (F a1).2.2.2), h1, by simp only; omega, hok.deep a1, by simp; omega⟩ (Nat.lt_succ_self n)
      simp only [exK_snoc, vK_snoc] at hJ'
      clear hJ h1 hgo
      simp -implicitDefEqProofs only [mkE, List.foldl_cons, List.foldl_nil, go_sem, List.reduceReplicate, Nat.reduceAdd, Nat.reduceSub, Nat.reduceLT, Nat.reduceLeDiff, Nat.reduceMul, Nat.reduceEqDiff, reduceCtorEq, Int.reduceLE, Int.reduceLT, Int.reduceEq, Int.reduceNe, Int.reduceBEq, Int.reduceBNe, Int.reduceAdd, Int.reduceSub]
      refine CD.intro (more_ex hp a1 d1 false _) ?_
      simp -implicitDefEqProofs only [go_sem, List.reduceReplicate, Nat.reduceAdd, Nat.reduceSub, Nat.reduceLT, Nat.reduceLeDiff, Nat.reduceMul, Nat.reduceEqDiff, reduceCtorEq, Int.reduceLE, Int.reduceLT, Int.reduceEq, Int.reduceNe, Int.reduceBEq, Int.reduceBNe, Int.reduceAdd, Int.reduceSub, hov, gA hp, sA hp, gL0, sL0, gL1, sL1, ha', byteAt_def, k124, n124, hs1, k41, n41, hs2]
      refine CO.intro (hF.ex hp a1 hs (fun _ => ha) _) ?_
      generalize F a1 = w at hJ' hea ⊢
      obtain ⟨x, a2, d2, b2⟩ := w
      simp only at hJ' hea ⊢
      rw [rv_eq x] at hJ' ⊢
      rcases K with _ | ⟨y, K⟩
      all_goals rcases rvK_cases x.ks with hK | ⟨l, hK⟩
      all_goals rw [hK] at hJ' ⊢
      all_goals first
      | (simp -implicitDefEqProofs only [go_sem, List.reduceReplicate, Nat.reduceAdd, Nat.reduceSub, Nat.reduceLT, Nat.reduceLeDiff, Nat.reduceMul, Nat.reduceEqDiff, reduceCtorEq, Int.reduceLE, Int.reduceLT, Int.reduceEq, Int.reduceNe, Int.reduceBEq, Int.reduceBNe, Int.reduceAdd, Int.reduceSub, exK_nil, vK_nil, gA hp, sA hp, gL0, sL0, gL1, sL1] at hJ' ⊢
         simpa [mkE] using hJ')
      | (have g1 : (K.length + 1 + 1 ≤ 2 ^ 32) = True := by simp at h4; simp; omega
         simp -implicitDefEqProofs only [go_sem, List.reduceReplicate, Nat.reduceAdd, Nat.reduceSub, Nat.reduceLT, Nat.reduceLeDiff, Nat.reduceMul, Nat.reduceEqDiff, reduceCtorEq, Int.reduceLE, Int.reduceLT, Int.reduceEq, Int.reduceNe, Int.reduceBEq, Int.reduceBNe, Int.reduceAdd, Int.reduceSub, exK_cons, vK_cons, gA hp, sA hp, gL0, sL0, gL1, sL1, List.length_map, g1] at hJ' ⊢
         simpa [mkE] using hJ')
    | false =>
      rw [hgo, if_neg Bool.false_ne_true] at h1
      subst h1
      clear hJ h2
      have hex : over s a1 b1 = true ∨ (over s a1 b1 = false ∧ b1 = false ∧ (byteAt s a1 == 124) = true) ∨ (over s a1 b1 = false ∧ b1 = false ∧ (byteAt s a1 == 124) = false ∧ (byteAt s a1 == 41) = true) := by
        cases h1 : over s a1 b1
        · have hb : b1 = false := by cases b1 <;> simp [over] at h1 ⊢
          subst hb
          unfold wGo at hgo
          rw [sees_byte h1, sees_byte h1, h1] at hgo
          cases h2 : byteAt s a1 == 124 <;> cases h3 : byteAt s a1 == 41 <;> simp [h2, h3] at hgo ⊢
        · exact .inl rfl
      have hend : True := trivial
      rcases hex with ho | ⟨ho, hb, h5⟩ | ⟨ho, hb, h5, h6⟩
      · simp -implicitDefEqProofs only [mkE, List.foldl_cons, List.foldl_nil, go_sem, List.reduceReplicate, Nat.reduceAdd, Nat.reduceSub, Nat.reduceLT, Nat.reduceLeDiff, Nat.reduceMul, Nat.reduceEqDiff, reduceCtorEq, Int.reduceLE, Int.reduceLT, Int.reduceEq, Int.reduceNe, Int.reduceBEq, Int.reduceBNe, Int.reduceAdd, Int.reduceSub]
        refine CD.intro (more_ex hp a1 d1 b1 _) ?_
        simp -implicitDefEqProofs only [go_sem, List.reduceReplicate, Nat.reduceAdd, Nat.reduceSub, Nat.reduceLT, Nat.reduceLeDiff, Nat.reduceMul, Nat.reduceEqDiff, reduceCtorEq, Int.reduceLE, Int.reduceLT, Int.reduceEq, Int.reduceNe, Int.reduceBEq, Int.reduceBNe, Int.reduceAdd, Int.reduceSub, ho]
        rcases K with _ | ⟨y, _ | ⟨z, K⟩⟩
        · simp -implicitDefEqProofs only [go_sem, List.reduceReplicate, Nat.reduceAdd, Nat.reduceSub, Nat.reduceLT, Nat.reduceLeDiff, Nat.reduceMul, Nat.reduceEqDiff, reduceCtorEq, Int.reduceLE, Int.reduceLT, Int.reduceEq, Int.reduceNe, Int.reduceBEq, Int.reduceBNe, Int.reduceAdd, Int.reduceSub, exK_nil, vK_nil, gA hp, sA hp, gL0, sL0, gL1, sL1]
          refine Fini.trim2 (ex := [_]) ?_ rfl ?_ (bel_rv _ _) (hb2 _ _ _)
          · ((try simp -implicitDefEqProofs only [go_sem, List.reduceReplicate, Nat.reduceAdd, Nat.reduceSub, Nat.reduceLT, Nat.reduceLeDiff, Nat.reduceMul, Nat.reduceEqDiff, reduceCtorEq, Int.reduceLE, Int.reduceLT, Int.reduceEq, Int.reduceNe, Int.reduceBEq, Int.reduceBNe, Int.reduceAdd, Int.reduceSub, resA, allSome, rvA, oneOf, gL0]); first | done | rfl | (rw [rv_one]; rfl) | rw [rv_eq, hK])
          · simp
        · have g3 : (((1 : Nat) : Int) == 1) = true := rfl
          have g4 : ((0 : Int) < ((1 : Nat) : Int)) = True := by simp
          have hbx : ∀ n, Bel n y.rv := fun n => bel_rv n y
          rw [exK_cons, vK_cons, List.map_cons, List.map_nil, show (one 2 [y]) = y from rfl]
          rw [rv_eq y] at hbx ⊢
          rcases rvK_cases y.ks with hK | ⟨l, hK⟩
          all_goals rw [hK] at hbx ⊢
          all_goals simp -implicitDefEqProofs only [go_sem, List.reduceReplicate, Nat.reduceAdd, Nat.reduceSub, Nat.reduceLT, Nat.reduceLeDiff, Nat.reduceMul, Nat.reduceEqDiff, reduceCtorEq, Int.reduceLE, Int.reduceLT, Int.reduceEq, Int.reduceNe, Int.reduceBEq, Int.reduceBNe, Int.reduceAdd, Int.reduceSub, gA hp, sA hp, gL0, sL0, gL1, sL1, List.length_map, g3, g4, Int.toNat_zero]
          all_goals (
            refine Fini.trim2 (ex := [_, _]) ?_ rfl ?_ (hbx _) (hb2 _ _ _)
            · ((try simp -implicitDefEqProofs only [go_sem, List.reduceReplicate, Nat.reduceAdd, Nat.reduceSub, Nat.reduceLT, Nat.reduceLeDiff, Nat.reduceMul, Nat.reduceEqDiff, reduceCtorEq, Int.reduceLE, Int.reduceLT, Int.reduceEq, Int.reduceNe, Int.reduceBEq, Int.reduceBNe, Int.reduceAdd, Int.reduceSub, resA, allSome, rvA, oneOf, gL0]); first | done | rfl | (rw [rv_one]; rfl) | rw [rv_eq, hK])
            · simp)
        · rw [exK_cons, vK_cons]
          have g2 : (((K.length + 1 + 1 : Nat) : Int) == 1) = false := by simp; omega
          simp -implicitDefEqProofs only [go_sem, List.reduceReplicate, Nat.reduceAdd, Nat.reduceSub, Nat.reduceLT, Nat.reduceLeDiff, Nat.reduceMul, Nat.reduceEqDiff, reduceCtorEq, Int.reduceLE, Int.reduceLT, Int.reduceEq, Int.reduceNe, Int.reduceBEq, Int.reduceBNe, Int.reduceAdd, Int.reduceSub, gA hp, sA hp, gL0, sL0, gL1, sL1, List.length_map, g2]
          refine Fini.trim2 (ex := [_, _]) ?_ rfl ?_ (bel_rv _ _) (hb2 _ _ _)
          · ((try simp -implicitDefEqProofs only [go_sem, List.reduceReplicate, Nat.reduceAdd, Nat.reduceSub, Nat.reduceLT, Nat.reduceLeDiff, Nat.reduceMul, Nat.reduceEqDiff, reduceCtorEq, Int.reduceLE, Int.reduceLT, Int.reduceEq, Int.reduceNe, Int.reduceBEq, Int.reduceBNe, Int.reduceAdd, Int.reduceSub, resA, allSome, rvA, oneOf, gL0]); first | done | rfl | (rw [rv_one]; rfl) | rw [rv_eq, hK])
          · simp
      · subst hb
        have hlt := over_lt ho
        have ha' : (a1 : Int) < s.size := by omega
        simp -implicitDefEqProofs only [mkE, List.foldl_cons, List.foldl_nil, go_sem, List.reduceReplicate, Nat.reduceAdd, Nat.reduceSub, Nat.reduceLT, Nat.reduceLeDiff, Nat.reduceMul, Nat.reduceEqDiff, reduceCtorEq, Int.reduceLE, Int.reduceLT, Int.reduceEq, Int.reduceNe, Int.reduceBEq, Int.reduceBNe, Int.reduceAdd, Int.reduceSub]
        refine CD.intro (more_ex hp a1 d1 false _) ?_
        simp -implicitDefEqProofs only [go_sem, List.reduceReplicate, Nat.reduceAdd, Nat.reduceSub, Nat.reduceLT, Nat.reduceLeDiff, Nat.reduceMul, Nat.reduceEqDiff, reduceCtorEq, Int.reduceLE, Int.reduceLT, Int.reduceEq, Int.reduceNe, Int.reduceBEq, Int.reduceBNe, Int.reduceAdd, Int.reduceSub, ho, gA hp, sA hp, gL0, sL0, gL1, sL1, ha', byteAt_def, k124, n124, h5]
        rcases K with _ | ⟨y, _ | ⟨z, K⟩⟩
        · simp -implicitDefEqProofs only [go_sem, List.reduceReplicate, Nat.reduceAdd, Nat.reduceSub, Nat.reduceLT, Nat.reduceLeDiff, Nat.reduceMul, Nat.reduceEqDiff, reduceCtorEq, Int.reduceLE, Int.reduceLT, Int.reduceEq, Int.reduceNe, Int.reduceBEq, Int.reduceBNe, Int.reduceAdd, Int.reduceSub, exK_nil, vK_nil, gA hp, sA hp, gL0, sL0, gL1, sL1]
          refine Fini.trim2 (ex := [_]) ?_ rfl ?_ (bel_rv _ _) (hb2 _ _ _)
          · ((try simp -implicitDefEqProofs only [go_sem, List.reduceReplicate, Nat.reduceAdd, Nat.reduceSub, Nat.reduceLT, Nat.reduceLeDiff, Nat.reduceMul, Nat.reduceEqDiff, reduceCtorEq, Int.reduceLE, Int.reduceLT, Int.reduceEq, Int.reduceNe, Int.reduceBEq, Int.reduceBNe, Int.reduceAdd, Int.reduceSub, resA, allSome, rvA, oneOf, gL0]); first | done | rfl | (rw [rv_one]; rfl) | rw [rv_eq, hK])
          · simp
        · have g3 : (((1 : Nat) : Int) == 1) = true := rfl
          have g4 : ((0 : Int) < ((1 : Nat) : Int)) = True := by simp
          have hbx : ∀ n, Bel n y.rv := fun n => bel_rv n y
          rw [exK_cons, vK_cons, List.map_cons, List.map_nil, show (one 2 [y]) = y from rfl]
          rw [rv_eq y] at hbx ⊢
          rcases rvK_cases y.ks with hK | ⟨l, hK⟩
          all_goals rw [hK] at hbx ⊢
          all_goals simp -implicitDefEqProofs only [go_sem, List.reduceReplicate, Nat.reduceAdd, Nat.reduceSub, Nat.reduceLT, Nat.reduceLeDiff, Nat.reduceMul, Nat.reduceEqDiff, reduceCtorEq, Int.reduceLE, Int.reduceLT, Int.reduceEq, Int.reduceNe, Int.reduceBEq, Int.reduceBNe, Int.reduceAdd, Int.reduceSub, gA hp, sA hp, gL0, sL0, gL1, sL1, List.length_map, g3, g4, Int.toNat_zero]
          all_goals (
            refine Fini.trim2 (ex := [_, _]) ?_ rfl ?_ (hbx _) (hb2 _ _ _)
            · ((try simp -implicitDefEqProofs only [go_sem, List.reduceReplicate, Nat.reduceAdd, Nat.reduceSub, Nat.reduceLT, Nat.reduceLeDiff, Nat.reduceMul, Nat.reduceEqDiff, reduceCtorEq, Int.reduceLE, Int.reduceLT, Int.reduceEq, Int.reduceNe, Int.reduceBEq, Int.reduceBNe, Int.reduceAdd, Int.reduceSub, resA, allSome, rvA, oneOf, gL0]); first | done | rfl | (rw [rv_one]; rfl) | rw [rv_eq, hK])
            · simp)
        · rw [exK_cons, vK_cons]
          have g2 : (((K.length + 1 + 1 : Nat) : Int) == 1) = false := by simp; omega
          simp -implicitDefEqProofs only [go_sem, List.reduceReplicate, Nat.reduceAdd, Nat.reduceSub, Nat.reduceLT, Nat.reduceLeDiff, Nat.reduceMul, Nat.reduceEqDiff, reduceCtorEq, Int.reduceLE, Int.reduceLT, Int.reduceEq, Int.reduceNe, Int.reduceBEq, Int.reduceBNe, Int.reduceAdd, Int.reduceSub, gA hp, sA hp, gL0, sL0, gL1, sL1, List.length_map, g2]
          refine Fini.trim2 (ex := [_, _]) ?_ rfl ?_ (bel_rv _ _) (hb2 _ _ _)
          · ((try simp -implicitDefEqProofs only [go_sem, List.reduceReplicate, Nat.reduceAdd, Nat.reduceSub, Nat.reduceLT, Nat.reduceLeDiff, Nat.reduceMul, Nat.reduceEqDiff, reduceCtorEq, Int.reduceLE, Int.reduceLT, Int.reduceEq, Int.reduceNe, Int.reduceBEq, Int.reduceBNe, Int.reduceAdd, Int.reduceSub, resA, allSome, rvA, oneOf, gL0]); first | done | rfl | (rw [rv_one]; rfl) | rw [rv_eq, hK])
          · simp
      · subst hb
        have hlt := over_lt ho
        have ha' : (a1 : Int) < s.size := by omega
        simp -implicitDefEqProofs only [mkE, List.foldl_cons, List.foldl_nil, go_sem, List.reduceReplicate, Nat.reduceAdd, Nat.reduceSub, Nat.reduceLT, Nat.reduceLeDiff, Nat.reduceMul, Nat.reduceEqDiff, reduceCtorEq, Int.reduceLE, Int.reduceLT, Int.reduceEq, Int.reduceNe, Int.reduceBEq, Int.reduceBNe, Int.reduceAdd, Int.reduceSub]
        refine CD.intro (more_ex hp a1 d1 false _) ?_
        simp -implicitDefEqProofs only [go_sem, List.reduceReplicate, Nat.reduceAdd, Nat.reduceSub, Nat.reduceLT, Nat.reduceLeDiff, Nat.reduceMul, Nat.reduceEqDiff, reduceCtorEq, Int.reduceLE, Int.reduceLT, Int.reduceEq, Int.reduceNe, Int.reduceBEq, Int.reduceBNe, Int.reduceAdd, Int.reduceSub, ho, gA hp, sA hp, gL0, sL0, gL1, sL1, ha', byteAt_def, k124, n124, h5, k41, n41, h6]
        rcases K with _ | ⟨y, _ | ⟨z, K⟩⟩
        · simp -implicitDefEqProofs only [go_sem, List.reduceReplicate, Nat.reduceAdd, Nat.reduceSub, Nat.reduceLT, Nat.reduceLeDiff, Nat.reduceMul, Nat.reduceEqDiff, reduceCtorEq, Int.reduceLE, Int.reduceLT, Int.reduceEq, Int.reduceNe, Int.reduceBEq, Int.reduceBNe, Int.reduceAdd, Int.reduceSub, exK_nil, vK_nil, gA hp, sA hp, gL0, sL0, gL1, sL1]
          refine Fini.trim2 (ex := [_]) ?_ rfl ?_ (bel_rv _ _) (hb2 _ _ _)
          · ((try simp -implicitDefEqProofs only [go_sem, List.reduceReplicate, Nat.reduceAdd, Nat.reduceSub, Nat.reduceLT, Nat.reduceLeDiff, Nat.reduceMul, Nat.reduceEqDiff, reduceCtorEq, Int.reduceLE, Int.reduceLT, Int.reduceEq, Int.reduceNe, Int.reduceBEq, Int.reduceBNe, Int.reduceAdd, Int.reduceSub, resA, allSome, rvA, oneOf, gL0]); first | done | rfl | (rw [rv_one]; rfl) | rw [rv_eq, hK])
          · simp
        · have g3 : (((1 : Nat) : Int) == 1) = true := rfl
          have g4 : ((0 : Int) < ((1 : Nat) : Int)) = True := by simp
          have hbx : ∀ n, Bel n y.rv := fun n => bel_rv n y
          rw [exK_cons, vK_cons, List.map_cons, List.map_nil, show (one 2 [y]) = y from rfl]
          rw [rv_eq y] at hbx ⊢
          rcases rvK_cases y.ks with hK | ⟨l, hK⟩
          all_goals rw [hK] at hbx ⊢
          all_goals simp -implicitDefEqProofs only [go_sem, List.reduceReplicate, Nat.reduceAdd, Nat.reduceSub, Nat.reduceLT, Nat.reduceLeDiff, Nat.reduceMul, Nat.reduceEqDiff, reduceCtorEq, Int.reduceLE, Int.reduceLT, Int.reduceEq, Int.reduceNe, Int.reduceBEq, Int.reduceBNe, Int.reduceAdd, Int.reduceSub, gA hp, sA hp, gL0, sL0, gL1, sL1, List.length_map, g3, g4, Int.toNat_zero]
          all_goals (
            refine Fini.trim2 (ex := [_, _]) ?_ rfl ?_ (hbx _) (hb2 _ _ _)
            · ((try simp -implicitDefEqProofs only [go_sem, List.reduceReplicate, Nat.reduceAdd, Nat.reduceSub, Nat.reduceLT, Nat.reduceLeDiff, Nat.reduceMul, Nat.reduceEqDiff, reduceCtorEq, Int.reduceLE, Int.reduceLT, Int.reduceEq, Int.reduceNe, Int.reduceBEq, Int.reduceBNe, Int.reduceAdd, Int.reduceSub, resA, allSome, rvA, oneOf, gL0]); first | done | rfl | (rw [rv_one]; rfl) | rw [rv_eq, hK])
            · simp)
        · rw [exK_cons, vK_cons]
          have g2 : (((K.length + 1 + 1 : Nat) : Int) == 1) = false := by simp; omega
          simp -implicitDefEqProofs only [go_sem, List.reduceReplicate, Nat.reduceAdd, Nat.reduceSub, Nat.reduceLT, Nat.reduceLeDiff, Nat.reduceMul, Nat.reduceEqDiff, reduceCtorEq, Int.reduceLE, Int.reduceLT, Int.reduceEq, Int.reduceNe, Int.reduceBEq, Int.reduceBNe, Int.reduceAdd, Int.reduceSub, gA hp, sA hp, gL0, sL0, gL1, sL1, List.length_map, g2]
          refine Fini.trim2 (ex := [_, _]) ?_ rfl ?_ (bel_rv _ _) (hb2 _ _ _)
          · ((try simp -implicitDefEqProofs only [go_sem, List.reduceReplicate, Nat.reduceAdd, Nat.reduceSub, Nat.reduceLT, Nat.reduceLeDiff, Nat.reduceMul, Nat.reduceEqDiff, reduceCtorEq, Int.reduceLE, Int.reduceLT, Int.reduceEq, Int.reduceNe, Int.reduceBEq, Int.reduceBNe, Int.reduceAdd, Int.reduceSub, resA, allSome, rvA, oneOf, gL0]); first | done | rfl | (rw [rv_one]; rfl) | rw [rv_eq, hK])
          · simp
  · simp [mkE, vK]
  · rfl
theorem dways_ans (F : DF) (d : Nat) (hF : DAns 119 false s d F) (hok : DOK 0 d F) : DAns 96 false s d (dways s F) := by
  intro σ p a hp hs hg
  refine Ans.of_run' t96 (fun hbel _ => ?_)
  have hb2 := bel_dat hbel
  simp -implicitDefEqProofs only [c96, r96, go_sem, List.reduceReplicate, Nat.reduceAdd, Nat.reduceSub, Nat.reduceLT, Nat.reduceLeDiff, Nat.reduceMul, Nat.reduceEqDiff, reduceCtorEq, Int.reduceLE, Int.reduceLT, Int.reduceEq, Int.reduceNe, Int.reduceBEq, Int.reduceBNe, Int.reduceAdd, Int.reduceSub, List.append_assoc, List.length_append, List.length_set]
  unfold dways
  simp only
  refine CO.intro (hF.ex hp a hs hg _) ?_
  have hd0 := hok.deep a
  generalize F a = w0 at hd0 ⊢
  obtain ⟨x0, a0, d0, b0⟩ := w0
  simp only at hd0 ⊢
  have hm : s.size - a0 < s.size + 1 := by omega
  generalize hres : dwaysL s F (s.size + 1) [x0] a0 d0 b0 = res
  rw [rv_eq x0]
  rcases rvK_cases x0.ks with hK0 | ⟨l0, hK0⟩
  all_goals rw [hK0]
  all_goals simp -implicitDefEqProofs only [go_sem, List.reduceReplicate, Nat.reduceAdd, Nat.reduceSub, Nat.reduceLT, Nat.reduceLeDiff, Nat.reduceMul, Nat.reduceEqDiff, reduceCtorEq, Int.reduceLE, Int.reduceLT, Int.reduceEq, Int.reduceNe, Int.reduceBEq, Int.reduceBNe, Int.reduceAdd, Int.reduceSub, gA hp, sA hp, gL0, sL0, gL1, sL1, List.append_assoc, List.length_append, List.length_set]
  all_goals (
    refine L.intro (α := { x : Nat × List Rex × Nat × Nat × Bool // dwaysL s F x.1 x.2.1 x.2.2.1 x.2.2.2.1 x.2.2.2.2 = res ∧ s.size - x.2.2.1 < x.1 ∧ (x.2.2.2.2 = false → x.2.2.2.1 = d) ∧ x.2.1.length ≤ x.2.2.1 + 1 ∧ x.2.1 ≠ [] })
      (fun x => x.1.1)
      (fun x => mkE 41 [(0, .ptr p 0), (2, .ptr σ.length 0), (3, vK σ.length x.1.2.1)])
      (fun x => σ.set p (dob s x.1.2.2.1 x.1.2.2.2.1 x.1.2.2.2.2) ++ exK x.1.2.1)
      (fun x J hJ => ?_) ⟨(s.size + 1, [x0], a0, d0, b0), hres, hm, hd0, by simp, by simp⟩ ?_ ?_)
  all_goals try (simp [mkE, vK]; done)
  all_goals try (simp only [exK_cons, List.map_cons, List.map_nil, rv_eq x0, hK0]; done)
  all_goals (
    obtain ⟨⟨n, K, a1, d1, b1⟩, h1, h2, h3, h4, h5⟩ := x
    simp only at h1 h2 h3 h4 h5 hJ ⊢
    rcases n with _ | n
    · omega
    rw [dwaysL] at h1
    have k124 : (((byteAt s a1 : Nat) : Int) == 124) = (byteAt s a1 == 124) := beq_cast _ 124
    have n124 : (((byteAt s a1 : Nat) : Int) != 124) = !(byteAt s a1 == 124) := by rw [bne, k124]
    cases hgo : sees s a1 b1 124
    · rw [hgo, if_neg Bool.false_ne_true] at h1
      subst h1
      clear hJ h2
      simp -implicitDefEqProofs only [mkE, List.foldl_cons, List.foldl_nil, go_sem, List.reduceReplicate, Nat.reduceAdd, Nat.reduceSub, Nat.reduceLT, Nat.reduceLeDiff, Nat.reduceMul, Nat.reduceEqDiff, reduceCtorEq, Int.reduceLE, Int.reduceLT, Int.reduceEq, Int.reduceNe, Int.reduceBEq, Int.reduceBNe, Int.reduceAdd, Int.reduceSub]
      refine CD.intro (more_ex hp a1 d1 b1 _) ?_
      cases ho : over s a1 b1
      · have hb : b1 = false := by cases b1 <;> simp [over] at ho ⊢
        subst hb
        have hlt := over_lt ho
        have ha' : (a1 : Int) < s.size := by omega
        rw [sees_byte ho] at hgo
        simp -implicitDefEqProofs only [go_sem, List.reduceReplicate, Nat.reduceAdd, Nat.reduceSub, Nat.reduceLT, Nat.reduceLeDiff, Nat.reduceMul, Nat.reduceEqDiff, reduceCtorEq, Int.reduceLE, Int.reduceLT, Int.reduceEq, Int.reduceNe, Int.reduceBEq, Int.reduceBNe, Int.reduceAdd, Int.reduceSub, ho, gA hp, sA hp, gL0, sL0, gL1, sL1, ha', byteAt_def, k124, n124, hgo]
        rcases K with _ | ⟨y, _ | ⟨z, K⟩⟩
        · exact absurd rfl h5
        · have g3 : (((1 : Nat) : Int) == 1) = true := rfl
          have g4 : ((0 : Int) < ((1 : Nat) : Int)) = True := by simp
          have hbx : ∀ n, Bel n y.rv := fun n => bel_rv n y
          rw [exK_cons, vK_cons, List.map_cons, List.map_nil, show (one 3 [y]) = y from rfl]
          rw [rv_eq y] at hbx ⊢
          rcases rvK_cases y.ks with hK | ⟨l, hK⟩
          all_goals rw [hK] at hbx ⊢
          all_goals simp -implicitDefEqProofs only [go_sem, List.reduceReplicate, Nat.reduceAdd, Nat.reduceSub, Nat.reduceLT, Nat.reduceLeDiff, Nat.reduceMul, Nat.reduceEqDiff, reduceCtorEq, Int.reduceLE, Int.reduceLT, Int.reduceEq, Int.reduceNe, Int.reduceBEq, Int.reduceBNe, Int.reduceAdd, Int.reduceSub, gA hp, sA hp, gL0, sL0, gL1, sL1, List.length_map, g3, g4, Int.toNat_zero]
          all_goals (
            refine Fini.trim2 (ex := [_, _]) ?_ rfl ?_ (hbx _) (hb2 _ _ _)
            · ((try simp -implicitDefEqProofs only [go_sem, List.reduceReplicate, Nat.reduceAdd, Nat.reduceSub, Nat.reduceLT, Nat.reduceLeDiff, Nat.reduceMul, Nat.reduceEqDiff, reduceCtorEq, Int.reduceLE, Int.reduceLT, Int.reduceEq, Int.reduceNe, Int.reduceBEq, Int.reduceBNe, Int.reduceAdd, Int.reduceSub, resA, allSome, rvA, oneOf, gL0]); first | done | rfl | (rw [rv_one]; rfl) | rw [rv_eq, hK])
            · simp)
        · rw [exK_cons, vK_cons]
          have g2 : (((K.length + 1 + 1 : Nat) : Int) == 1) = false := by simp; omega
          simp -implicitDefEqProofs only [go_sem, List.reduceReplicate, Nat.reduceAdd, Nat.reduceSub, Nat.reduceLT, Nat.reduceLeDiff, Nat.reduceMul, Nat.reduceEqDiff, reduceCtorEq, Int.reduceLE, Int.reduceLT, Int.reduceEq, Int.reduceNe, Int.reduceBEq, Int.reduceBNe, Int.reduceAdd, Int.reduceSub, gA hp, sA hp, gL0, sL0, gL1, sL1, List.length_map, g2]
          refine Fini.trim2 (ex := [_, _]) ?_ rfl ?_ (bel_rv _ _) (hb2 _ _ _)
          · ((try simp -implicitDefEqProofs only [go_sem, List.reduceReplicate, Nat.reduceAdd, Nat.reduceSub, Nat.reduceLT, Nat.reduceLeDiff, Nat.reduceMul, Nat.reduceEqDiff, reduceCtorEq, Int.reduceLE, Int.reduceLT, Int.reduceEq, Int.reduceNe, Int.reduceBEq, Int.reduceBNe, Int.reduceAdd, Int.reduceSub, resA, allSome, rvA, oneOf, gL0]); first | done | rfl | (rw [rv_one]; rfl) | rw [rv_eq, hK])
          · simp
      · simp -implicitDefEqProofs only [go_sem, List.reduceReplicate, Nat.reduceAdd, Nat.reduceSub, Nat.reduceLT, Nat.reduceLeDiff, Nat.reduceMul, Nat.reduceEqDiff, reduceCtorEq, Int.reduceLE, Int.reduceLT, Int.reduceEq, Int.reduceNe, Int.reduceBEq, Int.reduceBNe, Int.reduceAdd, Int.reduceSub, ho]
        rcases K with _ | ⟨y, _ | ⟨z, K⟩⟩
        · exact absurd rfl h5
        · have g3 : (((1 : Nat) : Int) == 1) = true := rfl
          have g4 : ((0 : Int) < ((1 : Nat) : Int)) = True := by simp
          have hbx : ∀ n, Bel n y.rv := fun n => bel_rv n y
          rw [exK_cons, vK_cons, List.map_cons, List.map_nil, show (one 3 [y]) = y from rfl]
          rw [rv_eq y] at hbx ⊢
          rcases rvK_cases y.ks with hK | ⟨l, hK⟩
          all_goals rw [hK] at hbx ⊢
          all_goals simp -implicitDefEqProofs only [go_sem, List.reduceReplicate, Nat.reduceAdd, Nat.reduceSub, Nat.reduceLT, Nat.reduceLeDiff, Nat.reduceMul, Nat.reduceEqDiff, reduceCtorEq, Int.reduceLE, Int.reduceLT, Int.reduceEq, Int.reduceNe, Int.reduceBEq, Int.reduceBNe, Int.reduceAdd, Int.reduceSub, gA hp, sA hp, gL0, sL0, gL1, sL1, List.length_map, g3, g4, Int.toNat_zero]
          all_goals (
            refine Fini.trim2 (ex := [_, _]) ?_ rfl ?_ (hbx _) (hb2 _ _ _)
            · ((try simp -implicitDefEqProofs only [go_sem, List.reduceReplicate, Nat.reduceAdd, Nat.reduceSub, Nat.reduceLT, Nat.reduceLeDiff, Nat.reduceMul, Nat.reduceEqDiff, reduceCtorEq, Int.reduceLE, Int.reduceLT, Int.reduceEq, Int.reduceNe, Int.reduceBEq, Int.reduceBNe, Int.reduceAdd, Int.reduceSub, resA, allSome, rvA, oneOf, gL0]); first | done | rfl | (rw [rv_one]; rfl) | rw [rv_eq, hK])
            · simp)
        · rw [exK_cons, vK_cons]
          have g2 : (((K.length + 1 + 1 : Nat) : Int) == 1) = false := by simp; omega
          simp -implicitDefEqProofs only [go_sem, List.reduceReplicate, Nat.reduceAdd, Nat.reduceSub, Nat.reduceLT, Nat.reduceLeDiff, Nat.reduceMul, Nat.reduceEqDiff, reduceCtorEq, Int.reduceLE, Int.reduceLT, Int.reduceEq, Int.reduceNe, Int.reduceBEq, Int.reduceBNe, Int.reduceAdd, Int.reduceSub, gA hp, sA hp, gL0, sL0, gL1, sL1, List.length_map, g2]
          refine Fini.trim2 (ex := [_, _]) ?_ rfl ?_ (bel_rv _ _) (hb2 _ _ _)
          · ((try simp -implicitDefEqProofs only [go_sem, List.reduceReplicate, Nat.reduceAdd, Nat.reduceSub, Nat.reduceLT, Nat.reduceLeDiff, Nat.reduceMul, Nat.reduceEqDiff, reduceCtorEq, Int.reduceLE, Int.reduceLT, Int.reduceEq, Int.reduceNe, Int.reduceBEq, Int.reduceBNe, Int.reduceAdd, Int.reduceSub, resA, allSome, rvA, oneOf, gL0]); first | done | rfl | (rw [rv_one]; rfl) | rw [rv_eq, hK])
          · simp
    · rw [hgo, if_pos rfl] at h1
      obtain ⟨ha, hb⟩ := sees_lt hgo
      subst hb
      have hd1 := h3 rfl
      subst hd1
      have ho : over s a1 false = false := by
        cases h : over s a1 false
        · rfl
        · simp [sees, h] at hgo
      have ha' : (a1 : Int) < s.size := by omega
      have hea := hok.ge (a1 + 1)
      have hJ' := hJ ⟨(n, K ++ [(F (a1 + 1)).1], (F (a1 + 1)).2.1, (F (a1 + 1)).2.2.1, (F (a1 + 1)).2.2.2), h1, by simp only; omega, hok.deep (a1 + 1), by simp; omega, by simp⟩ (Nat.lt_succ_self n)
      simp only [exK_snoc, vK_snoc] at hJ'
      clear hJ h1
      rw [sees_byte ho] at hgo
      simp -implicitDefEqProofs only [mkE, List.foldl_cons, List.foldl_nil, go_sem, List.reduceReplicate, Nat.reduceAdd, Nat.reduceSub, Nat.reduceLT, Nat.reduceLeDiff, Nat.reduceMul, Nat.reduceEqDiff, reduceCtorEq, Int.reduceLE, Int.reduceLT, Int.reduceEq, Int.reduceNe, Int.reduceBEq, Int.reduceBNe, Int.reduceAdd, Int.reduceSub]
      refine CD.intro (more_ex hp a1 d1 false _) ?_
      simp -implicitDefEqProofs only [go_sem, List.reduceReplicate, Nat.reduceAdd, Nat.reduceSub, Nat.reduceLT, Nat.reduceLeDiff, Nat.reduceMul, Nat.reduceEqDiff, reduceCtorEq, Int.reduceLE, Int.reduceLT, Int.reduceEq, Int.reduceNe, Int.reduceBEq, Int.reduceBNe, Int.reduceAdd, Int.reduceSub, ho, gA hp, sA hp, gL0, sL0, gL1, sL1, ha', byteAt_def, k124, n124, hgo, wrap_nat (show a1 ≤ 4294967296 by omega)]
      refine CO.intro (hF.ex hp (a1 + 1) hs (fun h => absurd h Bool.false_ne_true) _) ?_
      generalize F (a1 + 1) = w at hJ' hea ⊢
      obtain ⟨x, a2, d2, b2⟩ := w
      simp only at hJ' hea ⊢
      rw [rv_eq x] at hJ' ⊢
      rcases K with _ | ⟨y, K⟩
      · exact absurd rfl h5
      have g1 : (K.length + 1 + 1 ≤ 2 ^ 32) = True := by simp at h4; simp; omega
      rcases rvK_cases x.ks with hK | ⟨l, hK⟩
      all_goals rw [hK] at hJ' ⊢
      all_goals (
        simp -implicitDefEqProofs only [go_sem, List.reduceReplicate, Nat.reduceAdd, Nat.reduceSub, Nat.reduceLT, Nat.reduceLeDiff, Nat.reduceMul, Nat.reduceEqDiff, reduceCtorEq, Int.reduceLE, Int.reduceLT, Int.reduceEq, Int.reduceNe, Int.reduceBEq, Int.reduceBNe, Int.reduceAdd, Int.reduceSub, exK_cons, vK_cons, gA hp, sA hp, gL0, sL0, gL1, sL1, List.length_map, g1] at hJ' ⊢
        simpa [mkE] using hJ'))
theorem DW_ans : ∀ k, k ≤ 8 → DAns 96 false s (8 - k) (DW s k)
  | 0, _ => dways_ans s _ 8 (dway_ans s _ 8 (dfactor_ans s _ 8 (datom_ans s _ 8 (Nat.le_refl _) (fun h => absurd h (Nat.lt_irrefl _)) (fun h => absurd h (Nat.lt_irrefl _))))
      (dok_factor s (dok_atom s (fun a => Nat.le_refl _)))) (dok_way s (dok_factor s (dok_atom s (fun a => Nat.le_refl _))))
  | k + 1, h => by
    have ih := DW_ans k (by omega)
    have hk := dok_DW s k
    have e : 8 - (k + 1) = 7 - k := by omega
    have e2 : 8 - k = 7 - k + 1 := by omega
    rw [e2] at ih hk
    rw [e]
    exact dways_ans s _ (7 - k) (dway_ans s _ (7 - k) (dfactor_ans s _ (7 - k) (datom_ans s _ (7 - k) (by omega) (fun _ => ih) (fun _ => hk.deep)))
      (dok_factor s (dok_atom s hk.ge))) (dok_way s (dok_factor s (dok_atom s hk.ge)))
theorem dparse_ans (σ : St) : Ans Try.prog 56 [Sx s] σ (.tup [(dparse s).1.rv, Bo (dparse s).2]) σ := by
  have hw : s.size ≤ 40 → Ans Try.prog 96 [.ptr (σ.length + 1) 0] (σ ++ [box0, dob s 0 0 false]) (DW s 8 0).1.rv (σ ++ [box0, dob s (DW s 8 0).2.1 (DW s 8 0).2.2.1 (DW s 8 0).2.2.2]) := by
    intro hs
    have := DW_ans s 8 (Nat.le_refl _) (σ ++ [box0, dob s 0 0 false]) (σ.length + 1) 0 (by simp) hs (fun h => absurd h Bool.false_ne_true)
    have e : ∀ o, (σ ++ [box0, dob s 0 0 false]).set (σ.length + 1) o = σ ++ [box0, o] := fun o => by rw [List.set_append_right _ _ (by omega)]; simp
    rwa [e, e] at this
  have e40 : decide ((40 : Int) < (s.size : Int)) = decide (40 < s.size) := by rw [Bool.eq_iff_iff]; simp; omega
  have k0 : ∀ (x y : Ob) (ex : St), (σ ++ x :: y :: ex)[σ.length]? = some x := fun x y ex => by rw [List.getElem?_append_right (by simp)]; simp
  have k0' : ∀ (x : Ob), (σ ++ [x])[σ.length]? = some x := fun x => by rw [List.getElem?_append_right (by simp)]; simp
  have k1 : ∀ (x y : Ob) (ex : St), (σ ++ x :: y :: ex)[σ.length + 1]? = some y := fun x y ex => by rw [List.getElem?_append_right (by simp)]; simp
  have s0 : ∀ (x z : Ob) (ex : St), (σ ++ x :: ex).set σ.length z = σ ++ z :: ex := fun x z ex => by rw [List.set_append_right _ _ (by simp)]; simp
  refine Ans.of_run' t56 (fun hbel _ => ?_)
  simp -implicitDefEqProofs only [c56, r56, go_sem, List.reduceReplicate, Nat.reduceAdd, Nat.reduceSub, Nat.reduceLT, Nat.reduceLeDiff, Nat.reduceMul, Nat.reduceEqDiff, reduceCtorEq, Int.reduceLE, Int.reduceLT, Int.reduceEq, Int.reduceNe, Int.reduceBEq, Int.reduceBNe, Int.reduceAdd, Int.reduceSub, List.append_assoc, List.length_append, e40]
  unfold dparse
  cases h40 : decide (40 < s.size) with
  | true =>
    simp -implicitDefEqProofs only [go_sem, List.reduceReplicate, Nat.reduceAdd, Nat.reduceSub, Nat.reduceLT, Nat.reduceLeDiff, Nat.reduceMul, Nat.reduceEqDiff, reduceCtorEq, Int.reduceLE, Int.reduceLT, Int.reduceEq, Int.reduceNe, Int.reduceBEq, Int.reduceBNe, Int.reduceAdd, Int.reduceSub, k0', s0]
    refine Fini.trim2 (σ' := σ) (ex := [_]) ?_ rfl (Nat.le_refl _) ?_ hbel
    · simp -implicitDefEqProofs only [go_sem, List.reduceReplicate, Nat.reduceAdd, Nat.reduceSub, Nat.reduceLT, Nat.reduceLeDiff, Nat.reduceMul, Nat.reduceEqDiff, reduceCtorEq, Int.reduceLE, Int.reduceLT, Int.reduceEq, Int.reduceNe, Int.reduceBEq, Int.reduceBNe, Int.reduceAdd, Int.reduceSub, resA, allSome, rvA, oneOf, k0']; rfl
    · exact bel_tup2 (bel_rv _ zeroR) _
  | false =>
    have hs : s.size ≤ 40 := by
      have : ¬ 40 < s.size := by simpa using h40
      omega
    simp -implicitDefEqProofs only [go_sem, List.reduceReplicate, Nat.reduceAdd, Nat.reduceSub, Nat.reduceLT, Nat.reduceLeDiff, Nat.reduceMul, Nat.reduceEqDiff, reduceCtorEq, Int.reduceLE, Int.reduceLT, Int.reduceEq, Int.reduceNe, Int.reduceBEq, Int.reduceBNe, Int.reduceAdd, Int.reduceSub, List.append_assoc, List.length_append]
    refine CO.intro (hw hs) ?_
    generalize DW s 8 0 = w
    obtain ⟨x, a, d, b⟩ := w
    simp only
    have eL : decide ((a : Int) < (s.size : Int)) = decide (a < s.size) := by rw [Bool.eq_iff_iff]; simp
    have hbx : ∀ n, Bel n x.rv := fun n => bel_rv n x
    rw [rv_eq x]
    have hrx := rv_eq x
    rcases rvK_cases x.ks with hK | ⟨l, hK⟩
    all_goals (
      rw [hK] at hrx ⊢
      cases b
      · cases hlt : decide (a < s.size)
        · simp -implicitDefEqProofs only [go_sem, List.reduceReplicate, Nat.reduceAdd, Nat.reduceSub, Nat.reduceLT, Nat.reduceLeDiff, Nat.reduceMul, Nat.reduceEqDiff, reduceCtorEq, Int.reduceLE, Int.reduceLT, Int.reduceEq, Int.reduceNe, Int.reduceBEq, Int.reduceBNe, Int.reduceAdd, Int.reduceSub, k0, k1, s0, List.append_assoc, List.length_append, eL, hlt, Bool.or_self, hrx]
          rw [hrx] at hbx
          refine Fini.trim2 (σ' := σ) (ex := [_, _]) ?_ rfl (Nat.le_refl _) ?_ hbel
          · simp -implicitDefEqProofs only [go_sem, List.reduceReplicate, Nat.reduceAdd, Nat.reduceSub, Nat.reduceLT, Nat.reduceLeDiff, Nat.reduceMul, Nat.reduceEqDiff, reduceCtorEq, Int.reduceLE, Int.reduceLT, Int.reduceEq, Int.reduceNe, Int.reduceBEq, Int.reduceBNe, Int.reduceAdd, Int.reduceSub, resA, allSome, rvA, oneOf, k0]
          · exact bel_tup2 (hbx _) _
        · simp -implicitDefEqProofs only [go_sem, List.reduceReplicate, Nat.reduceAdd, Nat.reduceSub, Nat.reduceLT, Nat.reduceLeDiff, Nat.reduceMul, Nat.reduceEqDiff, reduceCtorEq, Int.reduceLE, Int.reduceLT, Int.reduceEq, Int.reduceNe, Int.reduceBEq, Int.reduceBNe, Int.reduceAdd, Int.reduceSub, k0, k1, s0, List.append_assoc, List.length_append, eL, hlt, Bool.or_true]
          refine Fini.trim2 (σ' := σ) (ex := [_, _]) ?_ rfl (Nat.le_refl _) ?_ hbel
          · simp -implicitDefEqProofs only [go_sem, List.reduceReplicate, Nat.reduceAdd, Nat.reduceSub, Nat.reduceLT, Nat.reduceLeDiff, Nat.reduceMul, Nat.reduceEqDiff, reduceCtorEq, Int.reduceLE, Int.reduceLT, Int.reduceEq, Int.reduceNe, Int.reduceBEq, Int.reduceBNe, Int.reduceAdd, Int.reduceSub, resA, allSome, rvA, oneOf, k0]; rfl
          · exact bel_tup2 (bel_rv _ zeroR) _
      · simp -implicitDefEqProofs only [go_sem, List.reduceReplicate, Nat.reduceAdd, Nat.reduceSub, Nat.reduceLT, Nat.reduceLeDiff, Nat.reduceMul, Nat.reduceEqDiff, reduceCtorEq, Int.reduceLE, Int.reduceLT, Int.reduceEq, Int.reduceNe, Int.reduceBEq, Int.reduceBNe, Int.reduceAdd, Int.reduceSub, k0, k1, s0, List.append_assoc, List.length_append, Bool.true_or]
        refine Fini.trim2 (σ' := σ) (ex := [_, _]) ?_ rfl (Nat.le_refl _) ?_ hbel
        · simp -implicitDefEqProofs only [go_sem, List.reduceReplicate, Nat.reduceAdd, Nat.reduceSub, Nat.reduceLT, Nat.reduceLeDiff, Nat.reduceMul, Nat.reduceEqDiff, reduceCtorEq, Int.reduceLE, Int.reduceLT, Int.reduceEq, Int.reduceNe, Int.reduceBEq, Int.reduceBNe, Int.reduceAdd, Int.reduceSub, resA, allSome, rvA, oneOf, k0]; rfl
        · exact bel_tup2 (bel_rv _ zeroR) _)
end
end Go.Proofs.Ytoadgajhkhejiaa
namespace Go.Proofs.Ytoadgajhkhejiaa
open Go Go.Ab
set_option maxRecDepth 100000
open Rex
theorem pbyte_false (s : ByteArray) (a : Nat) : pbyte s a false = if over s a false then (0, a, true) else (byteAt s a, a + 1, false) := rfl
theorem within_2 : ∀ c : Nat, c < 256 → (c == 92) = false → within2.contains c = within.contains c := by decide +kernel
theorem dmember_agr (s : ByteArray) (a : Nat) : (dmember s a).2.2 = (pmember s a false).2.2 ∧ ((dmember s a).2.2 = false → dmember s a = pmember s a false) := by
  unfold dmember pmember
  rw [pbyte_false]
  cases ho : over s a false with
  | true => simp
  | false =>
    simp only [Bool.false_eq_true, if_false]
    cases hc : byteAt s a == 92 with
    | true =>
      simp only [if_true]
      unfold psign
      rw [pbyte_false]
      cases ho2 : over s (a + 1) false with
      | true => simp
      | false =>
        simp only [Bool.false_eq_true, if_false, Bool.false_or]
        cases signs.contains (byteAt s (a + 1)) <;> simp
    | false =>
      simp only [Bool.false_eq_true, if_false, Bool.false_or]
      rw [within_2 _ (byteAt_lt s a) hc]
      exact ⟨rfl, fun h => rfl⟩
theorem dTo_agr (s : ByteArray) (a : Nat) : (dTo s a).2.2 = (cTo s a false).2.2 ∧ ((dTo s a).2.2 = false → dTo s a = cTo s a false ∧ dmember s a = pmember s a false) := by
  have h := dmember_agr s a
  unfold dTo cTo
  cases hb : (dmember s a).2.2 with
  | true =>
    have hb' : (pmember s a false).2.2 = true := by rw [← h.1]; exact hb
    rw [hb', sees_true, sees_true]
    simp [hb, hb']
  | false =>
    have e := h.2 hb
    rw [← e, hb]
    cases hse : sees s (dmember s a).2.1 false 45 with
    | true =>
      have h2 := dmember_agr s ((dmember s a).2.1 + 1)
      simp only [if_true]
      exact ⟨h2.1, fun hg => ⟨h2.2 hg, trivial⟩⟩
    | false =>
      simp only [Bool.false_eq_true, if_false]
      exact ⟨trivial, fun _ => ⟨trivial, trivial⟩⟩
theorem dBad_agr (s : ByteArray) (a : Nat) : dBad s a = cBad s a false := by
  have h := dTo_agr s a
  unfold dBad cBad
  cases hb : (dTo s a).2.2 with
  | true => rw [← h.1, hb]; simp
  | false =>
    have e := h.2 hb
    rw [← e.1, ← e.2, hb]
theorem classL_true (s : ByteArray) (k : Nat) (S : List Int) (a : Nat) : classL s k S a true false = (S, a, true) := by
  cases k with
  | zero => rfl
  | succ k => rw [classL]; simp [cGo, over]
theorem dclassL_true (s : ByteArray) (k : Nat) (S : List Int) (a n : Nat) : dclassL s k S a true n = (S, a, true, n) := by
  cases k with
  | zero => rfl
  | succ k => rw [dclassL]; simp [dGo, over]
theorem cGo_eq (s : ByteArray) (a : Nat) : cGo s a false false = dGo s a false := by simp [cGo, dGo]
theorem dclassL_agr (s : ByteArray) : ∀ (k : Nat) (S : List Int) (a n : Nat),
    (dclassL s k S a false n).2.2.1 = (classL s k S a false false).2.2 ∧ n ≤ (dclassL s k S a false n).2.2.2 ∧
    ((dclassL s k S a false n).2.2.1 = false → (dclassL s k S a false n).1 = (classL s k S a false false).1 ∧ (dclassL s k S a false n).2.1 = (classL s k S a false false).2.1)
  | 0, S, a, n => ⟨rfl, Nat.le_refl _, fun _ => ⟨rfl, rfl⟩⟩
  | k + 1, S, a, n => by
    rw [dclassL, classL, cGo_eq]
    cases hg : dGo s a false with
    | false => exact ⟨rfl, Nat.le_refl _, fun _ => ⟨rfl, rfl⟩⟩
    | true =>
      simp only [if_true]
      rw [← dBad_agr]
      cases hb : dBad s a with
      | true => rw [dclassL_true, classL_true]; exact ⟨rfl, Nat.le_succ _, fun h => absurd h (by simp)⟩
      | false =>
        have hto : (dTo s a).2.2 = false := by
          unfold dBad at hb
          cases h : (dTo s a).2.2
          · rfl
          · rw [h] at hb; simp at hb
        have e := (dTo_agr s a).2 hto
        rw [← e.1, ← e.2]
        have ih := dclassL_agr s k (addR S (dmember s a).1 ((dTo s a).1 + 1 - (dmember s a).1)) (dTo s a).2.1 (n + 1)
        exact ⟨ih.1, Nat.le_trans (Nat.le_succ _) ih.2.1, ih.2.2⟩
theorem dclassL_exit (s : ByteArray) : ∀ (k : Nat) (S : List Int) (a : Nat) (b : Bool) (n : Nat), s.size - a < k → dGo s (dclassL s k S a b n).2.1 (dclassL s k S a b n).2.2.1 = false
  | 0, S, a, b, n, h => by omega
  | k + 1, S, a, b, n, h => by
    rw [dclassL]
    cases hg : dGo s a b with
    | false => exact hg
    | true =>
      have ho : over s a b = false := by
        cases h : over s a b
        · rfl
        · simp [dGo, h] at hg
      have hlt := over_lt ho
      have hb : b = false := by cases b <;> simp [over] at ho ⊢
      subst hb
      have h1 := dmember_gt s a ho
      have h2 := dTo_ge s a
      exact dclassL_exit s k _ _ _ _ (by omega)
theorem dclass_agr (s : ByteArray) (a : Nat) : (dclass s a).2.2 = (pclass s a false).2.2 ∧ ((dclass s a).2.2 = false → (dclass s a).1 = ofSet (pclass s a false).1 ∧ (dclass s a).2.1 = (pclass s a false).2.1) := by
  have h1 := dclassL_agr s (s.size + 3) z4 (nextA s a false 94) 0
  have h2 := dclassL_exit s (s.size + 3) z4 (nextA s a false 94) false 0 (by omega)
  unfold dclass dOut pclass
  simp only
  cases hg : dGo s (nextA s a false 94) false with
  | false =>
    have e : dclassL s (s.size + 3) z4 (nextA s a false 94) false 0 = (z4, nextA s a false 94, false, 0) := by rw [dclassL, hg]; rfl
    have hbad : (classL s (s.size + 3) z4 (nextA s a false 94) false true).2.2 = true := by
      rw [classL]
      rw [if_pos (show cGo s (nextA s a false 94) false true = true from rfl)]
      have hm : (pmember s (nextA s a false 94) false).2.2 = true := by
        generalize nextA s a false 94 = a0 at hg
        unfold pmember
        rw [pbyte_false]
        cases ho : over s a0 false with
        | true => simp
        | false =>
          have h93 : sees s a0 false 93 = true := by simpa [dGo, ho] using hg
          rw [sees_byte ho] at h93
          have e93 : byteAt s a0 = 93 := by simpa using h93
          simp [e93, within]
      have hc : cBad s (nextA s a false 94) false = true := by
        unfold cBad
        rw [cTo_mono s _ false hm]; rfl
      rw [hc, classL_true]
    rw [e, hbad]
    simp
  | true =>
    have ef : classL s (s.size + 3) z4 (nextA s a false 94) false true = classL s (s.size + 3) z4 (nextA s a false 94) false false := by
      have step : ∀ first, classL s (s.size + 3) z4 (nextA s a false 94) false first = if cGo s (nextA s a false 94) false first then
          classL s (s.size + 2) (addR z4 (pmember s (nextA s a false 94) false).1 ((cTo s (nextA s a false 94) false).1 + 1 - (pmember s (nextA s a false 94) false).1)) (cTo s (nextA s a false 94) false).2.1 (cBad s (nextA s a false 94) false) false
          else (z4, nextA s a false 94, false) := fun _ => rfl
      rw [step true, step false, cGo_eq, hg]
      rfl
    have hn : 1 ≤ (dclassL s (s.size + 3) z4 (nextA s a false 94) false 0).2.2.2 := by
      rw [dclassL, hg, if_pos rfl]
      cases hb : dBad s (nextA s a false 94) with
      | true => rw [dclassL_true]; exact Nat.le_refl _
      | false => exact (dclassL_agr s (s.size + 2) _ _ (0 + 1)).2.1
    rw [ef]
    have h1' : (dclassL s (s.size + 3) [0, 0, 0, 0] (nextA s a false 94) false 0).2.2.1 = (classL s (s.size + 3) [0, 0, 0, 0] (nextA s a false 94) false false).2.2 := h1.1
    generalize dclassL s (s.size + 3) z4 (nextA s a false 94) false 0 = l at h1 h2 hn ⊢
    obtain ⟨S, a1, b1, n⟩ := l
    generalize classL s (s.size + 3) z4 (nextA s a false 94) false false = r at h1 ⊢
    obtain ⟨S', a', b'⟩ := r
    simp only at h1 h2 hn ⊢
    obtain ⟨hb, _, he⟩ := h1
    subst hb
    have hn0 : (n == 0) = false := by simp; omega
    rw [hn0, Bool.or_false]
    cases b1 with
    | true => simp [over]
    | false =>
      obtain ⟨rfl, rfl⟩ := he rfl
      cases ho : over s a1 false with
      | true => simp [sees, ho]
      | false =>
        have h93 : sees s a1 false 93 = true := by simpa [dGo, ho] using h2
        simp [h93, nextA]
theorem orU_zero : ∀ r : Nat, r < 64 → orU 0 (bitU r) = bitU r := by decide +kernel
theorem oneS_eq (c : Nat) (hc : c < 256) : oneS c = setAdd z4 c := by
  unfold oneS setAdd
  have h4 : c / 64 < 4 := by omega
  have : z4.getD (c / 64) 0 = 0 := by
    generalize c / 64 = k at h4
    match k, h4 with
    | 0, _ => rfl
    | 1, _ => rfl
    | 2, _ => rfl
    | 3, _ => rfl
  rw [this, orU_zero _ (by omega)]
theorem full_eq : turnS z4 = fullS := by decide +kernel
theorem specials_eq' : ∀ c : Nat, c < 256 → ((specials.contains c == stray.contains c) || (c == 40 || c == 91 || c == 46 || c == 92 || c == 124 || c == 41)) = true := by decide +kernel
theorem specials_eq : ∀ c : Nat, c < 256 → (c == 40) = false → (c == 91) = false → (c == 46) = false → (c == 92) = false → (c == 124) = false → (c == 41) = false → specials.contains c = stray.contains c := by
  intro c hc h1 h2 h3 h4 h5 h6
  have := specials_eq' c hc
  rw [h1, h2, h3, h4, h5, h6] at this
  simpa using this
def Agr (cond : Nat → Prop) (P : PF) (F : DF) : Prop :=
  ∀ a, cond a → (F a).2.2.2 = (P a false).2.2 ∧ ((F a).2.2.2 = false → (F a).1 = (P a false).1 ∧ (F a).2.1 = (P a false).2.1)
def atAtom (s : ByteArray) (a : Nat) : Prop := wGo s a false = true
theorem agr_atom (s : ByteArray) {P : PF} {F : DF} {d : Nat} (hd : d ≤ 8) (h : d < 8 → Agr (fun _ => True) P F) : Agr (atAtom s) (patom s P d) (datom s F d) := by
  intro a hg
  have ho : over s a false = false := by simp [atAtom, wGo] at hg; exact hg.1
  have h124 : (byteAt s a == 124) = false := by rw [← sees_byte ho]; simp [atAtom, wGo] at hg; exact hg.2.1
  have h41 : (byteAt s a == 41) = false := by rw [← sees_byte ho]; simp [atAtom, wGo] at hg; exact hg.2.2
  have hc := byteAt_lt s a
  unfold patom datom
  simp only
  rw [pbyte_false, ho]
  simp only [Bool.false_eq_true, if_false, Bool.false_or]
  cases h40 : byteAt s a == 40 with
  | true =>
    have e40 : byteAt s a = 40 := by simpa using h40
    rw [e40]
    have hd8 : decide (8 < d + 1) = (d == 8) := by rw [Bool.eq_iff_iff]; simp; omega
    rw [hd8]
    cases h8 : d == 8 with
    | true => simp
    | false =>
      have hd7 : d < 8 := by
        have : d ≠ 8 := by simpa using h8
        omega
      have ih := h hd7 (a + 1) trivial
      generalize F (a + 1) = w at ih ⊢
      generalize P (a + 1) false = v at ih ⊢
      obtain ⟨x, a1, d1, b1⟩ := w
      obtain ⟨y, a2, b2⟩ := v
      simp only at ih
      obtain ⟨hb, he⟩ := ih
      subst hb
      cases b1 with
      | true => simp [sees_true]
      | false =>
        obtain ⟨rfl, rfl⟩ := he rfl
        cases hse : sees s a1 false 41 <;> simp [hse, nextA]
  | false =>
    cases h91 : byteAt s a == 91 with
    | true =>
      have e91 : byteAt s a = 91 := by simpa using h91
      have ih := dclass_agr s (a + 1)
      simp [e91]
      exact ih
    | false =>
      cases h46 : byteAt s a == 46 with
      | true => simp [full_eq]
      | false =>
        cases h92 : byteAt s a == 92 with
        | true =>
          have e92 : byteAt s a = 92 := by simpa using h92
          simp only [Bool.false_eq_true, if_false, if_true]
          unfold psign
          rw [pbyte_false]
          cases ho2 : over s (a + 1) false with
          | true => simp
          | false =>
            have := oneS_eq _ (byteAt_lt s (a + 1))
            simp only [Bool.false_eq_true, if_false, Bool.false_or]
            cases hq : signs.contains (byteAt s (a + 1)) <;> simp [this]
        | false =>
          rw [← specials_eq _ hc h40 h91 h46 h92 h124 h41]
          simp only [Bool.false_eq_true, if_false]
          cases hsp : specials.contains (byteAt s a)
          · simp [oneS_eq _ hc]
          · simp
theorem agr_factor (s : ByteArray) {P : PF} {F : DF} {c : Nat → Prop} (h : Agr c P F) : Agr c (pfactor s P) (dfactor s F) := by
  intro a ha
  have ih := h a ha
  unfold pfactor dfactor
  simp only
  generalize F a = w at ih ⊢
  generalize P a false = v at ih ⊢
  obtain ⟨x, a1, d1, b1⟩ := w
  obtain ⟨y, a2, b2⟩ := v
  simp only at ih ⊢
  obtain ⟨hb, he⟩ := ih
  subst hb
  cases b1 with
  | true => simp [sees_true]
  | false =>
    obtain ⟨rfl, rfl⟩ := he rfl
    cases sees s a1 false 42 <;> cases sees s a1 false 43 <;> cases sees s a1 false 63 <;> simp
theorem wGo_true (s : ByteArray) (a : Nat) : wGo s a true = false := by simp [wGo, over]
theorem pwayL_true (s : ByteArray) (P : PF) (n : Nat) (K : List Rex) (a : Nat) : (pwayL s P n K a true).2.2 = true := by
  cases n with
  | zero => rfl
  | succ n => rw [pwayL, wGo_true]; rfl
theorem dwayL_true (s : ByteArray) (F : DF) (n : Nat) (K : List Rex) (a d : Nat) : (dwayL s F n K a d true).2.2.2 = true := by
  cases n with
  | zero => rfl
  | succ n => rw [dwayL, wGo_true]; rfl
theorem agr_wayL (s : ByteArray) {P : PF} {F : DF} (h : Agr (atAtom s) P F) : ∀ (n : Nat) (K : List Rex) (a d : Nat),
    (dwayL s F n K a d false).2.2.2 = (pwayL s P n K a false).2.2 ∧ ((dwayL s F n K a d false).2.2.2 = false → (dwayL s F n K a d false).1 = (pwayL s P n K a false).1 ∧ (dwayL s F n K a d false).2.1 = (pwayL s P n K a false).2.1)
  | 0, K, a, d => ⟨rfl, fun _ => ⟨rfl, rfl⟩⟩
  | n + 1, K, a, d => by
    rw [dwayL, pwayL]
    cases hg : wGo s a false with
    | false => exact ⟨rfl, fun _ => ⟨rfl, rfl⟩⟩
    | true =>
      simp only [if_true]
      have ih := h a hg
      generalize F a = w at ih ⊢
      generalize P a false = v at ih ⊢
      obtain ⟨x, a1, d1, b1⟩ := w
      obtain ⟨y, a2, b2⟩ := v
      simp only at ih ⊢
      obtain ⟨hb, he⟩ := ih
      subst hb
      cases b1 with
      | true => rw [dwayL_true, pwayL_true]; simp
      | false =>
        obtain ⟨rfl, rfl⟩ := he rfl
        exact agr_wayL s h n (K ++ [x]) a1 d1
theorem agr_way (s : ByteArray) {P : PF} {F : DF} (h : Agr (atAtom s) P F) (d : Nat) : Agr (fun _ => True) (pway s P) (dway s F d) := by
  intro a _
  have ih := agr_wayL s h (s.size + 1) [] a d
  unfold pway dway
  simp only
  exact ⟨ih.1, fun hb => ⟨by rw [(ih.2 hb).1], (ih.2 hb).2⟩⟩
theorem pwaysL_true (s : ByteArray) (P : PF) (n : Nat) (K : List Rex) (a : Nat) : (pwaysL s P n K a true).2.2 = true := by
  cases n with
  | zero => rfl
  | succ n => rw [pwaysL, sees_true]; rfl
theorem dwaysL_true (s : ByteArray) (F : DF) (n : Nat) (K : List Rex) (a d : Nat) : (dwaysL s F n K a d true).2.2.2 = true := by
  cases n with
  | zero => rfl
  | succ n => rw [dwaysL, sees_true]; rfl
theorem agr_waysL (s : ByteArray) {P : PF} {F : DF} (h : Agr (fun _ => True) P F) : ∀ (n : Nat) (K : List Rex) (a d : Nat),
    (dwaysL s F n K a d false).2.2.2 = (pwaysL s P n K a false).2.2 ∧ ((dwaysL s F n K a d false).2.2.2 = false → (dwaysL s F n K a d false).1 = (pwaysL s P n K a false).1 ∧ (dwaysL s F n K a d false).2.1 = (pwaysL s P n K a false).2.1)
  | 0, K, a, d => ⟨rfl, fun _ => ⟨rfl, rfl⟩⟩
  | n + 1, K, a, d => by
    rw [dwaysL, pwaysL]
    cases hg : sees s a false 124 with
    | false => exact ⟨rfl, fun _ => ⟨rfl, rfl⟩⟩
    | true =>
      simp only [if_true]
      have ih := h (a + 1) trivial
      generalize F (a + 1) = w at ih ⊢
      generalize P (a + 1) false = v at ih ⊢
      obtain ⟨x, a1, d1, b1⟩ := w
      obtain ⟨y, a2, b2⟩ := v
      simp only at ih ⊢
      obtain ⟨hb, he⟩ := ih
      subst hb
      cases b1 with
      | true => rw [dwaysL_true, pwaysL_true]; simp
      | false =>
        obtain ⟨rfl, rfl⟩ := he rfl
        exact agr_waysL s h n (K ++ [x]) a1 d1
theorem agr_ways (s : ByteArray) {P : PF} {F : DF} (h : Agr (fun _ => True) P F) : Agr (fun _ => True) (pways s P) (dways s F) := by
  intro a _
  have ih := h a trivial
  unfold pways dways
  simp only
  generalize F a = w at ih ⊢
  generalize P a false = v at ih ⊢
  obtain ⟨x, a1, d1, b1⟩ := w
  obtain ⟨y, a2, b2⟩ := v
  simp only at ih ⊢
  obtain ⟨hb, he⟩ := ih
  subst hb
  cases b1 with
  | true => rw [dwaysL_true, pwaysL_true]; simp
  | false =>
    obtain ⟨rfl, rfl⟩ := he rfl
    have ih := agr_waysL s h (s.size + 1) [x] a1 d1
    exact ⟨ih.1, fun hb => ⟨by rw [(ih.2 hb).1], (ih.2 hb).2⟩⟩
theorem agr_lvl (s : ByteArray) {P : PF} {F : DF} {d : Nat} (hd : d ≤ 8) (h : d < 8 → Agr (fun _ => True) P F) : Agr (fun _ => True) (lvl s P d) (dlvl s F d) :=
  agr_ways s (agr_way s (agr_factor s (agr_atom s hd h)) d)
theorem agr_W (s : ByteArray) : ∀ k, Agr (fun _ => True) (PW s k) (DW s k)
  | 0 => agr_lvl s (Nat.le_refl _) (fun h => absurd h (Nat.lt_irrefl _))
  | k + 1 => agr_lvl s (by omega) (fun _ => agr_W s k)
theorem dparse_eq (s : ByteArray) : dparse s = pparse s := by
  unfold dparse pparse
  simp only
  cases h40 : decide (40 < s.size) with
  | true =>
    have := (fwd_PW s 8 0 true).2 rfl
    rw [this]
    rfl
  | false =>
    have ih := agr_W s 8 0 trivial
    simp only [Bool.false_eq_true, if_false]
    generalize DW s 8 0 = w at ih ⊢
    generalize PW s 8 0 false = v at ih ⊢
    obtain ⟨x, a1, d1, b1⟩ := w
    obtain ⟨y, a2, b2⟩ := v
    simp only at ih ⊢
    obtain ⟨hb, he⟩ := ih
    subst hb
    cases b1 with
    | true => simp; rfl
    | false =>
      obtain ⟨rfl, rfl⟩ := he rfl
      rfl
end Go.Proofs.Ytoadgajhkhejiaa
namespace Go.Proofs.Ytoadgajhkhejiaa
open Go Go.Ab Rex
set_option maxRecDepth 100000
theorem likeD_ans (σ : St) (k : Int) (nm v : ByteArray) : Ans Try.prog 55 [mat k nm v] σ (Bo (likeB k)) σ := by
  refine Ans.of_run t55 ?_
  simp -implicitDefEqProofs only [c55, r55, go_sem, List.reduceReplicate, Nat.reduceAdd, Nat.reduceSub, Nat.reduceLT, Nat.reduceLeDiff, Nat.reduceMul, Nat.reduceEqDiff, reduceCtorEq, Int.reduceLE, Int.reduceLT, Int.reduceEq, Int.reduceNe, Int.reduceBEq, Int.reduceBNe, Int.reduceAdd, Int.reduceSub]
  unfold likeB
  cases h : k == 3
  · simp -implicitDefEqProofs only [go_sem, List.reduceReplicate, Nat.reduceAdd, Nat.reduceSub, Nat.reduceLT, Nat.reduceLeDiff, Nat.reduceMul, Nat.reduceEqDiff, reduceCtorEq, Int.reduceLE, Int.reduceLT, Int.reduceEq, Int.reduceNe, Int.reduceBEq, Int.reduceBNe, Int.reduceAdd, Int.reduceSub]
    exact Fini.ret rfl
  · simp -implicitDefEqProofs only [go_sem, List.reduceReplicate, Nat.reduceAdd, Nat.reduceSub, Nat.reduceLT, Nat.reduceLeDiff, Nat.reduceMul, Nat.reduceEqDiff, reduceCtorEq, Int.reduceLE, Int.reduceLT, Int.reduceEq, Int.reduceNe, Int.reduceBEq, Int.reduceBNe, Int.reduceAdd, Int.reduceSub]
    exact Fini.ret rfl
end Go.Proofs.Ytoadgajhkhejiaa
namespace Go.Proofs.Ytoadgajhkhejiaa
open Go Go.Ab Rex
set_option maxRecDepth 100000
def okN (s : ByteArray) (i : Nat) : Bool := letterB (byteAt s i) || (!(i == 0) && digitB (byteAt s i))
def nameD (s : ByteArray) : Bool := (List.range s.size).all (okN s) && (decide (1 ≤ s.size) && decide (s.size ≤ 12))
theorem nameD_eq (s : ByteArray) : nameD s = nameB s := by
  unfold nameD nameB
  by_cases h1 : 1 ≤ s.size
  · by_cases h2 : s.size ≤ 12
    · rw [decide_eq_true h1, decide_eq_true h2]
      simp only [Bool.and_self, Bool.and_true, Bool.true_and]
      rw [Bool.eq_iff_iff]
      simp only [Bool.and_eq_true, List.all_eq_true, List.mem_range, okN, Bool.or_eq_true, Bool.not_eq_true', beq_eq_false_iff_ne]
      constructor
      · intro h
        refine ⟨?_, fun i hi => ?_⟩
        · rcases h 0 (by omega) with h | h
          · exact h
          · exact absurd rfl h.1
        · rcases h i hi with h | h
          · exact .inl h
          · exact .inr h.2
      · rintro ⟨h0, h⟩ i hi
        by_cases hz : i = 0
        · subst hz; exact .inl h0
        · rcases h i hi with h | h
          · exact .inl h
          · exact .inr ⟨hz, h⟩
    · rw [decide_eq_false h2]; simp
  · rw [decide_eq_false h1]; simp
set_option maxHeartbeats 16000000 in
theorem dname_ans (σ : St) (s : ByteArray) (hs : s.size ≤ 100000) : Ans Try.prog 54 [Sx s] σ (Bo (nameB s)) σ := by
  rw [← nameD_eq]
  refine Ans.of_run t54 ?_
  simp -implicitDefEqProofs only [c54, r54, go_sem, List.reduceReplicate, Nat.reduceAdd, Nat.reduceSub, Nat.reduceLT, Nat.reduceLeDiff, Nat.reduceMul, Nat.reduceEqDiff, reduceCtorEq, Int.reduceLE, Int.reduceLT, Int.reduceEq, Int.reduceNe, Int.reduceBEq, Int.reduceBNe, Int.reduceAdd, Int.reduceSub]
  refine Go.Ab.L.scan s.size (okN s) (fun i => mkE 55 [(0, Sx s), (3, I i)]) (fun _ => σ) ?_ ?_ rfl rfl
  · intro i hi hp J hJ
    have hlt : ((i : Int) < s.size) = True := by simp; omega
    have hdi : decide ((i : Int) < s.size) = true := by simp; omega
    have hin := wrap_nat (n := i) (by omega)
    have hF : okN s i = false → nameD s = false := fun h => by
      rw [nameD, List.all_eq_false.2 ⟨i, List.mem_range.2 hi, by simp [h]⟩]; rfl
    have e1 : decide ((97 : Int) ≤ (byteAt s i : Nat)) = decide (97 ≤ byteAt s i) := int_le 97 _
    have e2 : decide (((byteAt s i : Nat) : Int) ≤ 122) = decide (byteAt s i ≤ 122) := int_le _ 122
    have e3 : decide ((65 : Int) ≤ (byteAt s i : Nat)) = decide (65 ≤ byteAt s i) := int_le 65 _
    have e4 : decide (((byteAt s i : Nat) : Int) ≤ 90) = decide (byteAt s i ≤ 90) := int_le _ 90
    have e5 : (((byteAt s i : Nat) : Int) == 95) = (byteAt s i == 95) := beq_cast _ 95
    have e6 : decide (((byteAt s i : Nat) : Int) < 48) = decide (byteAt s i < 48) := decN _ 48
    have e7 : decide ((57 : Int) < (byteAt s i : Nat)) = decide (57 < byteAt s i) := decN 57 _
    have e8 : ((i : Int) == 0) = (i == 0) := beq_cast i 0
    have hd : digitB (byteAt s i) = (!decide (byteAt s i < 48) && !decide (57 < byteAt s i)) := by
      unfold digitB
      rw [Bool.eq_iff_iff]; simp
    have hL : letterB (byteAt s i) = (decide (97 ≤ byteAt s i) && decide (byteAt s i ≤ 122) || decide (65 ≤ byteAt s i) && decide (byteAt s i ≤ 90) || byteAt s i == 95) := rfl
    have hO : okN s i = (letterB (byteAt s i) || (!(i == 0) && digitB (byteAt s i))) := rfl
    rw [hO, hL, hd] at hF hJ
    generalize decide (97 ≤ byteAt s i) = b1 at *
    generalize decide (byteAt s i ≤ 122) = b2 at *
    generalize decide (65 ≤ byteAt s i) = b3 at *
    generalize decide (byteAt s i ≤ 90) = b4 at *
    generalize (byteAt s i == 95) = b5 at *
    generalize decide (byteAt s i < 48) = b6 at *
    generalize decide (57 < byteAt s i) = b7 at *
    generalize (i == 0) = b8 at *
    clear hL hd hO
    simp -implicitDefEqProofs only [mkE, List.foldl_cons, List.foldl_nil, go_sem, List.reduceReplicate, Nat.reduceAdd, Nat.reduceSub, Nat.reduceLT, Nat.reduceLeDiff, Nat.reduceMul, Nat.reduceEqDiff, reduceCtorEq, Int.reduceLE, Int.reduceLT, Int.reduceEq, Int.reduceNe, Int.reduceBEq, Int.reduceBNe, Int.reduceAdd, Int.reduceSub, hlt, hdi, byteAt_def]
    cases b1 <;> cases b2 <;> cases b3 <;> cases b4 <;> cases b5
    all_goals simp -implicitDefEqProofs only [go_sem, List.reduceReplicate, Nat.reduceAdd, Nat.reduceSub, Nat.reduceLT, Nat.reduceLeDiff, Nat.reduceMul, Nat.reduceEqDiff, reduceCtorEq, Int.reduceLE, Int.reduceLT, Int.reduceEq, Int.reduceNe, Int.reduceBEq, Int.reduceBNe, Int.reduceAdd, Int.reduceSub, e1, e2, e3, e4, e5, e6, e7, e8, hin]
    all_goals first
      | exact hJ rfl
      | (cases b8 <;> cases b6 <;> cases b7 <;> simp -implicitDefEqProofs only [go_sem, List.reduceReplicate, Nat.reduceAdd, Nat.reduceSub, Nat.reduceLT, Nat.reduceLeDiff, Nat.reduceMul, Nat.reduceEqDiff, reduceCtorEq, Int.reduceLE, Int.reduceLT, Int.reduceEq, Int.reduceNe, Int.reduceBEq, Int.reduceBNe, Int.reduceAdd, Int.reduceSub, e6, e7, e8, hin] <;> first
          | exact hJ rfl
          | (refine Fini.ret' rfl (bo_congr ?_); exact (hF rfl).symm))
  · intro hp J
    have hdi : decide ((s.size : Int) < s.size) = false := by simp
    have d1 : decide ((1 : Int) ≤ s.size) = decide (1 ≤ s.size) := int_le 1 _
    have d2 : decide ((s.size : Int) ≤ 12) = decide (s.size ≤ 12) := int_le _ 12
    have hA : (List.range s.size).all (okN s) = true := List.all_eq_true.2 fun i hi => hp i (List.mem_range.1 hi)
    rw [nameD, hA, Bool.true_and]
    cases h1 : decide (1 ≤ s.size) with
    | true =>
      rw [h1] at d1
      simp -implicitDefEqProofs only [mkE, List.foldl_cons, List.foldl_nil, go_sem, List.reduceReplicate, Nat.reduceAdd, Nat.reduceSub, Nat.reduceLT, Nat.reduceLeDiff, Nat.reduceMul, Nat.reduceEqDiff, reduceCtorEq, Int.reduceLE, Int.reduceLT, Int.reduceEq, Int.reduceNe, Int.reduceBEq, Int.reduceBNe, Int.reduceAdd, Int.reduceSub, hdi, d1, d2]
      exact Fini.ret rfl
    | false =>
      rw [h1] at d1
      simp -implicitDefEqProofs only [mkE, List.foldl_cons, List.foldl_nil, go_sem, List.reduceReplicate, Nat.reduceAdd, Nat.reduceSub, Nat.reduceLT, Nat.reduceLeDiff, Nat.reduceMul, Nat.reduceEqDiff, reduceCtorEq, Int.reduceLE, Int.reduceLT, Int.reduceEq, Int.reduceNe, Int.reduceBEq, Int.reduceBNe, Int.reduceAdd, Int.reduceSub, hdi, d1, d2]
      exact Fini.ret rfl
end Go.Proofs.Ytoadgajhkhejiaa
namespace Go.Proofs.Ytoadgajhkhejiaa
open Go Go.Ab Rex
set_option maxRecDepth 100000
theorem dis_any (σ : St) (k : Int) (nm v : ByteArray) (hs : nm.size ≤ 100000) : Ans Try.prog 17 [mat k nm v] σ (Bo (isB k nm v)) σ := by
  refine Ans.of_run t17 ?_
  unfold isB
  simp -implicitDefEqProofs only [c17, r17, go_sem, List.reduceReplicate, Nat.reduceAdd, Nat.reduceSub, Nat.reduceLT, Nat.reduceLeDiff, Nat.reduceMul, Nat.reduceEqDiff, reduceCtorEq, Int.reduceLE, Int.reduceLT, Int.reduceEq, Int.reduceNe, Int.reduceBEq, Int.reduceBNe, Int.reduceAdd, Int.reduceSub]
  refine CO.intro (dname_ans σ nm hs) ?_
  cases hn : nameB nm with
  | false =>
    simp -implicitDefEqProofs only [go_sem, List.reduceReplicate, Nat.reduceAdd, Nat.reduceSub, Nat.reduceLT, Nat.reduceLeDiff, Nat.reduceMul, Nat.reduceEqDiff, reduceCtorEq, Int.reduceLE, Int.reduceLT, Int.reduceEq, Int.reduceNe, Int.reduceBEq, Int.reduceBNe, Int.reduceAdd, Int.reduceSub]
    exact Fini.ret rfl
  | true =>
  simp -implicitDefEqProofs only [go_sem, List.reduceReplicate, Nat.reduceAdd, Nat.reduceSub, Nat.reduceLT, Nat.reduceLeDiff, Nat.reduceMul, Nat.reduceEqDiff, reduceCtorEq, Int.reduceLE, Int.reduceLT, Int.reduceEq, Int.reduceNe, Int.reduceBEq, Int.reduceBNe, Int.reduceAdd, Int.reduceSub]
  refine CO.intro (likeD_ans σ k nm v) ?_
  cases hk : likeB k with
  | true =>
    simp -implicitDefEqProofs only [go_sem, List.reduceReplicate, Nat.reduceAdd, Nat.reduceSub, Nat.reduceLT, Nat.reduceLeDiff, Nat.reduceMul, Nat.reduceEqDiff, reduceCtorEq, Int.reduceLE, Int.reduceLT, Int.reduceEq, Int.reduceNe, Int.reduceBEq, Int.reduceBNe, Int.reduceAdd, Int.reduceSub]
    refine CO.intro (dparse_ans v σ) ?_
    rw [dparse_eq]
    have hrv := Rex.rv_eq (pparse v).1
    generalize (pparse v).1 = x at hrv ⊢
    generalize (pparse v).2 = b
    rw [hrv]
    rcases Rex.rvK_cases x.ks with e | ⟨l, e⟩ <;> rw [e]
    all_goals (simp -implicitDefEqProofs only [go_sem, List.reduceReplicate, Nat.reduceAdd, Nat.reduceSub, Nat.reduceLT, Nat.reduceLeDiff, Nat.reduceMul, Nat.reduceEqDiff, reduceCtorEq, Int.reduceLE, Int.reduceLT, Int.reduceEq, Int.reduceNe, Int.reduceBEq, Int.reduceBNe, Int.reduceAdd, Int.reduceSub]; exact Fini.ret rfl)
  | false =>
    have d : decide ((v.size : Int) ≤ 24) = decide (v.size ≤ 24) := int_le v.size 24
    simp -implicitDefEqProofs only [go_sem, List.reduceReplicate, Nat.reduceAdd, Nat.reduceSub, Nat.reduceLT, Nat.reduceLeDiff, Nat.reduceMul, Nat.reduceEqDiff, reduceCtorEq, Int.reduceLE, Int.reduceLT, Int.reduceEq, Int.reduceNe, Int.reduceBEq, Int.reduceBNe, Int.reduceAdd, Int.reduceSub]
    cases h1 : k == 1 with
    | true =>
      simp -implicitDefEqProofs only [go_sem, List.reduceReplicate, Nat.reduceAdd, Nat.reduceSub, Nat.reduceLT, Nat.reduceLeDiff, Nat.reduceMul, Nat.reduceEqDiff, reduceCtorEq, Int.reduceLE, Int.reduceLT, Int.reduceEq, Int.reduceNe, Int.reduceBEq, Int.reduceBNe, Int.reduceAdd, Int.reduceSub, d]
      exact Fini.ret rfl
    | false =>
      simp -implicitDefEqProofs only [go_sem, List.reduceReplicate, Nat.reduceAdd, Nat.reduceSub, Nat.reduceLT, Nat.reduceLeDiff, Nat.reduceMul, Nat.reduceEqDiff, reduceCtorEq, Int.reduceLE, Int.reduceLT, Int.reduceEq, Int.reduceNe, Int.reduceBEq, Int.reduceBNe, Int.reduceAdd, Int.reduceSub]
      cases h2 : k == 2 with
      | true =>
        simp -implicitDefEqProofs only [go_sem, List.reduceReplicate, Nat.reduceAdd, Nat.reduceSub, Nat.reduceLT, Nat.reduceLeDiff, Nat.reduceMul, Nat.reduceEqDiff, reduceCtorEq, Int.reduceLE, Int.reduceLT, Int.reduceEq, Int.reduceNe, Int.reduceBEq, Int.reduceBNe, Int.reduceAdd, Int.reduceSub, d]
        exact Fini.ret rfl
      | false =>
        simp -implicitDefEqProofs only [go_sem, List.reduceReplicate, Nat.reduceAdd, Nat.reduceSub, Nat.reduceLT, Nat.reduceLeDiff, Nat.reduceMul, Nat.reduceEqDiff, reduceCtorEq, Int.reduceLE, Int.reduceLT, Int.reduceEq, Int.reduceNe, Int.reduceBEq, Int.reduceBNe, Int.reduceAdd, Int.reduceSub]
        exact Fini.ret rfl
end Go.Proofs.Ytoadgajhkhejiaa
namespace Go.Proofs.Ytoadgajhkhejiaa
open Go Go.Ab
set_option maxRecDepth 100000
theorem before_ans (σ : St) (x y : Mtr) : Ans Try.prog 69 [mv3 x, mv3 y] σ (Bo (aheadD x y)) σ := by
  refine Ans.of_run t69 ?_
  unfold aheadD
  simp -implicitDefEqProofs only [c69, r69, go_sem, List.reduceReplicate, Nat.reduceAdd, Nat.reduceSub, Nat.reduceLT, Nat.reduceLeDiff, Nat.reduceMul, Nat.reduceEqDiff, reduceCtorEq, Int.reduceLE, Int.reduceLT, Int.reduceEq, Int.reduceNe, Int.reduceBEq, Int.reduceBNe, Int.reduceAdd, Int.reduceSub, mv3]
  cases h1 : (x.2.1.toList == y.2.1.toList) with
  | false =>
    simp -implicitDefEqProofs only [go_sem, List.reduceReplicate, Nat.reduceAdd, Nat.reduceSub, Nat.reduceLT, Nat.reduceLeDiff, Nat.reduceMul, Nat.reduceEqDiff, reduceCtorEq, Int.reduceLE, Int.reduceLT, Int.reduceEq, Int.reduceNe, Int.reduceBEq, Int.reduceBNe, Int.reduceAdd, Int.reduceSub]
    exact Fini.ret rfl
  | true =>
    simp -implicitDefEqProofs only [go_sem, List.reduceReplicate, Nat.reduceAdd, Nat.reduceSub, Nat.reduceLT, Nat.reduceLeDiff, Nat.reduceMul, Nat.reduceEqDiff, reduceCtorEq, Int.reduceLE, Int.reduceLT, Int.reduceEq, Int.reduceNe, Int.reduceBEq, Int.reduceBNe, Int.reduceAdd, Int.reduceSub]
    cases h2 : (x.1 == y.1) with
    | false =>
      simp -implicitDefEqProofs only [go_sem, List.reduceReplicate, Nat.reduceAdd, Nat.reduceSub, Nat.reduceLT, Nat.reduceLeDiff, Nat.reduceMul, Nat.reduceEqDiff, reduceCtorEq, Int.reduceLE, Int.reduceLT, Int.reduceEq, Int.reduceNe, Int.reduceBEq, Int.reduceBNe, Int.reduceAdd, Int.reduceSub, bne, h2]
      exact Fini.ret rfl
    | true =>
      simp -implicitDefEqProofs only [go_sem, List.reduceReplicate, Nat.reduceAdd, Nat.reduceSub, Nat.reduceLT, Nat.reduceLeDiff, Nat.reduceMul, Nat.reduceEqDiff, reduceCtorEq, Int.reduceLE, Int.reduceLT, Int.reduceEq, Int.reduceNe, Int.reduceBEq, Int.reduceBNe, Int.reduceAdd, Int.reduceSub, bne, h2]
      exact Fini.ret rfl
theorem mvs3_get (M : List Mtr) (i : Nat) (h : i < M.length) : (mvs3 M)[i]? = some (mv3 M[i]) := by simp [mvs3, h]
theorem mvs3_len (M : List Mtr) : (mvs3 M).length = M.length := List.length_map ..
abbrev noM3 : Mtr := (0, ⟨#[]⟩, ⟨#[]⟩)
def isM (x : Mtr) : Bool := isB x.1 x.2.1 x.2.2
def okL (M : List Mtr) (i : Nat) : Bool := isM (M.getD i noM3) && (i == 0 || aheadD (M.getD (i - 1) noM3) (M.getD i noM3))
def listB (M : List Mtr) : Bool := decide (M.length ≤ 5) && (List.range M.length).all (okL M)
theorem mget_D (M : List Mtr) (i : Nat) (h : i < M.length) : (mvs3 M)[i]? = some (mv3 (M.getD i noM3)) := by
  rw [mvs3_get M i h, List.getD_eq_getElem?_getD, List.getElem?_eq_getElem h]; rfl
theorem dlist_ans (σ : St) (M : List Mtr) (hs : ∀ x ∈ M, x.2.1.size ≤ 100000) : Ans Try.prog 26 [.sl 3 (mvs3 M)] σ (Bo (listB M)) σ := by
  refine Ans.of_run t26 ?_
  have d5 : decide ((5 : Int) < M.length) = decide (5 < M.length) := decN 5 _
  unfold listB
  simp -implicitDefEqProofs only [c26, r26, go_sem, List.reduceReplicate, Nat.reduceAdd, Nat.reduceSub, Nat.reduceLT, Nat.reduceLeDiff, Nat.reduceMul, Nat.reduceEqDiff, reduceCtorEq, Int.reduceLE, Int.reduceLT, Int.reduceEq, Int.reduceNe, Int.reduceBEq, Int.reduceBNe, Int.reduceAdd, Int.reduceSub, mvs3_len, d5]
  by_cases hl : M.length ≤ 5
  · rw [decide_eq_true hl, Bool.true_and]
    have h5 : decide (5 < M.length) = false := decide_eq_false (by omega)
    simp -implicitDefEqProofs only [go_sem, List.reduceReplicate, Nat.reduceAdd, Nat.reduceSub, Nat.reduceLT, Nat.reduceLeDiff, Nat.reduceMul, Nat.reduceEqDiff, reduceCtorEq, Int.reduceLE, Int.reduceLT, Int.reduceEq, Int.reduceNe, Int.reduceBEq, Int.reduceBNe, Int.reduceAdd, Int.reduceSub, h5]
    refine Go.Ab.L.scan M.length (okL M) (fun i => mkE 36 [(0, .sl 3 (mvs3 M)), (3, I i)]) (fun _ => σ) ?_ ?_ rfl rfl
    · intro i hi hp J hJ
      have hF : okL M i = false → (List.range M.length).all (okL M) = false := fun h => List.all_eq_false.2 ⟨i, List.mem_range.2 hi, by simp [h]⟩
      have hx := mget_D M i hi
      have hsz : (M.getD i noM3).2.1.size ≤ 100000 := by
        rw [List.getD_eq_getElem?_getD, List.getElem?_eq_getElem hi]; exact hs _ (List.getElem_mem hi)
      have hin := wrap_nat (n := i) (by omega)
      have hI := fun σ => dis_any σ (M.getD i noM3).1 (M.getD i noM3).2.1 (M.getD i noM3).2.2 hsz
      have hO : okL M i = (isB (M.getD i noM3).1 (M.getD i noM3).2.1 (M.getD i noM3).2.2 && (i == 0 || aheadD (M.getD (i - 1) noM3) (M.getD i noM3))) := rfl
      have d0 : decide ((0 : Int) < i) = decide (0 < i) := decN 0 i
      rw [hO] at hJ hF
      simp -implicitDefEqProofs only [mkE, List.foldl_cons, List.foldl_nil, go_sem, List.reduceReplicate, Nat.reduceAdd, Nat.reduceSub, Nat.reduceLT, Nat.reduceLeDiff, Nat.reduceMul, Nat.reduceEqDiff, reduceCtorEq, Int.reduceLE, Int.reduceLT, Int.reduceEq, Int.reduceNe, Int.reduceBEq, Int.reduceBNe, Int.reduceAdd, Int.reduceSub, mvs3_len, nat_lt hi, dec_lt hi, hx, mv3, D_callS]
      first | refine CD.intro (hI _) ?_ | refine CS.intro hI ?_
      generalize isB (M.getD i noM3).1 (M.getD i noM3).2.1 (M.getD i noM3).2.2 = b1 at hJ hF
      cases b1 with
      | false =>
        simp -implicitDefEqProofs only [go_sem, List.reduceReplicate, Nat.reduceAdd, Nat.reduceSub, Nat.reduceLT, Nat.reduceLeDiff, Nat.reduceMul, Nat.reduceEqDiff, reduceCtorEq, Int.reduceLE, Int.reduceLT, Int.reduceEq, Int.reduceNe, Int.reduceBEq, Int.reduceBNe, Int.reduceAdd, Int.reduceSub]
        refine Fini.ret' rfl (bo_congr ?_)
        rw [hF rfl]
      | true =>
        by_cases hz : i = 0
        · subst hz
          simp -implicitDefEqProofs only [go_sem, List.reduceReplicate, Nat.reduceAdd, Nat.reduceSub, Nat.reduceLT, Nat.reduceLeDiff, Nat.reduceMul, Nat.reduceEqDiff, reduceCtorEq, Int.reduceLE, Int.reduceLT, Int.reduceEq, Int.reduceNe, Int.reduceBEq, Int.reduceBNe, Int.reduceAdd, Int.reduceSub, hin, D_callS, Int.natCast_zero]
          exact hJ rfl
        · have hpos : decide (0 < i) = true := by simp; omega
          have hx1 := mget_D M (i - 1) (by omega)
          have hB := fun σ => before_ans σ (M.getD (i - 1) noM3) (M.getD i noM3)
          have w1 : IntKind.i64.wrap ((i : Int) - 1) = ((i - 1 : Nat) : Int) := by rw [wrapN (by omega) (by omega)]; omega
          have hlt1 : (((i - 1 : Nat) : Int) < M.length) = True := by simp; omega
          have hz' : (i == 0) = false := by simpa using hz
          rw [hz'] at hJ hF
          simp -implicitDefEqProofs only [go_sem, List.reduceReplicate, Nat.reduceAdd, Nat.reduceSub, Nat.reduceLT, Nat.reduceLeDiff, Nat.reduceMul, Nat.reduceEqDiff, reduceCtorEq, Int.reduceLE, Int.reduceLT, Int.reduceEq, Int.reduceNe, Int.reduceBEq, Int.reduceBNe, Int.reduceAdd, Int.reduceSub, d0, hpos, w1, mvs3_len, nat_lt hi, dec_lt hi, hlt1, hx, hx1, D_callS, mv3]
          first | refine CD.intro (hB _) ?_ | refine CS.intro hB ?_
          generalize aheadD (M.getD (i - 1) noM3) (M.getD i noM3) = b2 at hJ hF
          cases b2 with
          | true =>
            simp -implicitDefEqProofs only [go_sem, List.reduceReplicate, Nat.reduceAdd, Nat.reduceSub, Nat.reduceLT, Nat.reduceLeDiff, Nat.reduceMul, Nat.reduceEqDiff, reduceCtorEq, Int.reduceLE, Int.reduceLT, Int.reduceEq, Int.reduceNe, Int.reduceBEq, Int.reduceBNe, Int.reduceAdd, Int.reduceSub, hin]
            exact hJ rfl
          | false =>
            simp -implicitDefEqProofs only [go_sem, List.reduceReplicate, Nat.reduceAdd, Nat.reduceSub, Nat.reduceLT, Nat.reduceLeDiff, Nat.reduceMul, Nat.reduceEqDiff, reduceCtorEq, Int.reduceLE, Int.reduceLT, Int.reduceEq, Int.reduceNe, Int.reduceBEq, Int.reduceBNe, Int.reduceAdd, Int.reduceSub]
            refine Fini.ret' rfl (bo_congr ?_)
            rw [hF rfl]
    · intro hp J
      have hd : decide ((M.length : Int) < M.length) = false := by simp
      simp -implicitDefEqProofs only [mkE, List.foldl_cons, List.foldl_nil, go_sem, List.reduceReplicate, Nat.reduceAdd, Nat.reduceSub, Nat.reduceLT, Nat.reduceLeDiff, Nat.reduceMul, Nat.reduceEqDiff, reduceCtorEq, Int.reduceLE, Int.reduceLT, Int.reduceEq, Int.reduceNe, Int.reduceBEq, Int.reduceBNe, Int.reduceAdd, Int.reduceSub, mvs3_len, hd]
      refine Fini.ret' rfl (bo_congr ?_)
      exact (List.all_eq_true.2 fun i hi => hp i (List.mem_range.1 hi)).symm
  · rw [decide_eq_false hl, Bool.false_and]
    have h5 : decide (5 < M.length) = true := decide_eq_true (by omega)
    simp -implicitDefEqProofs only [go_sem, List.reduceReplicate, Nat.reduceAdd, Nat.reduceSub, Nat.reduceLT, Nat.reduceLeDiff, Nat.reduceMul, Nat.reduceEqDiff, reduceCtorEq, Int.reduceLE, Int.reduceLT, Int.reduceEq, Int.reduceNe, Int.reduceBEq, Int.reduceBNe, Int.reduceAdd, Int.reduceSub, h5]
    exact Fini.ret rfl
end Go.Proofs.Ytoadgajhkhejiaa
namespace Go.Proofs.Ytoadgajhkhejiaa
open Go Go.Ab
set_option maxRecDepth 100000
theorem bel_mvs3 (n : Nat) (M : List Mtr) : Bel n (.sl 3 (mvs3 M)) := by
  refine .sl 3 _ fun i hi => ?_
  have : ∀ y ∈ mvs3 M, Bel n y := by
    intro y hy
    simp only [mvs3, List.mem_map] at hy
    obtain ⟨x, _, rfl⟩ := hy
    refine .agg _ fun i hi => ?_
    have : ∀ y ∈ ([I x.1, Sx x.2.1, Sx x.2.2] : List AV), Bel n y := by
      intro y hy
      simp only [List.mem_cons, List.not_mem_nil, or_false] at hy
      rcases hy with rfl | rfl | rfl <;> exact .pl _
    exact this _ (List.getElem_mem hi)
  exact this _ (List.getElem_mem hi)
theorem BL_mvs (n : Nat) (M : List Mtr) : Bel n (.sl 3 (mvs3 M)) = True := eq_true (bel_mvs3 n M)
theorem memM (n : Nat) (k : Int) (a b : ByteArray) : ∀ y ∈ ([I k, Sx a, Sx b] : List AV), Bel n y := by
  intro y hy
  simp only [List.mem_cons, List.not_mem_nil, or_false] at hy
  rcases hy with rfl | rfl | rfl <;> exact .pl _
theorem BL_mat (n : Nat) (k : Int) (a b : ByteArray) : Bel n (.agg [I k, Sx a, Sx b]) = True := eq_true (.agg _ fun i hi => memM n k a b _ (List.getElem_mem hi))
theorem BL_rp (n : Nat) (k : Int) (a b : ByteArray) : Bel n (.rp [I k, Sx a, Sx b]) = True := eq_true (.rp _ fun i hi => memM n k a b _ (List.getElem_mem hi))
theorem list_any (σ : St) (M : List Mtr) : Ans Try.prog 24 [.sl 3 (mvs3 M)] σ (Bo (listB M)) σ := by
  refine Ans.of_run' t24 (fun hbel _ => ?_)
  have d5 : decide ((5 : Int) < M.length) = decide (5 < M.length) := decN 5 _
  have hb0 : (∀ o ∈ σ, BelO σ.length o) = True := eq_true hbel
  unfold listB
  simp -implicitDefEqProofs only [c24, r24, go_sem, List.reduceReplicate, Nat.reduceAdd, Nat.reduceSub, Nat.reduceLT, Nat.reduceLeDiff, Nat.reduceMul, Nat.reduceEqDiff, reduceCtorEq, Int.reduceLE, Int.reduceLT, Int.reduceEq, Int.reduceNe, Int.reduceBEq, Int.reduceBNe, Int.reduceAdd, Int.reduceSub, mvs3_len, d5]
  by_cases hl : M.length ≤ 5
  · rw [decide_eq_true hl, Bool.true_and]
    have h5 : decide (5 < M.length) = false := decide_eq_false (by omega)
    simp -implicitDefEqProofs only [go_sem, List.reduceReplicate, Nat.reduceAdd, Nat.reduceSub, Nat.reduceLT, Nat.reduceLeDiff, Nat.reduceMul, Nat.reduceEqDiff, reduceCtorEq, Int.reduceLE, Int.reduceLT, Int.reduceEq, Int.reduceNe, Int.reduceBEq, Int.reduceBNe, Int.reduceAdd, Int.reduceSub, h5, mvs3_len]
    refine Go.Ab.L.scan M.length (okL M) (fun i => mkE 33 [(0, .sl 3 (mvs3 M)), (8, .sl 3 (mvs3 M)), (9, I M.length), (10, I i)]) (fun _ => σ) ?_ ?_ rfl rfl
    · intro i hi hp J hJ
      have htk : ∀ x : Ob, (σ ++ [x]).take σ.length = σ := fun x => List.take_left' rfl
      have hF : okL M i = false → (List.range M.length).all (okL M) = false := fun h => List.all_eq_false.2 ⟨i, List.mem_range.2 hi, by simp [h]⟩
      have hx := mget_D M i hi
      have hin := wrap_nat (n := i) (by omega)
      have hI := fun σ => is_any σ (M.getD i noM3).1 (M.getD i noM3).2.1 (M.getD i noM3).2.2
      have hO : okL M i = (isB (M.getD i noM3).1 (M.getD i noM3).2.1 (M.getD i noM3).2.2 && (i == 0 || aheadD (M.getD (i - 1) noM3) (M.getD i noM3))) := rfl
      have d0 : decide ((0 : Int) < i) = decide (0 < i) := decN 0 i
      rw [hO] at hJ hF
      simp -implicitDefEqProofs only [mkE, List.foldl_cons, List.foldl_nil, go_sem, List.reduceReplicate, Nat.reduceAdd, Nat.reduceSub, Nat.reduceLT, Nat.reduceLeDiff, Nat.reduceMul, Nat.reduceEqDiff, reduceCtorEq, Int.reduceLE, Int.reduceLT, Int.reduceEq, Int.reduceNe, Int.reduceBEq, Int.reduceBNe, Int.reduceAdd, Int.reduceSub, mvs3_len, nat_lt hi, dec_lt hi, hx, mv3, D_callS, g0, s0, List.drop_nil]
      first | refine CD.intro (hI _) ?_ | refine CS.intro hI ?_
      generalize isB (M.getD i noM3).1 (M.getD i noM3).2.1 (M.getD i noM3).2.2 = b1 at hJ hF
      cases b1 with
      | false =>
        simp -implicitDefEqProofs only [go_sem, List.reduceReplicate, Nat.reduceAdd, Nat.reduceSub, Nat.reduceLT, Nat.reduceLeDiff, Nat.reduceMul, Nat.reduceEqDiff, reduceCtorEq, Int.reduceLE, Int.reduceLT, Int.reduceEq, Int.reduceNe, Int.reduceBEq, Int.reduceBNe, Int.reduceAdd, Int.reduceSub, D_callS, g0, s0]
        rw [hF rfl]
        exact Fini.trim2 (σ' := σ) rfl rfl (Nat.le_refl _) (.pl _) hbel
      | true =>
        by_cases hz : i = 0
        · subst hz
          have hgo := hJ rfl
          simp -implicitDefEqProofs only [go_sem, List.reduceReplicate, Nat.reduceAdd, Nat.reduceSub, Nat.reduceLT, Nat.reduceLeDiff, Nat.reduceMul, Nat.reduceEqDiff, reduceCtorEq, Int.reduceLE, Int.reduceLT, Int.reduceEq, Int.reduceNe, Int.reduceBEq, Int.reduceBNe, Int.reduceAdd, Int.reduceSub, hin, D_callS, g0, s0, Int.natCast_zero, B_pl, B_any, B_nils, B_tup, B_osl, B_ptr, B_sl0, BL_mvs, BL_mat, BL_rp, htk, Nat.add_zero, hb0, List.length_append]
          exact ⟨by omega, hgo⟩
        · have hpos : decide (0 < i) = true := by simp; omega
          have hx1 := mget_D M (i - 1) (by omega)
          have hB := fun σ => compare_ans σ (M.getD (i - 1) noM3) (M.getD i noM3)
          have hc := cmp3_aheadD (M.getD (i - 1) noM3) (M.getD i noM3)
          have w1 : IntKind.i64.wrap ((i : Int) - 1) = ((i - 1 : Nat) : Int) := by rw [wrapN (by omega) (by omega)]; omega
          have hlt1 : (((i - 1 : Nat) : Int) < M.length) = True := by simp; omega
          have hz' : (i == 0) = false := by simpa using hz
          rw [hz'] at hJ hF
          simp -implicitDefEqProofs only [go_sem, List.reduceReplicate, Nat.reduceAdd, Nat.reduceSub, Nat.reduceLT, Nat.reduceLeDiff, Nat.reduceMul, Nat.reduceEqDiff, reduceCtorEq, Int.reduceLE, Int.reduceLT, Int.reduceEq, Int.reduceNe, Int.reduceBEq, Int.reduceBNe, Int.reduceAdd, Int.reduceSub, d0, hpos, w1, mvs3_len, nat_lt hi, dec_lt hi, hlt1, hx, hx1, D_callS, mv3, g0, s0]
          first | refine CD.intro (hB _) ?_ | refine CS.intro hB ?_
          generalize aheadD (M.getD (i - 1) noM3) (M.getD i noM3) = b2 at hJ hF hc
          generalize cmp3 (M.getD (i - 1) noM3) (M.getD i noM3) = cc at hc
          cases b2 with
          | true =>
            have hgo := hJ rfl
            simp -implicitDefEqProofs only [go_sem, List.reduceReplicate, Nat.reduceAdd, Nat.reduceSub, Nat.reduceLT, Nat.reduceLeDiff, Nat.reduceMul, Nat.reduceEqDiff, reduceCtorEq, Int.reduceLE, Int.reduceLT, Int.reduceEq, Int.reduceNe, Int.reduceBEq, Int.reduceBNe, Int.reduceAdd, Int.reduceSub, hc, hin, g0, s0, B_pl, B_any, B_nils, B_tup, B_osl, B_ptr, B_sl0, BL_mvs, BL_mat, BL_rp, htk, Nat.add_zero, hb0, List.length_append, Bool.not_true]
            exact ⟨by omega, hgo⟩
          | false =>
            simp -implicitDefEqProofs only [go_sem, List.reduceReplicate, Nat.reduceAdd, Nat.reduceSub, Nat.reduceLT, Nat.reduceLeDiff, Nat.reduceMul, Nat.reduceEqDiff, reduceCtorEq, Int.reduceLE, Int.reduceLT, Int.reduceEq, Int.reduceNe, Int.reduceBEq, Int.reduceBNe, Int.reduceAdd, Int.reduceSub, hc, Bool.not_false, g0, s0]
            rw [hF rfl]
            exact Fini.trim2 (σ' := σ) rfl rfl (Nat.le_refl _) (.pl _) hbel
    · intro hp J
      have hd : decide ((M.length : Int) < M.length) = false := by simp
      simp -implicitDefEqProofs only [mkE, List.foldl_cons, List.foldl_nil, go_sem, List.reduceReplicate, Nat.reduceAdd, Nat.reduceSub, Nat.reduceLT, Nat.reduceLeDiff, Nat.reduceMul, Nat.reduceEqDiff, reduceCtorEq, Int.reduceLE, Int.reduceLT, Int.reduceEq, Int.reduceNe, Int.reduceBEq, Int.reduceBNe, Int.reduceAdd, Int.reduceSub, mvs3_len, hd]
      refine Fini.ret' rfl (bo_congr ?_)
      exact (List.all_eq_true.2 fun i hi => hp i (List.mem_range.1 hi)).symm
  · rw [decide_eq_false hl, Bool.false_and]
    have h5 : decide (5 < M.length) = true := decide_eq_true (by omega)
    simp -implicitDefEqProofs only [go_sem, List.reduceReplicate, Nat.reduceAdd, Nat.reduceSub, Nat.reduceLT, Nat.reduceLeDiff, Nat.reduceMul, Nat.reduceEqDiff, reduceCtorEq, Int.reduceLE, Int.reduceLT, Int.reduceEq, Int.reduceNe, Int.reduceBEq, Int.reduceBNe, Int.reduceAdd, Int.reduceSub, h5]
    exact Fini.ret rfl
end Go.Proofs.Ytoadgajhkhejiaa
namespace Go.Proofs.Ytoadgajhkhejiaa
open Go Go.Ab Go.Cod
set_option maxRecDepth 100000
def mkM (x : UInt8 × ByteArray × ByteArray) : Mtr := ((x.1.toNat : Int), x.2.1, x.2.2)
def mtrR : Rd Mtr := dressR (seqR byteR (seqR (textR 12) (textR 40))) mkM
def listR : Rd (List Mtr) := onlyR (rowR 5 mtrR) listB
def putM (x : Mtr) : Byt := x.1.toNat.toUInt8 :: (txtB x.2.1 ++ txtB x.2.2)
def putL (M : List Mtr) : Byt := laidRow putM M
theorem ends_mtr : EndsR mtrR := ends_dress (ends_seq ends_byte (ends_seq (ends_text 12) (ends_text 40))) _
theorem mtr_fits : Fits mtrR putM (fun x => 0 ≤ x.1 ∧ x.1 < 256 ∧ x.2.1.size ≤ 12 ∧ x.2.2.size ≤ 40) := by
  refine dress_fits (seq_fits byte_fits (seq_fits (text_fits (by decide)) (text_fits (by decide)))) (g := fun x => (x.1.toNat.toUInt8, x.2.1, x.2.2)) ?_ ?_
  · rintro ⟨c, n, v⟩ ⟨_, h1, h2⟩
    have := c.toNat_lt
    refine ⟨⟨by simp only [mkM]; omega, by simp only [mkM]; omega, h1, h2⟩, ?_⟩
    simp only [putM, mkM, Int.toNat_natCast, toUInt8_toNat]
    rfl
  · rintro ⟨k, n, v⟩ ⟨h0, h1, h2, h3⟩
    refine ⟨⟨trivial, h2, h3⟩, ?_⟩
    simp only at h0 h1
    have : (k.toNat.toUInt8.toNat : Int) = k := by rw [toNat_toUInt8 (by omega)]; omega
    simp only [mkM, this]
theorem pparse_size {s : ByteArray} (h : (pparse s).2 = true) : s.size ≤ 40 := by
  unfold pparse at h
  rcases Nat.lt_or_ge 40 s.size with h40 | h40
  · exfalso
    have := (fwd_PW s 8 0 true).2 rfl
    simp [h40, this] at h
  · exact h40
theorem isB_kind {k : Int} {nm v : ByteArray} (h : isB k nm v = true) : (1 ≤ k ∧ k ≤ 4) ∧ nm.size ≤ 12 ∧ v.size ≤ 40 := by
  unfold isB nameB at h
  simp only [Bool.and_eq_true, decide_eq_true_eq] at h
  obtain ⟨⟨⟨⟨_, hn⟩, _⟩, _⟩, h2⟩ := h
  split at h2
  · rename_i hl
    unfold likeB at hl
    simp only [Bool.or_eq_true, beq_iff_eq] at hl
    exact ⟨by omega, hn, pparse_size h2⟩
  · simp only [Bool.and_eq_true, Bool.or_eq_true, beq_iff_eq, decide_eq_true_eq] at h2
    exact ⟨by omega, hn, by omega⟩
theorem listB_fits : Fits listR putL (fun M => listB M = true) := by
  refine (only_fits (row_fits (by decide) mtr_fits) listB).weaken fun M => ⟨fun h => h.2, fun h => ⟨?_, h⟩⟩
  unfold listB at h
  simp only [Bool.and_eq_true, decide_eq_true_eq] at h
  refine ⟨h.1, fun x hx => ?_⟩
  obtain ⟨i, hi, rfl⟩ := List.getElem_of_mem hx
  have h2 := List.all_eq_true.1 h.2 i (List.mem_range.2 hi)
  unfold okL isM at h2
  simp only [Bool.and_eq_true] at h2
  have e : M.getD i noM3 = M[i] := by rw [List.getD_eq_getElem?_getD, List.getElem?_eq_getElem hi]; rfl
  rw [e] at h2
  have := isB_kind h2.1
  omega
def mtrS (b : Byt) (q : Nat × Bool) : Mtr × (Nat × Bool) := dressSt (seqSt (runR byteR 0 b) (seqSt (runR (textR 12) ⟨#[]⟩ b) (runR (textR 40) ⟨#[]⟩ b))) mkM q
theorem steps_mtr (b : Byt) : StepsR b mtrR (mtrS b) := steps_dress (steps_seq (steps_run b byteR 0) (steps_seq (steps_run b _ _) (steps_run b _ _) (ends_text 12)) ends_byte) _
def listS (b : Byt) : Nat × Bool → List Mtr × (Nat × Bool) := onlySt (rowSt 5 b (mtrS b)) listB
theorem steps_list (b : Byt) : StepsR b listR (listS b) := steps_only (steps_row (steps_mtr b) ends_mtr 5) _
def readV {α : Type} (r : Option (α × Byt)) (b : Byt) (enc : α → AV) (none_ : AV) : AV := match r with
  | some p => .tup [enc p.1, I (b.length - p.2.length : Nat), Bo true]
  | none => .tup [none_, I 0, Bo false]
theorem runR_le {most : Nat} (b : Byt) (q : Nat × Bool) : (runR (numR most) 0 b q).1 ≤ most := by
  unfold runR
  split
  · exact Nat.zero_le _
  · split
    · exact Nat.zero_le _
    · rename_i p h
      simp only [numR] at h
      cases hg : getN 0 (b.drop q.1) with
      | none => simp [hg] at h
      | some x =>
        simp only [hg, Option.bind_some] at h
        split at h
        · simp only [Option.some.injEq] at h; rw [← h]; assumption
        · cases h
theorem mvs3_snoc (M : List Mtr) (x : Mtr) : mvs3 M ++ [mv3 x] = mvs3 (M ++ [x]) := by simp [mvs3]
theorem bel_tup3 {n : Nat} {x : AV} {i : Int} {c : Bool} (h : Bel n x) : Bel n (.tup [x, I i, Bo c]) := .tup _ fun j hj => by
  have : ∀ y ∈ ([x, I i, Bo c] : List AV), Bel n y := by
    intro y hy
    simp only [List.mem_cons, List.not_mem_nil, or_false] at hy
    rcases hy with rfl | rfl | rfl
    · exact h
    · exact .pl _
    · exact .pl _
  exact this _ (List.getElem_mem hj)
theorem mread_ans0 (σ : St) (b : Byt) (hb : b.length ≤ 50000) : Ans Try.prog 41 [.sl 1 (byv b)] σ (readV (listR b) b (fun M => .sl 3 (mvs3 M)) .nils) σ := by
  have hS := (steps_list b).top
  refine Ans.of_run' t41 (fun hbel _ => ?_)
  simp -implicitDefEqProofs only [c41, r41, go_sem, List.reduceReplicate, Nat.reduceAdd, Nat.reduceSub, Nat.reduceLT, Nat.reduceLeDiff, Nat.reduceMul, Nat.reduceEqDiff, reduceCtorEq, Int.reduceLE, Int.reduceLT, Int.reduceEq, Int.reduceNe, Int.reduceBEq, Int.reduceBNe, Int.reduceAdd, Int.reduceSub]
  refine CO.intro (new_ans σ b) ?_
  simp -implicitDefEqProofs only [go_sem, List.reduceReplicate, Nat.reduceAdd, Nat.reduceSub, Nat.reduceLT, Nat.reduceLeDiff, Nat.reduceMul, Nat.reduceEqDiff, reduceCtorEq, Int.reduceLE, Int.reduceLT, Int.reduceEq, Int.reduceNe, Int.reduceBEq, Int.reduceBNe, Int.reduceAdd, Int.reduceSub, List.append_assoc, List.length_append]
  generalize hq1 : runR (numR 5) 0 b (0, false) = q1
  have hin0 : Inb b (0, false) := Nat.zero_le _
  have hn := num_ans (σ ++ [rob b (0, false), .row 3 []]) σ.length b (0, false) 5 (by decide) (g0 _ _ _) hin0 hb
  rw [hq1, s0] at hn
  refine CO.intro hn ?_
  have hn5 : q1.1 ≤ 5 := by rw [← hq1]; exact runR_le b _
  have hin1 : Inb b q1.2 := by rw [← hq1]; exact run_inb _ _ _ _ hin0
  simp -implicitDefEqProofs only [go_sem, List.reduceReplicate, Nat.reduceAdd, Nat.reduceSub, Nat.reduceLT, Nat.reduceLeDiff, Nat.reduceMul, Nat.reduceEqDiff, reduceCtorEq, Int.reduceLE, Int.reduceLT, Int.reduceEq, Int.reduceNe, Int.reduceBEq, Int.reduceBNe, Int.reduceAdd, Int.reduceSub]
  refine Go.Ab.L.count q1.1 (fun i => mkE 40 [(5, .ptr σ.length 0), (6, .osl (σ.length + 1) i), (12, UN q1.1), (13, UN i)]) (fun i => σ ++ [rob b (itSt (mtrS b) q1.2 i).2, .row 3 (mvs3 (itSt (mtrS b) q1.2 i).1)]) ?_ ?_ rfl rfl
  · intro i hi J hJ
    have hitI := itSt_inb (steps_mtr b).inb q1.2 hin1 i
    have hlen := itSt_len (mtrS b) q1.2 i
    simp only [itSt] at hJ
    generalize itSt (mtrS b) q1.2 i = c at hJ hitI hlen ⊢
    obtain ⟨l, q⟩ := c
    simp only at hJ hitI hlen ⊢
    have d0 : decide ((i : Int) < q1.1) = true := dec_lt hi
    have w0 := wrapUN (n := i + 1) (by omega)
    have e0 : ((i : Int) + 1) = ((i + 1 : Nat) : Int) := rfl
    unfold mtrS dressSt seqSt at hJ
    simp only at hJ
    simp -implicitDefEqProofs only [mkE, List.foldl_cons, List.foldl_nil, go_sem, List.reduceReplicate, Nat.reduceAdd, Nat.reduceSub, Nat.reduceLT, Nat.reduceLeDiff, Nat.reduceMul, Nat.reduceEqDiff, reduceCtorEq, Int.reduceLE, Int.reduceLT, Int.reduceEq, Int.reduceNe, Int.reduceBEq, Int.reduceBNe, Int.reduceAdd, Int.reduceSub, d0]
    have h1 := byte_ans' (σ ++ [rob b q, .row 3 (mvs3 l)]) σ.length b q (g0 _ _ _) hitI hb
    have hi2 := run_inb byteR 0 b q hitI
    generalize runR byteR 0 b q = r1 at h1 hi2 hJ
    rw [s0] at h1
    refine CO.intro h1 ?_
    have h2 := text_ans (σ ++ [rob b r1.2, .row 3 (mvs3 l)]) σ.length b r1.2 12 (by decide) (g0 _ _ _) hi2 hb
    have hi3 := run_inb (textR 12) ⟨#[]⟩ b r1.2 hi2
    generalize runR (textR 12) ⟨#[]⟩ b r1.2 = r2 at h2 hi3 hJ
    rw [s0] at h2
    simp -implicitDefEqProofs only [go_sem, List.reduceReplicate, Nat.reduceAdd, Nat.reduceSub, Nat.reduceLT, Nat.reduceLeDiff, Nat.reduceMul, Nat.reduceEqDiff, reduceCtorEq, Int.reduceLE, Int.reduceLT, Int.reduceEq, Int.reduceNe, Int.reduceBEq, Int.reduceBNe, Int.reduceAdd, Int.reduceSub, bc]
    refine CO.intro h2 ?_
    have h3 := text_ans (σ ++ [rob b r2.2, .row 3 (mvs3 l)]) σ.length b r2.2 40 (by decide) (g0 _ _ _) hi3 hb
    generalize runR (textR 40) ⟨#[]⟩ b r2.2 = r3 at h3 hJ
    rw [s0] at h3
    simp -implicitDefEqProofs only [go_sem, List.reduceReplicate, Nat.reduceAdd, Nat.reduceSub, Nat.reduceLT, Nat.reduceLeDiff, Nat.reduceMul, Nat.reduceEqDiff, reduceCtorEq, Int.reduceLE, Int.reduceLT, Int.reduceEq, Int.reduceNe, Int.reduceBEq, Int.reduceBNe, Int.reduceAdd, Int.reduceSub]
    refine CO.intro h3 ?_
    have hl : (mvs3 l).length = i := by rw [mvs3_len, hlen]
    have hw : IntKind.i64.wrap (r1.1.toNat : Int) = (r1.1.toNat : Int) := wrapI (by have := r1.1.toNat_lt; omega)
    have hle : i + 1 ≤ 4294967296 := by omega
    have hsn := mvs3_snoc l (mkM (r1.1, r2.1, r3.1))
    simp -implicitDefEqProofs only [go_sem, List.reduceReplicate, Nat.reduceAdd, Nat.reduceSub, Nat.reduceLT, Nat.reduceLeDiff, Nat.reduceMul, Nat.reduceEqDiff, reduceCtorEq, Int.reduceLE, Int.reduceLT, Int.reduceEq, Int.reduceNe, Int.reduceBEq, Int.reduceBNe, Int.reduceAdd, Int.reduceSub, hw, g1, s1, hl, hle, List.length_singleton, e0, w0]
    rw [← hsn] at hJ
    exact hJ
  · intro J
    have hitI := itSt_inb (steps_mtr b).inb q1.2 hin1 q1.1
    have hlen := itSt_len (mtrS b) q1.2 q1.1
    have hL : listS b (0, false) = ((itSt (mtrS b) q1.2 q1.1).1, took (itSt (mtrS b) q1.2 q1.1).2 0 (listB (itSt (mtrS b) q1.2 q1.1).1)) := by
      unfold listS onlySt rowSt
      rw [hq1]
    rw [hL] at hS
    generalize itSt (mtrS b) q1.2 q1.1 = c at hS hitI hlen ⊢
    obtain ⟨l, q⟩ := c
    simp only at hS hitI hlen ⊢
    have hl : (mvs3 l).length = q1.1 := by rw [mvs3_len, hlen]
    have d0 : decide ((q1.1 : Int) < q1.1) = false := by simp
    simp -implicitDefEqProofs only [mkE, List.foldl_cons, List.foldl_nil, go_sem, List.reduceReplicate, Nat.reduceAdd, Nat.reduceSub, Nat.reduceLT, Nat.reduceLeDiff, Nat.reduceMul, Nat.reduceEqDiff, reduceCtorEq, Int.reduceLE, Int.reduceLT, Int.reduceEq, Int.reduceNe, Int.reduceBEq, Int.reduceBNe, Int.reduceAdd, Int.reduceSub, d0, g1, s1, hl]
    refine CO.intro (list_any _ l) ?_
    have h2 := refuse_ans (σ ++ [rob b q, .dead]) σ.length b q (listB l) (g0 _ _ _) hitI hb
    rw [s0] at h2
    simp -implicitDefEqProofs only [go_sem, List.reduceReplicate, Nat.reduceAdd, Nat.reduceSub, Nat.reduceLT, Nat.reduceLeDiff, Nat.reduceMul, Nat.reduceEqDiff, reduceCtorEq, Int.reduceLE, Int.reduceLT, Int.reduceEq, Int.reduceNe, Int.reduceBEq, Int.reduceBNe, Int.reduceAdd, Int.reduceSub]
    refine CO.intro h2 ?_
    have h3 := end_ans (σ ++ [rob b (took q 0 (listB l)), .dead]) σ.length b (took q 0 (listB l)) (g0 _ _ _)
    simp -implicitDefEqProofs only [go_sem, List.reduceReplicate, Nat.reduceAdd, Nat.reduceSub, Nat.reduceLT, Nat.reduceLeDiff, Nat.reduceMul, Nat.reduceEqDiff, reduceCtorEq, Int.reduceLE, Int.reduceLT, Int.reduceEq, Int.reduceNe, Int.reduceBEq, Int.reduceBNe, Int.reduceAdd, Int.reduceSub]
    refine CO.intro h3 ?_
    have hbm : Bel σ.length (.sl 3 (mvs3 l)) := bel_mvs3 _ _
    cases hr : listR b with
    | none =>
      have hb2 := hS.2 hr
      rw [hb2]
      simp -implicitDefEqProofs only [go_sem, List.reduceReplicate, Nat.reduceAdd, Nat.reduceSub, Nat.reduceLT, Nat.reduceLeDiff, Nat.reduceMul, Nat.reduceEqDiff, reduceCtorEq, Int.reduceLE, Int.reduceLT, Int.reduceEq, Int.reduceNe, Int.reduceBEq, Int.reduceBNe, Int.reduceAdd, Int.reduceSub]
      exact Fini.trim2 (σ' := σ) rfl rfl (Nat.le_refl _) (by unfold readV; exact bel_tup3 .nils) hbel
    | some p =>
      obtain ⟨M, t⟩ := p
      have hb2 := hS.1 M t hr
      simp only [Prod.mk.injEq] at hb2
      obtain ⟨rfl, hb2⟩ := hb2
      rw [hb2]
      simp -implicitDefEqProofs only [go_sem, List.reduceReplicate, Nat.reduceAdd, Nat.reduceSub, Nat.reduceLT, Nat.reduceLeDiff, Nat.reduceMul, Nat.reduceEqDiff, reduceCtorEq, Int.reduceLE, Int.reduceLT, Int.reduceEq, Int.reduceNe, Int.reduceBEq, Int.reduceBNe, Int.reduceAdd, Int.reduceSub]
      refine Fini.trim2 (σ' := σ) rfl rfl (Nat.le_refl _) ?_ hbel
      unfold readV
      exact bel_tup3 hbm
theorem mread_ans (σ : St) (b : Byt) (hb : b.length ≤ 50000) : Ans Try.prog 41 [.sl 1 (byv b)] σ (readV (listR b) b (fun M => .sl 3 (mvs3 M)) (.sl 3 [])) σ := by
  refine (mread_ans0 σ b hb).subR ?_
  unfold readV
  cases listR b with
  | none => exact .tup (.cons (.nils 3) (.refl _))
  | some p => exact .refl _
end Go.Proofs.Ytoadgajhkhejiaa
