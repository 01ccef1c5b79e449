/- The document's parser of patterns: an atom, and how often. No condition. -/
import Derived.Test.YtoiageeecdgleaaDoc2
set_option linter.unusedSimpArgs false
set_option linter.unusedVariables false
namespace Go.Proofs.Ytoiageeecdgleaa
open Go Go.Ab
set_option maxRecDepth 100000
open Rex

abbrev DF := Nat → Rex × Nat × Nat × Bool
def fullS : List Int := [18446744073709551615, 18446744073709551615, 18446744073709551615, 18446744073709551615]
def datom (s : ByteArray) (F : DF) (d : Nat) : DF := fun a =>
  let c := byteAt s a
  if c == 46 then (ofSet fullS, a + 1, d, false)
  else if c == 92 then
    if over s (a + 1) false || !signs.contains (byteAt s (a + 1)) then (zeroR, a + 1, d, true) else (ofSet (oneS (byteAt s (a + 1))), a + 2, d, false)
  else if c == 40 then
    if decide (8 < d + 1) then (zeroR, a + 1, d + 1, true)
    else if sees s (F (a + 1)).2.1 (F (a + 1)).2.2.2 41 then ((F (a + 1)).1, (F (a + 1)).2.1 + 1, d, false)
    else (zeroR, (F (a + 1)).2.1, (F (a + 1)).2.2.1, true)
  else if c == 91 then ((dclass s (a + 1)).1, (dclass s (a + 1)).2.1, d, (dclass s (a + 1)).2.2)
  else if specials.contains c then (zeroR, a + 1, d, true)
  else (ofSet (oneS c), a + 1, d, false)
def dfactor (s : ByteArray) (F : DF) : DF := fun a =>
  let x := F a
  if sees s x.2.1 x.2.2.2 42 then (.mk 4 0 0 0 0 [x.1], x.2.1 + 1, x.2.2.1, x.2.2.2)
  else if sees s x.2.1 x.2.2.2 43 then (.mk 5 0 0 0 0 [x.1], x.2.1 + 1, x.2.2.1, x.2.2.2)
  else if sees s x.2.1 x.2.2.2 63 then (.mk 6 0 0 0 0 [x.1], x.2.1 + 1, x.2.2.1, x.2.2.2)
  else x

def DAns (f : FuncId) (g : Bool) (s : ByteArray) (d : Nat) (F : DF) : Prop :=
  ∀ (σ : St) (p a : Nat), p < σ.length → s.size ≤ 40 → (g = true → a < s.size) →
    Ans Try.prog f [.ptr p 0] (σ.set p (dob s a d false)) (F a).1.rv (σ.set p (dob s (F a).2.1 (F a).2.2.1 (F a).2.2.2))

section
variable {σ : St} {p : Nat} {s : ByteArray}
theorem DAns.ex {f : FuncId} {g : Bool} {d : Nat} {F : DF} (h : DAns f g s d F) (hp : p < σ.length) (a : Nat) (hs : s.size ≤ 40) (hg : g = true → a < s.size) (ex : St) :
    Ans Try.prog f [.ptr p 0] (σ.set p (dob s a d false) ++ ex) (F a).1.rv (σ.set p (dob s (F a).2.1 (F a).2.2.1 (F a).2.2.2) ++ ex) := by
  have := h (σ.set p (dob s a d false) ++ ex) p a (by simp; omega) hs hg
  rwa [sA hp, sA hp] at this
theorem dclass_ex (hp : p < σ.length) (a d : Nat) (hs : s.size ≤ 40) (ex : St) : Ans Try.prog 55 [.ptr p 0] (σ.set p (dob s a d false) ++ ex) (dclass s a).1.rv (σ.set p (dob s (dclass s a).2.1 d (dclass s a).2.2) ++ ex) := by
  have := dclass_ans (σ.set p (dob s a d false) ++ ex) p s a d (by simp; omega) hs
  rwa [sA hp, sA hp] at this
end
theorem oneS_len (c : Nat) : (oneS c).length = 4 := by simp [oneS]
theorem dclass_ks (s : ByteArray) (a : Nat) : (dclass s a).1.ks = [] := by
  unfold dclass dOut
  split <;> rfl

section
variable (s : ByteArray)
set_option maxHeartbeats 4000000 in
theorem datom_ans (F : DF) (d : Nat) (hd : d ≤ 8) (hF : d < 8 → DAns 29 false s (d + 1) F) (hdeep : d < 8 → ∀ a, (F a).2.2.2 = false → (F a).2.2.1 = d + 1) : DAns 45 true s d (datom s F d) := by
  intro σ p a hp hs hg
  have hlt := hg rfl
  have hlt' : (a : Int) < s.size := by omega
  refine Ans.of_run' t45 (fun hbel _ => ?_)
  have hb2 := bel_dat hbel
  have k46 : (((byteAt s a : Nat) : Int) == 46) = (byteAt s a == 46) := beq_cast _ 46
  have k92 : (((byteAt s a : Nat) : Int) == 92) = (byteAt s a == 92) := beq_cast _ 92
  have k40 : (((byteAt s a : Nat) : Int) == 40) = (byteAt s a == 40) := beq_cast _ 40
  have k91 : (((byteAt s a : Nat) : Int) == 91) = (byteAt s a == 91) := beq_cast _ 91
  simp -implicitDefEqProofs only [c45, r45, go_sem, List.reduceReplicate, Nat.reduceAdd, Nat.reduceSub, Nat.reduceLT, Nat.reduceLeDiff, Nat.reduceMul, Nat.reduceEqDiff, reduceCtorEq, Int.reduceLE, Int.reduceLT, Int.reduceEq, Int.reduceNe, Int.reduceBEq, Int.reduceBNe, Int.reduceAdd, Int.reduceSub, List.append_assoc, List.length_append, List.length_set, gA hp, sA hp, gL0, sL0, gL1, sL1, hlt', byteAt_def, wrap_nat (show a ≤ 4294967296 by omega), k46]
  unfold datom
  simp only
  cases h46 : byteAt s a == 46
  case true =>
    simp -implicitDefEqProofs only [go_sem, List.reduceReplicate, Nat.reduceAdd, Nat.reduceSub, Nat.reduceLT, Nat.reduceLeDiff, Nat.reduceMul, Nat.reduceEqDiff, reduceCtorEq, Int.reduceLE, Int.reduceLT, Int.reduceEq, Int.reduceNe, Int.reduceBEq, Int.reduceBNe, Int.reduceAdd, Int.reduceSub, gA hp, sA hp, gL0, sL0, gL1, sL1]
    (refine Fini.trim2 (ex := [_]) ?_ rfl ?_ (bel_rv _ _) (hb2 _ _ _); (simp -implicitDefEqProofs only [go_sem, List.reduceReplicate, Nat.reduceAdd, Nat.reduceSub, Nat.reduceLT, Nat.reduceLeDiff, Nat.reduceMul, Nat.reduceEqDiff, reduceCtorEq, Int.reduceLE, Int.reduceLT, Int.reduceEq, Int.reduceNe, Int.reduceBEq, Int.reduceBNe, Int.reduceAdd, Int.reduceSub, resA, allSome, rvA, oneOf, gL0]; first | done | rfl); simp)
  simp -implicitDefEqProofs only [go_sem, List.reduceReplicate, Nat.reduceAdd, Nat.reduceSub, Nat.reduceLT, Nat.reduceLeDiff, Nat.reduceMul, Nat.reduceEqDiff, reduceCtorEq, Int.reduceLE, Int.reduceLT, Int.reduceEq, Int.reduceNe, Int.reduceBEq, Int.reduceBNe, Int.reduceAdd, Int.reduceSub, k92]
  cases h92 : byteAt s a == 92
  case true =>
    simp -implicitDefEqProofs only [go_sem, List.reduceReplicate, Nat.reduceAdd, Nat.reduceSub, Nat.reduceLT, Nat.reduceLeDiff, Nat.reduceMul, Nat.reduceEqDiff, reduceCtorEq, Int.reduceLE, Int.reduceLT, Int.reduceEq, Int.reduceNe, Int.reduceBEq, Int.reduceBNe, Int.reduceAdd, Int.reduceSub]
    refine CD.intro (more_ex hp (a + 1) d false _) ?_
    cases ho2 : over s (a + 1) false with
    | true =>
      simp -implicitDefEqProofs only [go_sem, List.reduceReplicate, Nat.reduceAdd, Nat.reduceSub, Nat.reduceLT, Nat.reduceLeDiff, Nat.reduceMul, Nat.reduceEqDiff, reduceCtorEq, Int.reduceLE, Int.reduceLT, Int.reduceEq, Int.reduceNe, Int.reduceBEq, Int.reduceBNe, Int.reduceAdd, Int.reduceSub, gA hp, sA hp, gL0, sL0, gL1, sL1]
      refine CO.intro (fail_ex hp (a + 1) d false _) ?_
      simp -implicitDefEqProofs only [go_sem, List.reduceReplicate, Nat.reduceAdd, Nat.reduceSub, Nat.reduceLT, Nat.reduceLeDiff, Nat.reduceMul, Nat.reduceEqDiff, reduceCtorEq, Int.reduceLE, Int.reduceLT, Int.reduceEq, Int.reduceNe, Int.reduceBEq, Int.reduceBNe, Int.reduceAdd, Int.reduceSub, gA hp, sA hp, gL0, sL0, gL1, sL1, Bool.true_or]
      (refine Fini.trim2 (ex := [_]) ?_ rfl ?_ (bel_rv _ _) (hb2 _ _ _); (simp -implicitDefEqProofs only [go_sem, List.reduceReplicate, Nat.reduceAdd, Nat.reduceSub, Nat.reduceLT, Nat.reduceLeDiff, Nat.reduceMul, Nat.reduceEqDiff, reduceCtorEq, Int.reduceLE, Int.reduceLT, Int.reduceEq, Int.reduceNe, Int.reduceBEq, Int.reduceBNe, Int.reduceAdd, Int.reduceSub, resA, allSome, rvA, oneOf, gL0]; first | done | rfl); simp)
    | false =>
      have hlt2 := over_lt ho2
      have h2 : ((a + 1 : Nat) : Int) < s.size := by omega
      simp -implicitDefEqProofs only [go_sem, List.reduceReplicate, Nat.reduceAdd, Nat.reduceSub, Nat.reduceLT, Nat.reduceLeDiff, Nat.reduceMul, Nat.reduceEqDiff, reduceCtorEq, Int.reduceLE, Int.reduceLT, Int.reduceEq, Int.reduceNe, Int.reduceBEq, Int.reduceBNe, Int.reduceAdd, Int.reduceSub, gA hp, sA hp, gL0, sL0, gL1, sL1, h2, byteAt_def]
      refine CD.intro (quoted_ans _ (byteAt s (a + 1)) (byteAt_lt _ _)) ?_
      cases hq : signs.contains (byteAt s (a + 1)) with
      | false =>
        simp -implicitDefEqProofs only [go_sem, List.reduceReplicate, Nat.reduceAdd, Nat.reduceSub, Nat.reduceLT, Nat.reduceLeDiff, Nat.reduceMul, Nat.reduceEqDiff, reduceCtorEq, Int.reduceLE, Int.reduceLT, Int.reduceEq, Int.reduceNe, Int.reduceBEq, Int.reduceBNe, Int.reduceAdd, Int.reduceSub, gA hp, sA hp, gL0, sL0, gL1, sL1]
        refine CO.intro (fail_ex hp (a + 1) d false _) ?_
        simp -implicitDefEqProofs only [go_sem, List.reduceReplicate, Nat.reduceAdd, Nat.reduceSub, Nat.reduceLT, Nat.reduceLeDiff, Nat.reduceMul, Nat.reduceEqDiff, reduceCtorEq, Int.reduceLE, Int.reduceLT, Int.reduceEq, Int.reduceNe, Int.reduceBEq, Int.reduceBNe, Int.reduceAdd, Int.reduceSub, gA hp, sA hp, gL0, sL0, gL1, sL1, Bool.or_true]
        (refine Fini.trim2 (ex := [_]) ?_ rfl ?_ (bel_rv _ _) (hb2 _ _ _); (simp -implicitDefEqProofs only [go_sem, List.reduceReplicate, Nat.reduceAdd, Nat.reduceSub, Nat.reduceLT, Nat.reduceLeDiff, Nat.reduceMul, Nat.reduceEqDiff, reduceCtorEq, Int.reduceLE, Int.reduceLT, Int.reduceEq, Int.reduceNe, Int.reduceBEq, Int.reduceBNe, Int.reduceAdd, Int.reduceSub, resA, allSome, rvA, oneOf, gL0]; first | done | rfl); simp)
      | true =>
        have h3 : IntKind.i64.wrap (((a + 1 + 1 : Nat) : Int) - 1) = ((a + 1 : Nat) : Int) := by
          simp only [IntKind.wrap, IntKind.bits, IntKind.signed]; simp; omega
        simp -implicitDefEqProofs only [go_sem, List.reduceReplicate, Nat.reduceAdd, Nat.reduceSub, Nat.reduceLT, Nat.reduceLeDiff, Nat.reduceMul, Nat.reduceEqDiff, reduceCtorEq, Int.reduceLE, Int.reduceLT, Int.reduceEq, Int.reduceNe, Int.reduceBEq, Int.reduceBNe, Int.reduceAdd, Int.reduceSub, gA hp, sA hp, gL0, sL0, gL1, sL1, wrap_nat (show a + 1 ≤ 4294967296 by omega), h2, h3, byteAt_def, Bool.or_false]
        refine CD.intro (oneS_ans _ (byteAt s (a + 1)) (byteAt_lt _ _)) ?_
        obtain ⟨x0, x1, x2, x3, hS⟩ := four (oneS_len (byteAt s (a + 1)))
        rw [hS]
        simp -implicitDefEqProofs only [go_sem, List.reduceReplicate, Nat.reduceAdd, Nat.reduceSub, Nat.reduceLT, Nat.reduceLeDiff, Nat.reduceMul, Nat.reduceEqDiff, reduceCtorEq, Int.reduceLE, Int.reduceLT, Int.reduceEq, Int.reduceNe, Int.reduceBEq, Int.reduceBNe, Int.reduceAdd, Int.reduceSub, gA hp, sA hp, gL0, sL0, gL1, sL1]
        (refine Fini.trim2 (ex := [_]) ?_ rfl ?_ (bel_rv _ _) (hb2 _ _ _); (simp -implicitDefEqProofs only [go_sem, List.reduceReplicate, Nat.reduceAdd, Nat.reduceSub, Nat.reduceLT, Nat.reduceLeDiff, Nat.reduceMul, Nat.reduceEqDiff, reduceCtorEq, Int.reduceLE, Int.reduceLT, Int.reduceEq, Int.reduceNe, Int.reduceBEq, Int.reduceBNe, Int.reduceAdd, Int.reduceSub, resA, allSome, rvA, oneOf, gL0]; first | done | rfl); simp)
  simp -implicitDefEqProofs only [go_sem, List.reduceReplicate, Nat.reduceAdd, Nat.reduceSub, Nat.reduceLT, Nat.reduceLeDiff, Nat.reduceMul, Nat.reduceEqDiff, reduceCtorEq, Int.reduceLE, Int.reduceLT, Int.reduceEq, Int.reduceNe, Int.reduceBEq, Int.reduceBNe, Int.reduceAdd, Int.reduceSub, k40]
  cases h40 : byteAt s a == 40
  case true =>
    have e8 : decide ((8 : Int) < ((d + 1 : Nat) : Int)) = decide (8 < d + 1) := by rw [Bool.eq_iff_iff]; simp; omega
    simp -implicitDefEqProofs only [go_sem, List.reduceReplicate, Nat.reduceAdd, Nat.reduceSub, Nat.reduceLT, Nat.reduceLeDiff, Nat.reduceMul, Nat.reduceEqDiff, reduceCtorEq, Int.reduceLE, Int.reduceLT, Int.reduceEq, Int.reduceNe, Int.reduceBEq, Int.reduceBNe, Int.reduceAdd, Int.reduceSub, gA hp, sA hp, gL0, sL0, gL1, sL1, wrap_nat (show d ≤ 4294967296 by omega), e8]
    cases h8 : decide (8 < d + 1) with
    | true =>
      simp -implicitDefEqProofs only [go_sem, List.reduceReplicate, Nat.reduceAdd, Nat.reduceSub, Nat.reduceLT, Nat.reduceLeDiff, Nat.reduceMul, Nat.reduceEqDiff, reduceCtorEq, Int.reduceLE, Int.reduceLT, Int.reduceEq, Int.reduceNe, Int.reduceBEq, Int.reduceBNe, Int.reduceAdd, Int.reduceSub]
      refine CO.intro (fail_ex hp (a + 1) (d + 1) false _) ?_
      simp -implicitDefEqProofs only [go_sem, List.reduceReplicate, Nat.reduceAdd, Nat.reduceSub, Nat.reduceLT, Nat.reduceLeDiff, Nat.reduceMul, Nat.reduceEqDiff, reduceCtorEq, Int.reduceLE, Int.reduceLT, Int.reduceEq, Int.reduceNe, Int.reduceBEq, Int.reduceBNe, Int.reduceAdd, Int.reduceSub, gA hp, sA hp, gL0, sL0, gL1, sL1]
      (refine Fini.trim2 (ex := [_]) ?_ rfl ?_ (bel_rv _ _) (hb2 _ _ _); (simp -implicitDefEqProofs only [go_sem, List.reduceReplicate, Nat.reduceAdd, Nat.reduceSub, Nat.reduceLT, Nat.reduceLeDiff, Nat.reduceMul, Nat.reduceEqDiff, reduceCtorEq, Int.reduceLE, Int.reduceLT, Int.reduceEq, Int.reduceNe, Int.reduceBEq, Int.reduceBNe, Int.reduceAdd, Int.reduceSub, resA, allSome, rvA, oneOf, gL0]; first | done | rfl); simp)
    | false =>
      have hd7 : d < 8 := by
        have : ¬ (8 < d + 1) := by simpa using h8
        omega
      simp -implicitDefEqProofs only [go_sem, List.reduceReplicate, Nat.reduceAdd, Nat.reduceSub, Nat.reduceLT, Nat.reduceLeDiff, Nat.reduceMul, Nat.reduceEqDiff, reduceCtorEq, Int.reduceLE, Int.reduceLT, Int.reduceEq, Int.reduceNe, Int.reduceBEq, Int.reduceBNe, Int.reduceAdd, Int.reduceSub]
      refine CO.intro ((hF hd7).ex hp (a + 1) hs (fun h => absurd h Bool.false_ne_true) _) ?_
      have hde := hdeep hd7 (a + 1)
      generalize F (a + 1) = w at hde ⊢
      obtain ⟨x, a1, d1, b1⟩ := w
      simp only at hde ⊢
      have hbx : ∀ n, Bel n x.rv := fun n => bel_rv n x
      have hrx := rv_eq x
      rw [rv_eq x]
      rcases rvK_cases x.ks with hK | ⟨l, hK⟩
      all_goals rw [hK] at hrx ⊢
      all_goals simp -implicitDefEqProofs only [go_sem, List.reduceReplicate, Nat.reduceAdd, Nat.reduceSub, Nat.reduceLT, Nat.reduceLeDiff, Nat.reduceMul, Nat.reduceEqDiff, reduceCtorEq, Int.reduceLE, Int.reduceLT, Int.reduceEq, Int.reduceNe, Int.reduceBEq, Int.reduceBNe, Int.reduceAdd, Int.reduceSub]
      all_goals refine CD.intro (more_ex hp a1 d1 b1 _) ?_
      all_goals cases ho3 : over s a1 b1
      all_goals first
      | (have hse : sees s a1 b1 41 = false := by simp [sees, ho3]
         simp -implicitDefEqProofs only [go_sem, List.reduceReplicate, Nat.reduceAdd, Nat.reduceSub, Nat.reduceLT, Nat.reduceLeDiff, Nat.reduceMul, Nat.reduceEqDiff, reduceCtorEq, Int.reduceLE, Int.reduceLT, Int.reduceEq, Int.reduceNe, Int.reduceBEq, Int.reduceBNe, Int.reduceAdd, Int.reduceSub, gA hp, sA hp, gL0, sL0, gL1, sL1, hse]
         refine CO.intro (fail_ex hp a1 d1 b1 _) ?_
         simp -implicitDefEqProofs only [go_sem, List.reduceReplicate, Nat.reduceAdd, Nat.reduceSub, Nat.reduceLT, Nat.reduceLeDiff, Nat.reduceMul, Nat.reduceEqDiff, reduceCtorEq, Int.reduceLE, Int.reduceLT, Int.reduceEq, Int.reduceNe, Int.reduceBEq, Int.reduceBNe, Int.reduceAdd, Int.reduceSub, gA hp, sA hp, gL0, sL0, gL1, sL1]
         (refine Fini.trim2 (ex := [_]) ?_ rfl ?_ (bel_rv _ _) (hb2 _ _ _); (simp -implicitDefEqProofs only [go_sem, List.reduceReplicate, Nat.reduceAdd, Nat.reduceSub, Nat.reduceLT, Nat.reduceLeDiff, Nat.reduceMul, Nat.reduceEqDiff, reduceCtorEq, Int.reduceLE, Int.reduceLT, Int.reduceEq, Int.reduceNe, Int.reduceBEq, Int.reduceBNe, Int.reduceAdd, Int.reduceSub, resA, allSome, rvA, oneOf, gL0]; first | done | rfl); simp))
      | (have hb1 : b1 = false := by cases b1 <;> simp [over] at ho3 ⊢
         subst hb1
         have hlt3 := over_lt ho3
         have h3 : ((a1 : Nat) : Int) < s.size := by omega
         have k41 : (((byteAt s a1 : Nat) : Int) == 41) = (byteAt s a1 == 41) := beq_cast _ 41
         have n41 : (((byteAt s a1 : Nat) : Int) != 41) = !(byteAt s a1 == 41) := by rw [bne, k41]
         have hd1 := hde rfl
         subst hd1
         have e9 : IntKind.i64.wrap (((d + 1 : Nat) : Int) - 1) = (d : Int) := by
           simp only [IntKind.wrap, IntKind.bits, IntKind.signed]; simp; omega
         rw [sees_byte ho3]
         simp -implicitDefEqProofs only [go_sem, List.reduceReplicate, Nat.reduceAdd, Nat.reduceSub, Nat.reduceLT, Nat.reduceLeDiff, Nat.reduceMul, Nat.reduceEqDiff, reduceCtorEq, Int.reduceLE, Int.reduceLT, Int.reduceEq, Int.reduceNe, Int.reduceBEq, Int.reduceBNe, Int.reduceAdd, Int.reduceSub, gA hp, sA hp, gL0, sL0, gL1, sL1, h3, byteAt_def, k41, n41]
         cases h41 : byteAt s a1 == 41
         · simp -implicitDefEqProofs only [go_sem, List.reduceReplicate, Nat.reduceAdd, Nat.reduceSub, Nat.reduceLT, Nat.reduceLeDiff, Nat.reduceMul, Nat.reduceEqDiff, reduceCtorEq, Int.reduceLE, Int.reduceLT, Int.reduceEq, Int.reduceNe, Int.reduceBEq, Int.reduceBNe, Int.reduceAdd, Int.reduceSub]
           refine CO.intro (fail_ex hp a1 (d + 1) false _) ?_
           simp -implicitDefEqProofs only [go_sem, List.reduceReplicate, Nat.reduceAdd, Nat.reduceSub, Nat.reduceLT, Nat.reduceLeDiff, Nat.reduceMul, Nat.reduceEqDiff, reduceCtorEq, Int.reduceLE, Int.reduceLT, Int.reduceEq, Int.reduceNe, Int.reduceBEq, Int.reduceBNe, Int.reduceAdd, Int.reduceSub, gA hp, sA hp, gL0, sL0, gL1, sL1]
           (refine Fini.trim2 (ex := [_]) ?_ rfl ?_ (bel_rv _ _) (hb2 _ _ _); (simp -implicitDefEqProofs only [go_sem, List.reduceReplicate, Nat.reduceAdd, Nat.reduceSub, Nat.reduceLT, Nat.reduceLeDiff, Nat.reduceMul, Nat.reduceEqDiff, reduceCtorEq, Int.reduceLE, Int.reduceLT, Int.reduceEq, Int.reduceNe, Int.reduceBEq, Int.reduceBNe, Int.reduceAdd, Int.reduceSub, resA, allSome, rvA, oneOf, gL0]; first | done | rfl); simp)
         · simp -implicitDefEqProofs only [go_sem, List.reduceReplicate, Nat.reduceAdd, Nat.reduceSub, Nat.reduceLT, Nat.reduceLeDiff, Nat.reduceMul, Nat.reduceEqDiff, reduceCtorEq, Int.reduceLE, Int.reduceLT, Int.reduceEq, Int.reduceNe, Int.reduceBEq, Int.reduceBNe, Int.reduceAdd, Int.reduceSub, gA hp, sA hp, gL0, sL0, gL1, sL1, wrap_nat (show a1 ≤ 4294967296 by omega), e9, hrx]
           rw [hrx] at hbx
           refine Fini.trim2 (ex := [_]) ?_ rfl ?_ (hbx _) (hb2 _ _ _)
           · simp -implicitDefEqProofs only [go_sem, List.reduceReplicate, Nat.reduceAdd, Nat.reduceSub, Nat.reduceLT, Nat.reduceLeDiff, Nat.reduceMul, Nat.reduceEqDiff, reduceCtorEq, Int.reduceLE, Int.reduceLT, Int.reduceEq, Int.reduceNe, Int.reduceBEq, Int.reduceBNe, Int.reduceAdd, Int.reduceSub, resA, allSome, rvA, oneOf, gL0]
           · simp)
  simp -implicitDefEqProofs only [go_sem, List.reduceReplicate, Nat.reduceAdd, Nat.reduceSub, Nat.reduceLT, Nat.reduceLeDiff, Nat.reduceMul, Nat.reduceEqDiff, reduceCtorEq, Int.reduceLE, Int.reduceLT, Int.reduceEq, Int.reduceNe, Int.reduceBEq, Int.reduceBNe, Int.reduceAdd, Int.reduceSub, k91]
  cases h91 : byteAt s a == 91
  case true =>
    simp -implicitDefEqProofs only [go_sem, List.reduceReplicate, Nat.reduceAdd, Nat.reduceSub, Nat.reduceLT, Nat.reduceLeDiff, Nat.reduceMul, Nat.reduceEqDiff, reduceCtorEq, Int.reduceLE, Int.reduceLT, Int.reduceEq, Int.reduceNe, Int.reduceBEq, Int.reduceBNe, Int.reduceAdd, Int.reduceSub]
    refine CO.intro (dclass_ex hp (a + 1) d hs _) ?_
    have hK : rvK (dclass s (a + 1)).1.ks = .nils := by rw [dclass_ks]; rfl
    generalize dclass s (a + 1) = w at hK ⊢
    obtain ⟨x, a1, b1⟩ := w
    simp only at hK ⊢
    have hbx : ∀ n, Bel n x.rv := fun n => bel_rv n x
    rw [rv_eq x, hK] at hbx ⊢
    simp -implicitDefEqProofs only [go_sem, List.reduceReplicate, Nat.reduceAdd, Nat.reduceSub, Nat.reduceLT, Nat.reduceLeDiff, Nat.reduceMul, Nat.reduceEqDiff, reduceCtorEq, Int.reduceLE, Int.reduceLT, Int.reduceEq, Int.reduceNe, Int.reduceBEq, Int.reduceBNe, Int.reduceAdd, Int.reduceSub, gA hp, sA hp, gL0, sL0, gL1, sL1]
    refine Fini.trim2 (ex := [_]) ?_ rfl ?_ (hbx _) (hb2 _ _ _)
    · simp -implicitDefEqProofs only [go_sem, List.reduceReplicate, Nat.reduceAdd, Nat.reduceSub, Nat.reduceLT, Nat.reduceLeDiff, Nat.reduceMul, Nat.reduceEqDiff, reduceCtorEq, Int.reduceLE, Int.reduceLT, Int.reduceEq, Int.reduceNe, Int.reduceBEq, Int.reduceBNe, Int.reduceAdd, Int.reduceSub, resA, allSome, rvA, oneOf, gL0]
    · simp
  simp -implicitDefEqProofs only [go_sem, List.reduceReplicate, Nat.reduceAdd, Nat.reduceSub, Nat.reduceLT, Nat.reduceLeDiff, Nat.reduceMul, Nat.reduceEqDiff, reduceCtorEq, Int.reduceLE, Int.reduceLT, Int.reduceEq, Int.reduceNe, Int.reduceBEq, Int.reduceBNe, Int.reduceAdd, Int.reduceSub]
  refine CO.intro (special_ans _ (byteAt s a)) ?_
  simp -implicitDefEqProofs only [go_sem, List.reduceReplicate, Nat.reduceAdd, Nat.reduceSub, Nat.reduceLT, Nat.reduceLeDiff, Nat.reduceMul, Nat.reduceEqDiff, reduceCtorEq, Int.reduceLE, Int.reduceLT, Int.reduceEq, Int.reduceNe, Int.reduceBEq, Int.reduceBNe, Int.reduceAdd, Int.reduceSub]
  cases hsp : specials.contains (byteAt s a)
  case true =>
    simp -implicitDefEqProofs only [go_sem, List.reduceReplicate, Nat.reduceAdd, Nat.reduceSub, Nat.reduceLT, Nat.reduceLeDiff, Nat.reduceMul, Nat.reduceEqDiff, reduceCtorEq, Int.reduceLE, Int.reduceLT, Int.reduceEq, Int.reduceNe, Int.reduceBEq, Int.reduceBNe, Int.reduceAdd, Int.reduceSub]
    refine CO.intro (fail_ex hp (a + 1) d false _) ?_
    simp -implicitDefEqProofs only [go_sem, List.reduceReplicate, Nat.reduceAdd, Nat.reduceSub, Nat.reduceLT, Nat.reduceLeDiff, Nat.reduceMul, Nat.reduceEqDiff, reduceCtorEq, Int.reduceLE, Int.reduceLT, Int.reduceEq, Int.reduceNe, Int.reduceBEq, Int.reduceBNe, Int.reduceAdd, Int.reduceSub, gA hp, sA hp, gL0, sL0, gL1, sL1]
    (refine Fini.trim2 (ex := [_]) ?_ rfl ?_ (bel_rv _ _) (hb2 _ _ _); (simp -implicitDefEqProofs only [go_sem, List.reduceReplicate, Nat.reduceAdd, Nat.reduceSub, Nat.reduceLT, Nat.reduceLeDiff, Nat.reduceMul, Nat.reduceEqDiff, reduceCtorEq, Int.reduceLE, Int.reduceLT, Int.reduceEq, Int.reduceNe, Int.reduceBEq, Int.reduceBNe, Int.reduceAdd, Int.reduceSub, resA, allSome, rvA, oneOf, gL0]; first | done | rfl); simp)
  simp -implicitDefEqProofs only [go_sem, List.reduceReplicate, Nat.reduceAdd, Nat.reduceSub, Nat.reduceLT, Nat.reduceLeDiff, Nat.reduceMul, Nat.reduceEqDiff, reduceCtorEq, Int.reduceLE, Int.reduceLT, Int.reduceEq, Int.reduceNe, Int.reduceBEq, Int.reduceBNe, Int.reduceAdd, Int.reduceSub]
  refine CO.intro (oneS_ans _ (byteAt s a) (byteAt_lt _ _)) ?_
  obtain ⟨x0, x1, x2, x3, hS⟩ := four (oneS_len (byteAt s a))
  rw [hS]
  simp -implicitDefEqProofs only [go_sem, List.reduceReplicate, Nat.reduceAdd, Nat.reduceSub, Nat.reduceLT, Nat.reduceLeDiff, Nat.reduceMul, Nat.reduceEqDiff, reduceCtorEq, Int.reduceLE, Int.reduceLT, Int.reduceEq, Int.reduceNe, Int.reduceBEq, Int.reduceBNe, Int.reduceAdd, Int.reduceSub, gA hp, sA hp, gL0, sL0, gL1, sL1]
  (refine Fini.trim2 (ex := [_]) ?_ rfl ?_ (bel_rv _ _) (hb2 _ _ _); (simp -implicitDefEqProofs only [go_sem, List.reduceReplicate, Nat.reduceAdd, Nat.reduceSub, Nat.reduceLT, Nat.reduceLeDiff, Nat.reduceMul, Nat.reduceEqDiff, reduceCtorEq, Int.reduceLE, Int.reduceLT, Int.reduceEq, Int.reduceNe, Int.reduceBEq, Int.reduceBNe, Int.reduceAdd, Int.reduceSub, resA, allSome, rvA, oneOf, gL0]; first | done | rfl); simp)

theorem dfactor_ans (F : DF) (d : Nat) (hF : DAns 45 true s d F) : DAns 43 true s d (dfactor s F) := by
  intro σ p a hp hs hg
  refine Ans.of_run' t43 (fun hbel _ => ?_)
  have hb2 := bel_dat hbel
  simp -implicitDefEqProofs only [c43, r43, go_sem, List.reduceReplicate, Nat.reduceAdd, Nat.reduceSub, Nat.reduceLT, Nat.reduceLeDiff, Nat.reduceMul, Nat.reduceEqDiff, reduceCtorEq, Int.reduceLE, Int.reduceLT, Int.reduceEq, Int.reduceNe, Int.reduceBEq, Int.reduceBNe, Int.reduceAdd, Int.reduceSub, List.append_assoc, List.length_append, List.length_set, gA hp, sA hp, gL0, sL0, gL1, sL1]
  refine CO.intro (hF.ex hp a hs hg _) ?_
  unfold dfactor
  generalize F a = w
  obtain ⟨x, a1, d1, b1⟩ := w
  simp only
  have hbx : ∀ n, Bel n x.rv := fun n => bel_rv n x
  have hrx := rv_eq x
  rw [rv_eq x]
  rcases rvK_cases x.ks with hK | ⟨l, hK⟩
  all_goals rw [hK] at hrx ⊢
  all_goals simp -implicitDefEqProofs only [go_sem, List.reduceReplicate, Nat.reduceAdd, Nat.reduceSub, Nat.reduceLT, Nat.reduceLeDiff, Nat.reduceMul, Nat.reduceEqDiff, reduceCtorEq, Int.reduceLE, Int.reduceLT, Int.reduceEq, Int.reduceNe, Int.reduceBEq, Int.reduceBNe, Int.reduceAdd, Int.reduceSub]
  all_goals refine CO.intro (more_ex hp a1 d1 b1 _) ?_
  all_goals cases ho : over s a1 b1
  all_goals first
  | (have hse : ∀ c, sees s a1 b1 c = false := fun c => by simp [sees, ho]
     simp -implicitDefEqProofs only [go_sem, List.reduceReplicate, Nat.reduceAdd, Nat.reduceSub, Nat.reduceLT, Nat.reduceLeDiff, Nat.reduceMul, Nat.reduceEqDiff, reduceCtorEq, Int.reduceLE, Int.reduceLT, Int.reduceEq, Int.reduceNe, Int.reduceBEq, Int.reduceBNe, Int.reduceAdd, Int.reduceSub, gA hp, sA hp, gL0, sL0, gL1, sL1, hse, Bool.false_eq_true, if_false, hrx]
     rw [hrx] at hbx
     refine Fini.trim2 (ex := [_]) ?_ rfl ?_ (hbx _) (hb2 _ _ _)
     · simp -implicitDefEqProofs only [go_sem, List.reduceReplicate, Nat.reduceAdd, Nat.reduceSub, Nat.reduceLT, Nat.reduceLeDiff, Nat.reduceMul, Nat.reduceEqDiff, reduceCtorEq, Int.reduceLE, Int.reduceLT, Int.reduceEq, Int.reduceNe, Int.reduceBEq, Int.reduceBNe, Int.reduceAdd, Int.reduceSub, resA, allSome, rvA, oneOf, gL0]
     · simp)
  | (have hb1 : b1 = false := by cases b1 <;> simp [over] at ho ⊢
     subst hb1
     have hlt3 := over_lt ho
     have h3 : ((a1 : Nat) : Int) < s.size := by omega
     have k42 : (((byteAt s a1 : Nat) : Int) == 42) = (byteAt s a1 == 42) := beq_cast _ 42
     have k43 : (((byteAt s a1 : Nat) : Int) == 43) = (byteAt s a1 == 43) := beq_cast _ 43
     have k63 : (((byteAt s a1 : Nat) : Int) == 63) = (byteAt s a1 == 63) := beq_cast _ 63
     rw [sees_byte ho, sees_byte ho, sees_byte ho]
     have hkid : ∀ op, (Rex.mk op 0 0 0 0 [x]).rv = .agg [I op, U 0, U 0, U 0, U 0, .sl 6 [x.rv]] := fun op => rfl
     simp -implicitDefEqProofs only [go_sem, List.reduceReplicate, Nat.reduceAdd, Nat.reduceSub, Nat.reduceLT, Nat.reduceLeDiff, Nat.reduceMul, Nat.reduceEqDiff, reduceCtorEq, Int.reduceLE, Int.reduceLT, Int.reduceEq, Int.reduceNe, Int.reduceBEq, Int.reduceBNe, Int.reduceAdd, Int.reduceSub, gA hp, sA hp, gL0, sL0, gL1, sL1, h3, byteAt_def, k42]
     cases h42 : byteAt s a1 == 42
     · simp -implicitDefEqProofs only [go_sem, List.reduceReplicate, Nat.reduceAdd, Nat.reduceSub, Nat.reduceLT, Nat.reduceLeDiff, Nat.reduceMul, Nat.reduceEqDiff, reduceCtorEq, Int.reduceLE, Int.reduceLT, Int.reduceEq, Int.reduceNe, Int.reduceBEq, Int.reduceBNe, Int.reduceAdd, Int.reduceSub, k43]
       cases h43 : byteAt s a1 == 43
       · simp -implicitDefEqProofs only [go_sem, List.reduceReplicate, Nat.reduceAdd, Nat.reduceSub, Nat.reduceLT, Nat.reduceLeDiff, Nat.reduceMul, Nat.reduceEqDiff, reduceCtorEq, Int.reduceLE, Int.reduceLT, Int.reduceEq, Int.reduceNe, Int.reduceBEq, Int.reduceBNe, Int.reduceAdd, Int.reduceSub, k63]
         cases h63 : byteAt s a1 == 63
         · simp -implicitDefEqProofs only [go_sem, List.reduceReplicate, Nat.reduceAdd, Nat.reduceSub, Nat.reduceLT, Nat.reduceLeDiff, Nat.reduceMul, Nat.reduceEqDiff, reduceCtorEq, Int.reduceLE, Int.reduceLT, Int.reduceEq, Int.reduceNe, Int.reduceBEq, Int.reduceBNe, Int.reduceAdd, Int.reduceSub, gA hp, sA hp, gL0, sL0, gL1, sL1, hrx]
           rw [hrx] at hbx
           refine Fini.trim2 (ex := [_]) ?_ rfl ?_ (hbx _) (hb2 _ _ _)
           · simp -implicitDefEqProofs only [go_sem, List.reduceReplicate, Nat.reduceAdd, Nat.reduceSub, Nat.reduceLT, Nat.reduceLeDiff, Nat.reduceMul, Nat.reduceEqDiff, reduceCtorEq, Int.reduceLE, Int.reduceLT, Int.reduceEq, Int.reduceNe, Int.reduceBEq, Int.reduceBNe, Int.reduceAdd, Int.reduceSub, resA, allSome, rvA, oneOf, gL0]
           · simp
         · simp -implicitDefEqProofs only [go_sem, List.reduceReplicate, Nat.reduceAdd, Nat.reduceSub, Nat.reduceLT, Nat.reduceLeDiff, Nat.reduceMul, Nat.reduceEqDiff, reduceCtorEq, Int.reduceLE, Int.reduceLT, Int.reduceEq, Int.reduceNe, Int.reduceBEq, Int.reduceBNe, Int.reduceAdd, Int.reduceSub, gA hp, sA hp, gL0, sL0, gL1, sL1, wrap_nat (show a1 ≤ 4294967296 by omega)]
           refine Fini.trim2 (ex := [_]) ?_ rfl ?_ (bel_rv _ _) (hb2 _ _ _)
           · rw [hkid, hrx]; simp -implicitDefEqProofs only [go_sem, List.reduceReplicate, Nat.reduceAdd, Nat.reduceSub, Nat.reduceLT, Nat.reduceLeDiff, Nat.reduceMul, Nat.reduceEqDiff, reduceCtorEq, Int.reduceLE, Int.reduceLT, Int.reduceEq, Int.reduceNe, Int.reduceBEq, Int.reduceBNe, Int.reduceAdd, Int.reduceSub, resA, allSome, rvA, oneOf, gL0]
           · simp
       · simp -implicitDefEqProofs only [go_sem, List.reduceReplicate, Nat.reduceAdd, Nat.reduceSub, Nat.reduceLT, Nat.reduceLeDiff, Nat.reduceMul, Nat.reduceEqDiff, reduceCtorEq, Int.reduceLE, Int.reduceLT, Int.reduceEq, Int.reduceNe, Int.reduceBEq, Int.reduceBNe, Int.reduceAdd, Int.reduceSub, gA hp, sA hp, gL0, sL0, gL1, sL1, wrap_nat (show a1 ≤ 4294967296 by omega)]
         refine Fini.trim2 (ex := [_]) ?_ rfl ?_ (bel_rv _ _) (hb2 _ _ _)
         · rw [hkid, hrx]; simp -implicitDefEqProofs only [go_sem, List.reduceReplicate, Nat.reduceAdd, Nat.reduceSub, Nat.reduceLT, Nat.reduceLeDiff, Nat.reduceMul, Nat.reduceEqDiff, reduceCtorEq, Int.reduceLE, Int.reduceLT, Int.reduceEq, Int.reduceNe, Int.reduceBEq, Int.reduceBNe, Int.reduceAdd, Int.reduceSub, resA, allSome, rvA, oneOf, gL0]
         · simp
     · simp -implicitDefEqProofs only [go_sem, List.reduceReplicate, Nat.reduceAdd, Nat.reduceSub, Nat.reduceLT, Nat.reduceLeDiff, Nat.reduceMul, Nat.reduceEqDiff, reduceCtorEq, Int.reduceLE, Int.reduceLT, Int.reduceEq, Int.reduceNe, Int.reduceBEq, Int.reduceBNe, Int.reduceAdd, Int.reduceSub, gA hp, sA hp, gL0, sL0, gL1, sL1, wrap_nat (show a1 ≤ 4294967296 by omega)]
       refine Fini.trim2 (ex := [_]) ?_ rfl ?_ (bel_rv _ _) (hb2 _ _ _)
       · rw [hkid, hrx]; simp -implicitDefEqProofs only [go_sem, List.reduceReplicate, Nat.reduceAdd, Nat.reduceSub, Nat.reduceLT, Nat.reduceLeDiff, Nat.reduceMul, Nat.reduceEqDiff, reduceCtorEq, Int.reduceLE, Int.reduceLT, Int.reduceEq, Int.reduceNe, Int.reduceBEq, Int.reduceBNe, Int.reduceAdd, Int.reduceSub, resA, allSome, rvA, oneOf, gL0]
       · simp)
end
end Go.Proofs.Ytoiageeecdgleaa
