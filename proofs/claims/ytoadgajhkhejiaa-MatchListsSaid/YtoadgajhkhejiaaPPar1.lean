/- The small functions of the parser of patterns. No condition. -/
import Derived.Test.YtoadgajhkhejiaaPLay6
import Derived.Test.YtoadgajhkhejiaaMRun
import Derived.Test.YtoadgajhkhejiaaAbStay
set_option linter.unusedSimpArgs false
set_option linter.unusedVariables false
namespace Go.Proofs.Ytoadgajhkhejiaa
open Go Go.Ab
set_option maxRecDepth 100000
abbrev B8 (n : Int) : AV := .pl (.int .u8 n)
abbrev pob (s : ByteArray) (at_ : Nat) (bad : Bool) : Ob := .box [Sx s, I at_, Bo bad]
def byteAt (s : ByteArray) (a : Nat) : Nat := (s.data.toList.getD a 0).toNat
theorem byteAt_def (s : ByteArray) (a : Nat) : (s.data.toList.getD a 0).toNat = byteAt s a := rfl
theorem byteAt_lt (s : ByteArray) (a : Nat) : byteAt s a < 256 := (s.data.toList.getD a 0).toNat_lt
theorem beq_cast (a b : Nat) : ((a : Int) == (b : Int)) = (a == b) := by
  rw [Bool.eq_iff_iff]; simp only [beq_iff_eq]; omega
theorem set_same {σ : St} {p : Nat} {o : Ob} (h : σ[p]? = some o) : σ.set p o = σ := by
  apply List.ext_getElem?
  intro i
  rw [List.getElem?_set]
  split
  · rename_i e; subst e
    have : p < σ.length := (List.getElem?_eq_some_iff.1 h).1
    simp only [this, if_true, h]
  · rfl
theorem wrap_nat {n : Nat} (h : n ≤ 4294967296) : IntKind.i64.wrap ((n : Int) + 1) = ((n + 1 : Nat) : Int) := by
  simp only [IntKind.wrap, IntKind.bits, IntKind.signed]; simp; omega
def over (s : ByteArray) (a : Nat) (bad : Bool) : Bool := bad || decide (s.size ≤ a)
def sees (s : ByteArray) (a : Nat) (bad : Bool) (c : Nat) : Bool := !over s a bad && (byteAt s a == c)
def nextA (s : ByteArray) (a : Nat) (bad : Bool) (c : Nat) : Nat := if sees s a bad c then a + 1 else a
def pbyte (s : ByteArray) (a : Nat) (bad : Bool) : Nat × Nat × Bool := if over s a bad then (0, a, true) else (byteAt s a, a + 1, bad)
def signs : List Nat := [124, 42, 43, 63, 40, 41, 91, 93, 46, 92, 94, 45]
def within : List Nat := [92, 93, 91, 94, 45]
def psign (s : ByteArray) (a : Nat) (bad : Bool) : Nat × Nat × Bool :=
  ((pbyte s a bad).1, (pbyte s a bad).2.1, (pbyte s a bad).2.2 || !signs.contains (pbyte s a bad).1)
def pmember (s : ByteArray) (a : Nat) (bad : Bool) : Nat × Nat × Bool :=
  if (pbyte s a bad).1 == 92 then psign s (pbyte s a bad).2.1 (pbyte s a bad).2.2
  else ((pbyte s a bad).1, (pbyte s a bad).2.1, (pbyte s a bad).2.2 || within.contains (pbyte s a bad).1)
theorem over_lt {s : ByteArray} {a : Nat} {bad : Bool} (h : over s a bad = false) : a < s.size := by
  simp [over] at h; omega
theorem pbyte_lt (s : ByteArray) (a : Nat) (bad : Bool) : (pbyte s a bad).1 < 256 := by
  unfold pbyte; split
  · show 0 < 256; decide
  · exact byteAt_lt s a
theorem pmember_lt (s : ByteArray) (a : Nat) (bad : Bool) : (pmember s a bad).1 < 256 := by
  unfold pmember; split
  · exact pbyte_lt _ _ _
  · exact pbyte_lt _ _ _
section
variable (σ : St) (p : Nat) (s : ByteArray) (a : Nat) (bad : Bool)
theorem over_ans (h : σ[p]? = some (pob s a bad)) : Ans Try.prog 132 [.ptr p 0] σ (Bo (over s a bad)) σ := by
  refine Ans.of_run t132 ?_
  cases bad <;> simp -implicitDefEqProofs only [c132, r132, h, go_sem, List.reduceReplicate, Nat.reduceAdd, Nat.reduceSub, Nat.reduceLT, Nat.reduceLeDiff, Nat.reduceMul, Nat.reduceEqDiff, reduceCtorEq, Int.reduceLE, Int.reduceLT, Int.reduceEq, Int.reduceNe, Int.reduceBEq, Int.reduceBNe, Int.reduceAdd, Int.reduceSub]
  · refine Fini.ret ?_
    simp -implicitDefEqProofs only [go_sem, List.reduceReplicate, Nat.reduceAdd, Nat.reduceSub, Nat.reduceLT, Nat.reduceLeDiff, Nat.reduceMul, Nat.reduceEqDiff, reduceCtorEq, Int.reduceLE, Int.reduceLT, Int.reduceEq, Int.reduceNe, Int.reduceBEq, Int.reduceBNe, Int.reduceAdd, Int.reduceSub, over, Bool.false_or, Int.ofNat_le]
    rfl
  · exact Fini.ret rfl
theorem sees_ans (c : Nat) (h : σ[p]? = some (pob s a bad)) : Ans Try.prog 133 [.ptr p 0, B8 c] σ (Bo (sees s a bad c)) σ := by
  refine Ans.of_run t133 ?_
  simp -implicitDefEqProofs only [c133, r133, h, go_sem, List.reduceReplicate, Nat.reduceAdd, Nat.reduceSub, Nat.reduceLT, Nat.reduceLeDiff, Nat.reduceMul, Nat.reduceEqDiff, reduceCtorEq, Int.reduceLE, Int.reduceLT, Int.reduceEq, Int.reduceNe, Int.reduceBEq, Int.reduceBNe, Int.reduceAdd, Int.reduceSub]
  refine CD.intro (over_ans σ p s a bad h) ?_
  cases hb : over s a bad
  · have hlt := over_lt hb
    have h1 : (a : Int) < s.size := by omega
    simp -implicitDefEqProofs only [go_sem, List.reduceReplicate, Nat.reduceAdd, Nat.reduceSub, Nat.reduceLT, Nat.reduceLeDiff, Nat.reduceMul, Nat.reduceEqDiff, reduceCtorEq, Int.reduceLE, Int.reduceLT, Int.reduceEq, Int.reduceNe, Int.reduceBEq, Int.reduceBNe, Int.reduceAdd, Int.reduceSub, h, h1, byteAt_def]
    refine Fini.ret ?_
    simp -implicitDefEqProofs only [go_sem, List.reduceReplicate, Nat.reduceAdd, Nat.reduceSub, Nat.reduceLT, Nat.reduceLeDiff, Nat.reduceMul, Nat.reduceEqDiff, reduceCtorEq, Int.reduceLE, Int.reduceLT, Int.reduceEq, Int.reduceNe, Int.reduceBEq, Int.reduceBNe, Int.reduceAdd, Int.reduceSub, sees, hb, beq_cast]
    rfl
  · simp -implicitDefEqProofs only [go_sem, List.reduceReplicate, Nat.reduceAdd, Nat.reduceSub, Nat.reduceLT, Nat.reduceLeDiff, Nat.reduceMul, Nat.reduceEqDiff, reduceCtorEq, Int.reduceLE, Int.reduceLT, Int.reduceEq, Int.reduceNe, Int.reduceBEq, Int.reduceBNe, Int.reduceAdd, Int.reduceSub, h]
    refine Fini.ret ?_
    simp -implicitDefEqProofs only [go_sem, List.reduceReplicate, Nat.reduceAdd, Nat.reduceSub, Nat.reduceLT, Nat.reduceLeDiff, Nat.reduceMul, Nat.reduceEqDiff, reduceCtorEq, Int.reduceLE, Int.reduceLT, Int.reduceEq, Int.reduceNe, Int.reduceBEq, Int.reduceBNe, Int.reduceAdd, Int.reduceSub, sees, hb, Bool.false_and]
    rfl
theorem next_ans (c : Nat) (hs : bad = true ∨ s.size ≤ 40) (h : σ[p]? = some (pob s a bad)) : Ans Try.prog 118 [.ptr p 0, B8 c] σ (Bo (sees s a bad c)) (σ.set p (pob s (nextA s a bad c) bad)) := by
  refine Ans.of_run t118 ?_
  simp -implicitDefEqProofs only [c118, r118, h, go_sem, List.reduceReplicate, Nat.reduceAdd, Nat.reduceSub, Nat.reduceLT, Nat.reduceLeDiff, Nat.reduceMul, Nat.reduceEqDiff, reduceCtorEq, Int.reduceLE, Int.reduceLT, Int.reduceEq, Int.reduceNe, Int.reduceBEq, Int.reduceBNe, Int.reduceAdd, Int.reduceSub]
  refine CO.intro (sees_ans σ p s a bad c h) ?_
  unfold nextA
  cases hb : sees s a bad c
  · simp -implicitDefEqProofs only [go_sem, List.reduceReplicate, Nat.reduceAdd, Nat.reduceSub, Nat.reduceLT, Nat.reduceLeDiff, Nat.reduceMul, Nat.reduceEqDiff, reduceCtorEq, Int.reduceLE, Int.reduceLT, Int.reduceEq, Int.reduceNe, Int.reduceBEq, Int.reduceBNe, Int.reduceAdd, Int.reduceSub]
    rw [set_same h]
    exact Fini.ret rfl
  · have hlt : a < s.size := by
      simp [sees] at hb; exact over_lt hb.1
    have hsz : s.size ≤ 40 := by
      rcases hs with rfl | hs
      · simp [sees, over] at hb
      · exact hs
    simp -implicitDefEqProofs only [go_sem, List.reduceReplicate, Nat.reduceAdd, Nat.reduceSub, Nat.reduceLT, Nat.reduceLeDiff, Nat.reduceMul, Nat.reduceEqDiff, reduceCtorEq, Int.reduceLE, Int.reduceLT, Int.reduceEq, Int.reduceNe, Int.reduceBEq, Int.reduceBNe, Int.reduceAdd, Int.reduceSub, h, wrap_nat (show a ≤ 4294967296 by omega)]
    exact Fini.ret rfl
theorem byte_ans (hs : bad = true ∨ s.size ≤ 40) (h : σ[p]? = some (pob s a bad)) : Ans Try.prog 145 [.ptr p 0] σ (B8 (pbyte s a bad).1) (σ.set p (pob s (pbyte s a bad).2.1 (pbyte s a bad).2.2)) := by
  refine Ans.of_run t145 ?_
  simp -implicitDefEqProofs only [c145, r145, h, go_sem, List.reduceReplicate, Nat.reduceAdd, Nat.reduceSub, Nat.reduceLT, Nat.reduceLeDiff, Nat.reduceMul, Nat.reduceEqDiff, reduceCtorEq, Int.reduceLE, Int.reduceLT, Int.reduceEq, Int.reduceNe, Int.reduceBEq, Int.reduceBNe, Int.reduceAdd, Int.reduceSub]
  refine CO.intro (over_ans σ p s a bad h) ?_
  unfold pbyte
  cases hb : over s a bad
  · have hlt := over_lt hb
    have hsz : s.size ≤ 40 := by
      rcases hs with rfl | hs
      · simp [over] at hb
      · exact hs
    have h1 : (a : Int) < s.size := by omega
    have h2 : IntKind.i64.wrap (((a + 1 : Nat) : Int) - 1) = (a : Int) := by
      simp only [IntKind.wrap, IntKind.bits, IntKind.signed]; simp; omega
    simp -implicitDefEqProofs only [go_sem, List.reduceReplicate, Nat.reduceAdd, Nat.reduceSub, Nat.reduceLT, Nat.reduceLeDiff, Nat.reduceMul, Nat.reduceEqDiff, reduceCtorEq, Int.reduceLE, Int.reduceLT, Int.reduceEq, Int.reduceNe, Int.reduceBEq, Int.reduceBNe, Int.reduceAdd, Int.reduceSub, h, get_set_eq h, wrap_nat (show a ≤ 4294967296 by omega), h1, h2, byteAt_def]
    exact Fini.ret rfl
  · simp -implicitDefEqProofs only [go_sem, List.reduceReplicate, Nat.reduceAdd, Nat.reduceSub, Nat.reduceLT, Nat.reduceLeDiff, Nat.reduceMul, Nat.reduceEqDiff, reduceCtorEq, Int.reduceLE, Int.reduceLT, Int.reduceEq, Int.reduceNe, Int.reduceBEq, Int.reduceBNe, Int.reduceAdd, Int.reduceSub, h, get_set_eq h]
    exact Fini.ret rfl
theorem idx60 (t : ByteArray) (c : Nat) : Ans Try.prog 159 [Sx t, B8 c] σ (I (firstIdx t c.toUInt8)) σ := idx_ok _ _ _ _ rfl
theorem byteidx_ans (t : ByteArray) (c : Nat) : Ans Try.prog 150 [Sx t, B8 c] σ (I (firstIdx t c.toUInt8)) σ := by
  have h58 : Ans Try.prog 157 [Sx t, B8 c] σ (I (firstIdx t c.toUInt8)) σ := by
    refine Ans.of_run t157 ?_
    simp -implicitDefEqProofs only [c157, r157, go_sem, List.reduceReplicate, Nat.reduceAdd, Nat.reduceSub, Nat.reduceLT, Nat.reduceLeDiff, Nat.reduceMul, Nat.reduceEqDiff, reduceCtorEq, Int.reduceLE, Int.reduceLT, Int.reduceEq, Int.reduceNe, Int.reduceBEq, Int.reduceBNe, Int.reduceAdd, Int.reduceSub]
    refine CO.intro (idx60 σ t c) ?_
    simp -implicitDefEqProofs only [go_sem, List.reduceReplicate, Nat.reduceAdd, Nat.reduceSub, Nat.reduceLT, Nat.reduceLeDiff, Nat.reduceMul, Nat.reduceEqDiff, reduceCtorEq, Int.reduceLE, Int.reduceLT, Int.reduceEq, Int.reduceNe, Int.reduceBEq, Int.reduceBNe, Int.reduceAdd, Int.reduceSub]
    exact Fini.ret rfl
  refine Ans.of_run t150 ?_
  simp -implicitDefEqProofs only [c150, r150, go_sem, List.reduceReplicate, Nat.reduceAdd, Nat.reduceSub, Nat.reduceLT, Nat.reduceLeDiff, Nat.reduceMul, Nat.reduceEqDiff, reduceCtorEq, Int.reduceLE, Int.reduceLT, Int.reduceEq, Int.reduceNe, Int.reduceBEq, Int.reduceBNe, Int.reduceAdd, Int.reduceSub]
  refine CO.intro h58 ?_
  simp -implicitDefEqProofs only [go_sem, List.reduceReplicate, Nat.reduceAdd, Nat.reduceSub, Nat.reduceLT, Nat.reduceLeDiff, Nat.reduceMul, Nat.reduceEqDiff, reduceCtorEq, Int.reduceLE, Int.reduceLT, Int.reduceEq, Int.reduceNe, Int.reduceBEq, Int.reduceBNe, Int.reduceAdd, Int.reduceSub]
  exact Fini.ret rfl
theorem signs_idx : ∀ c : Nat, c < 256 → decide (firstIdx (ByteArray.mk #[124, 42, 43, 63, 40, 41, 91, 93, 46, 92, 94, 45]) c.toUInt8 < 0) = !signs.contains c := by decide +kernel
theorem within_idx : ∀ c : Nat, c < 256 → decide (0 ≤ firstIdx (ByteArray.mk #[92, 93, 91, 94, 45]) c.toUInt8) = within.contains c := by decide +kernel
def stray : List Nat := [42, 43, 63, 93]
theorem stray_idx : ∀ c : Nat, c < 256 → decide (0 ≤ firstIdx (ByteArray.mk #[42, 43, 63, 93]) c.toUInt8) = stray.contains c := by decide +kernel
theorem sign_ans (hs : bad = true ∨ s.size ≤ 40) (h : σ[p]? = some (pob s a bad)) : Ans Try.prog 149 [.ptr p 0] σ (B8 (psign s a bad).1) (σ.set p (pob s (psign s a bad).2.1 (psign s a bad).2.2)) := by
  have hc := signs_idx _ (pbyte_lt s a bad)
  unfold psign
  refine Ans.of_run t149 ?_
  simp -implicitDefEqProofs only [c149, r149, h, go_sem, List.reduceReplicate, Nat.reduceAdd, Nat.reduceSub, Nat.reduceLT, Nat.reduceLeDiff, Nat.reduceMul, Nat.reduceEqDiff, reduceCtorEq, Int.reduceLE, Int.reduceLT, Int.reduceEq, Int.reduceNe, Int.reduceBEq, Int.reduceBNe, Int.reduceAdd, Int.reduceSub]
  refine CO.intro (byte_ans σ p s a bad hs h) ?_
  generalize pbyte s a bad = q at hc ⊢
  obtain ⟨c, a', b'⟩ := q
  have hg : (σ.set p (pob s a' b'))[p]? = some (pob s a' b') := get_set_eq h _
  cases b' with
  | true =>
    simp -implicitDefEqProofs only [go_sem, List.reduceReplicate, Nat.reduceAdd, Nat.reduceSub, Nat.reduceLT, Nat.reduceLeDiff, Nat.reduceMul, Nat.reduceEqDiff, reduceCtorEq, Int.reduceLE, Int.reduceLT, Int.reduceEq, Int.reduceNe, Int.reduceBEq, Int.reduceBNe, Int.reduceAdd, Int.reduceSub, hg, List.set_set]
    exact Fini.ret rfl
  | false =>
    simp -implicitDefEqProofs only [go_sem, List.reduceReplicate, Nat.reduceAdd, Nat.reduceSub, Nat.reduceLT, Nat.reduceLeDiff, Nat.reduceMul, Nat.reduceEqDiff, reduceCtorEq, Int.reduceLE, Int.reduceLT, Int.reduceEq, Int.reduceNe, Int.reduceBEq, Int.reduceBNe, Int.reduceAdd, Int.reduceSub, hg]
    refine CO.intro (byteidx_ans _ _ c) ?_
    simp -implicitDefEqProofs only [go_sem, List.reduceReplicate, Nat.reduceAdd, Nat.reduceSub, Nat.reduceLT, Nat.reduceLeDiff, Nat.reduceMul, Nat.reduceEqDiff, reduceCtorEq, Int.reduceLE, Int.reduceLT, Int.reduceEq, Int.reduceNe, Int.reduceBEq, Int.reduceBNe, Int.reduceAdd, Int.reduceSub, hg, List.set_set]
    refine Fini.ret2 (n := 0) rfl rfl ?_
    rw [hc]; rfl
theorem member_ans (hs : bad = true ∨ s.size ≤ 40) (h : σ[p]? = some (pob s a bad)) : Ans Try.prog 156 [.ptr p 0] σ (B8 (pmember s a bad).1) (σ.set p (pob s (pmember s a bad).2.1 (pmember s a bad).2.2)) := by
  have hc := within_idx _ (pbyte_lt s a bad)
  have hs' : (pbyte s a bad).2.2 = true ∨ s.size ≤ 40 := by
    unfold pbyte; split
    · exact .inl rfl
    · exact hs
  unfold pmember
  refine Ans.of_run t156 ?_
  simp -implicitDefEqProofs only [c156, r156, h, go_sem, List.reduceReplicate, Nat.reduceAdd, Nat.reduceSub, Nat.reduceLT, Nat.reduceLeDiff, Nat.reduceMul, Nat.reduceEqDiff, reduceCtorEq, Int.reduceLE, Int.reduceLT, Int.reduceEq, Int.reduceNe, Int.reduceBEq, Int.reduceBNe, Int.reduceAdd, Int.reduceSub]
  refine CO.intro (byte_ans σ p s a bad hs h) ?_
  generalize pbyte s a bad = q at hc hs' ⊢
  obtain ⟨c, a', b'⟩ := q
  have hg : (σ.set p (pob s a' b'))[p]? = some (pob s a' b') := get_set_eq h _
  have hc92 : ((c : Int) == 92) = (c == 92) := beq_cast c 92
  cases h92 : c == 92 with
  | true =>
    simp -implicitDefEqProofs only [go_sem, List.reduceReplicate, Nat.reduceAdd, Nat.reduceSub, Nat.reduceLT, Nat.reduceLeDiff, Nat.reduceMul, Nat.reduceEqDiff, reduceCtorEq, Int.reduceLE, Int.reduceLT, Int.reduceEq, Int.reduceNe, Int.reduceBEq, Int.reduceBNe, Int.reduceAdd, Int.reduceSub, hc92, h92]
    refine CO.intro (sign_ans _ p s a' b' hs' hg) ?_
    simp -implicitDefEqProofs only [go_sem, List.reduceReplicate, Nat.reduceAdd, Nat.reduceSub, Nat.reduceLT, Nat.reduceLeDiff, Nat.reduceMul, Nat.reduceEqDiff, reduceCtorEq, Int.reduceLE, Int.reduceLT, Int.reduceEq, Int.reduceNe, Int.reduceBEq, Int.reduceBNe, Int.reduceAdd, Int.reduceSub, List.set_set]
    exact Fini.ret rfl
  | false =>
    simp -implicitDefEqProofs only [go_sem, List.reduceReplicate, Nat.reduceAdd, Nat.reduceSub, Nat.reduceLT, Nat.reduceLeDiff, Nat.reduceMul, Nat.reduceEqDiff, reduceCtorEq, Int.reduceLE, Int.reduceLT, Int.reduceEq, Int.reduceNe, Int.reduceBEq, Int.reduceBNe, Int.reduceAdd, Int.reduceSub, hc92, h92]
    cases b' with
    | true =>
      simp -implicitDefEqProofs only [go_sem, List.reduceReplicate, Nat.reduceAdd, Nat.reduceSub, Nat.reduceLT, Nat.reduceLeDiff, Nat.reduceMul, Nat.reduceEqDiff, reduceCtorEq, Int.reduceLE, Int.reduceLT, Int.reduceEq, Int.reduceNe, Int.reduceBEq, Int.reduceBNe, Int.reduceAdd, Int.reduceSub, hg, List.set_set]
      exact Fini.ret rfl
    | false =>
      simp -implicitDefEqProofs only [go_sem, List.reduceReplicate, Nat.reduceAdd, Nat.reduceSub, Nat.reduceLT, Nat.reduceLeDiff, Nat.reduceMul, Nat.reduceEqDiff, reduceCtorEq, Int.reduceLE, Int.reduceLT, Int.reduceEq, Int.reduceNe, Int.reduceBEq, Int.reduceBNe, Int.reduceAdd, Int.reduceSub, hg]
      refine CO.intro (byteidx_ans _ _ c) ?_
      simp -implicitDefEqProofs only [go_sem, List.reduceReplicate, Nat.reduceAdd, Nat.reduceSub, Nat.reduceLT, Nat.reduceLeDiff, Nat.reduceMul, Nat.reduceEqDiff, reduceCtorEq, Int.reduceLE, Int.reduceLT, Int.reduceEq, Int.reduceNe, Int.reduceBEq, Int.reduceBNe, Int.reduceAdd, Int.reduceSub, hg, List.set_set]
      refine Fini.ret2 (n := 0) rfl rfl ?_
      rw [hc]; rfl
end
end Go.Proofs.Ytoadgajhkhejiaa
