/- The small functions of the parser of patterns. No condition. -/
import Derived.Test.YtoadgajhkhejiaaPLay6
import Derived.Test.YtoadgajhkhejiaaMRun
import Derived.Test.YtoadgajhkhejiaaAbStay
set_option linter.unusedSimpArgs false
set_option linter.unusedVariables false
namespace Go.Proofs.Ytoadgajhkhejiaa
open Go Go.Ab
set_option maxRecDepth 100000

abbrev B8 (n : Int) : AV := .pl (.int .u8 n)
abbrev unit : AV := .tup []
/-- A parser: what it reads, where it is, whether it has failed. -/
abbrev pob (s : ByteArray) (at_ : Nat) (bad : Bool) : Ob := .box [Sx s, I at_, Bo bad]

def byteAt (s : ByteArray) (a : Nat) : Nat := (s.data.toList.getD a 0).toNat
theorem byteAt_def (s : ByteArray) (a : Nat) : (s.data.toList.getD a 0).toNat = byteAt s a := rfl
theorem byteAt_lt (s : ByteArray) (a : Nat) : byteAt s a < 256 := (s.data.toList.getD a 0).toNat_lt
theorem beq_cast (a b : Nat) : ((a : Int) == (b : Int)) = (a == b) := by
  rw [Bool.eq_iff_iff]; simp only [beq_iff_eq]; omega
theorem set_same {σ : St} {p : Nat} {o : Ob} (h : σ[p]? = some o) : σ.set p o = σ := by
  apply List.ext_getElem?
  intro i
  rw [List.getElem?_set]
  split
  · rename_i e; subst e
    have : p < σ.length := (List.getElem?_eq_some_iff.1 h).1
    simp only [this, if_true, h]
  · rfl
theorem wrap_nat {n : Nat} (h : n ≤ 4294967296) : IntKind.i64.wrap ((n : Int) + 1) = ((n + 1 : Nat) : Int) := by
  simp only [IntKind.wrap, IntKind.bits, IntKind.signed]; simp; omega

def over (s : ByteArray) (a : Nat) (bad : Bool) : Bool := bad || decide (s.size ≤ a)
def sees (s : ByteArray) (a : Nat) (bad : Bool) (c : Nat) : Bool := !over s a bad && (byteAt s a == c)
def nextA (s : ByteArray) (a : Nat) (bad : Bool) (c : Nat) : Nat := if sees s a bad c then a + 1 else a
def pbyte (s : ByteArray) (a : Nat) (bad : Bool) : Nat × Nat × Bool := if over s a bad then (0, a, true) else (byteAt s a, a + 1, bad)
def signs : List Nat := [124, 42, 43, 63, 40, 41, 91, 93, 46, 92, 94, 45]
def within : List Nat := [92, 93, 91, 94, 45]
def psign (s : ByteArray) (a : Nat) (bad : Bool) : Nat × Nat × Bool :=
  ((pbyte s a bad).1, (pbyte s a bad).2.1, (pbyte s a bad).2.2 || !signs.contains (pbyte s a bad).1)
def pmember (s : ByteArray) (a : Nat) (bad : Bool) : Nat × Nat × Bool :=
  if (pbyte s a bad).1 == 92 then psign s (pbyte s a bad).2.1 (pbyte s a bad).2.2
  else ((pbyte s a bad).1, (pbyte s a bad).2.1, (pbyte s a bad).2.2 || within.contains (pbyte s a bad).1)

theorem over_lt {s : ByteArray} {a : Nat} {bad : Bool} (h : over s a bad = false) : a < s.size := by
  simp [over] at h; omega
theorem pbyte_lt (s : ByteArray) (a : Nat) (bad : Bool) : (pbyte s a bad).1 < 256 := by
  unfold pbyte; split
  · show 0 < 256; decide
  · exact byteAt_lt s a
theorem pmember_lt (s : ByteArray) (a : Nat) (bad : Bool) : (pmember s a bad).1 < 256 := by
  unfold pmember; split
  · exact pbyte_lt _ _ _
  · exact pbyte_lt _ _ _

section
variable (σ : St) (p : Nat) (s : ByteArray) (a : Nat) (bad : Bool)

theorem over_ans (h : σ[p]? = some (pob s a bad)) : Ans Try.prog 132 [.ptr p 0] σ (Bo (over s a bad)) σ := by
  refine Ans.of_run t132 ?_
  cases bad <;> simp -implicitDefEqProofs only [c132, r132, h, go_sem, List.reduceReplicate, Nat.reduceAdd, Nat.reduceSub, Nat.reduceLT, Nat.reduceLeDiff, Nat.reduceMul, Nat.reduceEqDiff, reduceCtorEq, Int.reduceLE, Int.reduceLT, Int.reduceEq, Int.reduceNe, Int.reduceBEq, Int.reduceBNe, Int.reduceAdd, Int.reduceSub]
  · refine Fini.ret ?_
    simp -implicitDefEqProofs only [go_sem, List.reduceReplicate, Nat.reduceAdd, Nat.reduceSub, Nat.reduceLT, Nat.reduceLeDiff, Nat.reduceMul, Nat.reduceEqDiff, reduceCtorEq, Int.reduceLE, Int.reduceLT, Int.reduceEq, Int.reduceNe, Int.reduceBEq, Int.reduceBNe, Int.reduceAdd, Int.reduceSub, over, Bool.false_or, Int.ofNat_le]
    rfl
  · exact Fini.ret rfl

theorem sees_ans (c : Nat) (h : σ[p]? = some (pob s a bad)) : Ans Try.prog 133 [.ptr p 0, B8 c] σ (Bo (sees s a bad c)) σ := by
  refine Ans.of_run t133 ?_
  simp -implicitDefEqProofs only [c133, r133, h, go_sem, List.reduceReplicate, Nat.reduceAdd, Nat.reduceSub, Nat.reduceLT, Nat.reduceLeDiff, Nat.reduceMul, Nat.reduceEqDiff, reduceCtorEq, Int.reduceLE, Int.reduceLT, Int.reduceEq, Int.reduceNe, Int.reduceBEq, Int.reduceBNe, Int.reduceAdd, Int.reduceSub]
  refine CD.intro (over_ans σ p s a bad h) ?_
  cases hb : over s a bad
  · have hlt := over_lt hb
    have h1 : (a : Int) < s.size := by omega
    simp -implicitDefEqProofs only [go_sem, List.reduceReplicate, Nat.reduceAdd, Nat.reduceSub, Nat.reduceLT, Nat.reduceLeDiff, Nat.reduceMul, Nat.reduceEqDiff, reduceCtorEq, Int.reduceLE, Int.reduceLT, Int.reduceEq, Int.reduceNe, Int.reduceBEq, Int.reduceBNe, Int.reduceAdd, Int.reduceSub, h, h1, byteAt_def]
    refine Fini.ret ?_
    simp -implicitDefEqProofs only [go_sem, List.reduceReplicate, Nat.reduceAdd, Nat.reduceSub, Nat.reduceLT, Nat.reduceLeDiff, Nat.reduceMul, Nat.reduceEqDiff, reduceCtorEq, Int.reduceLE, Int.reduceLT, Int.reduceEq, Int.reduceNe, Int.reduceBEq, Int.reduceBNe, Int.reduceAdd, Int.reduceSub, sees, hb, beq_cast]
    rfl
  · simp -implicitDefEqProofs only [go_sem, List.reduceReplicate, Nat.reduceAdd, Nat.reduceSub, Nat.reduceLT, Nat.reduceLeDiff, Nat.reduceMul, Nat.reduceEqDiff, reduceCtorEq, Int.reduceLE, Int.reduceLT, Int.reduceEq, Int.reduceNe, Int.reduceBEq, Int.reduceBNe, Int.reduceAdd, Int.reduceSub, h]
    refine Fini.ret ?_
    simp -implicitDefEqProofs only [go_sem, List.reduceReplicate, Nat.reduceAdd, Nat.reduceSub, Nat.reduceLT, Nat.reduceLeDiff, Nat.reduceMul, Nat.reduceEqDiff, reduceCtorEq, Int.reduceLE, Int.reduceLT, Int.reduceEq, Int.reduceNe, Int.reduceBEq, Int.reduceBNe, Int.reduceAdd, Int.reduceSub, sees, hb, Bool.false_and]
    rfl

theorem next_ans (c : Nat) (hs : bad = true ∨ s.size ≤ 40) (h : σ[p]? = some (pob s a bad)) : Ans Try.prog 118 [.ptr p 0, B8 c] σ (Bo (sees s a bad c)) (σ.set p (pob s (nextA s a bad c) bad)) := by
  refine Ans.of_run t118 ?_
  simp -implicitDefEqProofs only [c118, r118, h, go_sem, List.reduceReplicate, Nat.reduceAdd, Nat.reduceSub, Nat.reduceLT, Nat.reduceLeDiff, Nat.reduceMul, Nat.reduceEqDiff, reduceCtorEq, Int.reduceLE, Int.reduceLT, Int.reduceEq, Int.reduceNe, Int.reduceBEq, Int.reduceBNe, Int.reduceAdd, Int.reduceSub]
  refine CO.intro (sees_ans σ p s a bad c h) ?_
  unfold nextA
  cases hb : sees s a bad c
  · simp -implicitDefEqProofs only [go_sem, List.reduceReplicate, Nat.reduceAdd, Nat.reduceSub, Nat.reduceLT, Nat.reduceLeDiff, Nat.reduceMul, Nat.reduceEqDiff, reduceCtorEq, Int.reduceLE, Int.reduceLT, Int.reduceEq, Int.reduceNe, Int.reduceBEq, Int.reduceBNe, Int.reduceAdd, Int.reduceSub]
    rw [set_same h]
    exact Fini.ret rfl
  · have hlt : a < s.size := by
      simp [sees] at hb; exact over_lt hb.1
    have hsz : s.size ≤ 40 := by
      rcases hs with rfl | hs
      · simp [sees, over] at hb
      · exact hs
    simp -implicitDefEqProofs only [go_sem, List.reduceReplicate, Nat.reduceAdd, Nat.reduceSub, Nat.reduceLT, Nat.reduceLeDiff, Nat.reduceMul, Nat.reduceEqDiff, reduceCtorEq, Int.reduceLE, Int.reduceLT, Int.reduceEq, Int.reduceNe, Int.reduceBEq, Int.reduceBNe, Int.reduceAdd, Int.reduceSub, h, wrap_nat (show a ≤ 4294967296 by omega)]
    exact Fini.ret rfl

theorem byte_ans (hs : bad = true ∨ s.size ≤ 40) (h : σ[p]? = some (pob s a bad)) : Ans Try.prog 145 [.ptr p 0] σ (B8 (pbyte s a bad).1) (σ.set p (pob s (pbyte s a bad).2.1 (pbyte s a bad).2.2)) := by
  refine Ans.of_run t145 ?_
  simp -implicitDefEqProofs only [c145, r145, h, go_sem, List.reduceReplicate, Nat.reduceAdd, Nat.reduceSub, Nat.reduceLT, Nat.reduceLeDiff, Nat.reduceMul, Nat.reduceEqDiff, reduceCtorEq, Int.reduceLE, Int.reduceLT, Int.reduceEq, Int.reduceNe, Int.reduceBEq, Int.reduceBNe, Int.reduceAdd, Int.reduceSub]
  refine CO.intro (over_ans σ p s a bad h) ?_
  unfold pbyte
  cases hb : over s a bad
  · have hlt := over_lt hb
    have hsz : s.size ≤ 40 := by
      rcases hs with rfl | hs
      · simp [over] at hb
      · exact hs
    have h1 : (a : Int) < s.size := by omega
    have h2 : IntKind.i64.wrap (((a + 1 : Nat) : Int) - 1) = (a : Int) := by
      simp only [IntKind.wrap, IntKind.bits, IntKind.signed]; simp; omega
    simp -implicitDefEqProofs only [go_sem, List.reduceReplicate, Nat.reduceAdd, Nat.reduceSub, Nat.reduceLT, Nat.reduceLeDiff, Nat.reduceMul, Nat.reduceEqDiff, reduceCtorEq, Int.reduceLE, Int.reduceLT, Int.reduceEq, Int.reduceNe, Int.reduceBEq, Int.reduceBNe, Int.reduceAdd, Int.reduceSub, h, get_set_eq h, wrap_nat (show a ≤ 4294967296 by omega), h1, h2, byteAt_def]
    exact Fini.ret rfl
  · simp -implicitDefEqProofs only [go_sem, List.reduceReplicate, Nat.reduceAdd, Nat.reduceSub, Nat.reduceLT, Nat.reduceLeDiff, Nat.reduceMul, Nat.reduceEqDiff, reduceCtorEq, Int.reduceLE, Int.reduceLT, Int.reduceEq, Int.reduceNe, Int.reduceBEq, Int.reduceBNe, Int.reduceAdd, Int.reduceSub, h, get_set_eq h]
    exact Fini.ret rfl

theorem idx60 (t : ByteArray) (c : Nat) : Ans Try.prog 159 [Sx t, B8 c] σ (I (firstIdx t c.toUInt8)) σ := idx_ok _ _ _ _ rfl

theorem byteidx_ans (t : ByteArray) (c : Nat) : Ans Try.prog 150 [Sx t, B8 c] σ (I (firstIdx t c.toUInt8)) σ := by
  have h58 : Ans Try.prog 157 [Sx t, B8 c] σ (I (firstIdx t c.toUInt8)) σ := by
    refine Ans.of_run t157 ?_
    simp -implicitDefEqProofs only [c157, r157, go_sem, List.reduceReplicate, Nat.reduceAdd, Nat.reduceSub, Nat.reduceLT, Nat.reduceLeDiff, Nat.reduceMul, Nat.reduceEqDiff, reduceCtorEq, Int.reduceLE, Int.reduceLT, Int.reduceEq, Int.reduceNe, Int.reduceBEq, Int.reduceBNe, Int.reduceAdd, Int.reduceSub]
    refine CO.intro (idx60 σ t c) ?_
    simp -implicitDefEqProofs only [go_sem, List.reduceReplicate, Nat.reduceAdd, Nat.reduceSub, Nat.reduceLT, Nat.reduceLeDiff, Nat.reduceMul, Nat.reduceEqDiff, reduceCtorEq, Int.reduceLE, Int.reduceLT, Int.reduceEq, Int.reduceNe, Int.reduceBEq, Int.reduceBNe, Int.reduceAdd, Int.reduceSub]
    exact Fini.ret rfl
  refine Ans.of_run t150 ?_
  simp -implicitDefEqProofs only [c150, r150, go_sem, List.reduceReplicate, Nat.reduceAdd, Nat.reduceSub, Nat.reduceLT, Nat.reduceLeDiff, Nat.reduceMul, Nat.reduceEqDiff, reduceCtorEq, Int.reduceLE, Int.reduceLT, Int.reduceEq, Int.reduceNe, Int.reduceBEq, Int.reduceBNe, Int.reduceAdd, Int.reduceSub]
  refine CO.intro h58 ?_
  simp -implicitDefEqProofs only [go_sem, List.reduceReplicate, Nat.reduceAdd, Nat.reduceSub, Nat.reduceLT, Nat.reduceLeDiff, Nat.reduceMul, Nat.reduceEqDiff, reduceCtorEq, Int.reduceLE, Int.reduceLT, Int.reduceEq, Int.reduceNe, Int.reduceBEq, Int.reduceBNe, Int.reduceAdd, Int.reduceSub]
  exact Fini.ret rfl

theorem signs_idx : ∀ c : Nat, c < 256 → decide (firstIdx (ByteArray.mk #[124, 42, 43, 63, 40, 41, 91, 93, 46, 92, 94, 45]) c.toUInt8 < 0) = !signs.contains c := by decide +kernel
theorem within_idx : ∀ c : Nat, c < 256 → decide (0 ≤ firstIdx (ByteArray.mk #[92, 93, 91, 94, 45]) c.toUInt8) = within.contains c := by decide +kernel
def stray : List Nat := [42, 43, 63, 93]
theorem stray_idx : ∀ c : Nat, c < 256 → decide (0 ≤ firstIdx (ByteArray.mk #[42, 43, 63, 93]) c.toUInt8) = stray.contains c := by decide +kernel

theorem sign_ans (hs : bad = true ∨ s.size ≤ 40) (h : σ[p]? = some (pob s a bad)) : Ans Try.prog 149 [.ptr p 0] σ (B8 (psign s a bad).1) (σ.set p (pob s (psign s a bad).2.1 (psign s a bad).2.2)) := by
  have hc := signs_idx _ (pbyte_lt s a bad)
  unfold psign
  refine Ans.of_run t149 ?_
  simp -implicitDefEqProofs only [c149, r149, h, go_sem, List.reduceReplicate, Nat.reduceAdd, Nat.reduceSub, Nat.reduceLT, Nat.reduceLeDiff, Nat.reduceMul, Nat.reduceEqDiff, reduceCtorEq, Int.reduceLE, Int.reduceLT, Int.reduceEq, Int.reduceNe, Int.reduceBEq, Int.reduceBNe, Int.reduceAdd, Int.reduceSub]
  refine CO.intro (byte_ans σ p s a bad hs h) ?_
  generalize pbyte s a bad = q at hc ⊢
  obtain ⟨c, a', b'⟩ := q
  have hg : (σ.set p (pob s a' b'))[p]? = some (pob s a' b') := get_set_eq h _
  cases b' with
  | true =>
    simp -implicitDefEqProofs only [go_sem, List.reduceReplicate, Nat.reduceAdd, Nat.reduceSub, Nat.reduceLT, Nat.reduceLeDiff, Nat.reduceMul, Nat.reduceEqDiff, reduceCtorEq, Int.reduceLE, Int.reduceLT, Int.reduceEq, Int.reduceNe, Int.reduceBEq, Int.reduceBNe, Int.reduceAdd, Int.reduceSub, hg, List.set_set]
    exact Fini.ret rfl
  | false =>
    simp -implicitDefEqProofs only [go_sem, List.reduceReplicate, Nat.reduceAdd, Nat.reduceSub, Nat.reduceLT, Nat.reduceLeDiff, Nat.reduceMul, Nat.reduceEqDiff, reduceCtorEq, Int.reduceLE, Int.reduceLT, Int.reduceEq, Int.reduceNe, Int.reduceBEq, Int.reduceBNe, Int.reduceAdd, Int.reduceSub, hg]
    refine CO.intro (byteidx_ans _ _ c) ?_
    simp -implicitDefEqProofs only [go_sem, List.reduceReplicate, Nat.reduceAdd, Nat.reduceSub, Nat.reduceLT, Nat.reduceLeDiff, Nat.reduceMul, Nat.reduceEqDiff, reduceCtorEq, Int.reduceLE, Int.reduceLT, Int.reduceEq, Int.reduceNe, Int.reduceBEq, Int.reduceBNe, Int.reduceAdd, Int.reduceSub, hg, List.set_set]
    refine Fini.ret2 (n := 0) rfl rfl ?_
    rw [hc]; rfl

theorem member_ans (hs : bad = true ∨ s.size ≤ 40) (h : σ[p]? = some (pob s a bad)) : Ans Try.prog 156 [.ptr p 0] σ (B8 (pmember s a bad).1) (σ.set p (pob s (pmember s a bad).2.1 (pmember s a bad).2.2)) := by
  have hc := within_idx _ (pbyte_lt s a bad)
  have hs' : (pbyte s a bad).2.2 = true ∨ s.size ≤ 40 := by
    unfold pbyte; split
    · exact .inl rfl
    · exact hs
  unfold pmember
  refine Ans.of_run t156 ?_
  simp -implicitDefEqProofs only [c156, r156, h, go_sem, List.reduceReplicate, Nat.reduceAdd, Nat.reduceSub, Nat.reduceLT, Nat.reduceLeDiff, Nat.reduceMul, Nat.reduceEqDiff, reduceCtorEq, Int.reduceLE, Int.reduceLT, Int.reduceEq, Int.reduceNe, Int.reduceBEq, Int.reduceBNe, Int.reduceAdd, Int.reduceSub]
  refine CO.intro (byte_ans σ p s a bad hs h) ?_
  generalize pbyte s a bad = q at hc hs' ⊢
  obtain ⟨c, a', b'⟩ := q
  have hg : (σ.set p (pob s a' b'))[p]? = some (pob s a' b') := get_set_eq h _
  have hc92 : ((c : Int) == 92) = (c == 92) := beq_cast c 92
  cases h92 : c == 92 with
  | true =>
    simp -implicitDefEqProofs only [go_sem, List.reduceReplicate, Nat.reduceAdd, Nat.reduceSub, Nat.reduceLT, Nat.reduceLeDiff, Nat.reduceMul, Nat.reduceEqDiff, reduceCtorEq, Int.reduceLE, Int.reduceLT, Int.reduceEq, Int.reduceNe, Int.reduceBEq, Int.reduceBNe, Int.reduceAdd, Int.reduceSub, hc92, h92]
    refine CO.intro (sign_ans _ p s a' b' hs' hg) ?_
    simp -implicitDefEqProofs only [go_sem, List.reduceReplicate, Nat.reduceAdd, Nat.reduceSub, Nat.reduceLT, Nat.reduceLeDiff, Nat.reduceMul, Nat.reduceEqDiff, reduceCtorEq, Int.reduceLE, Int.reduceLT, Int.reduceEq, Int.reduceNe, Int.reduceBEq, Int.reduceBNe, Int.reduceAdd, Int.reduceSub, List.set_set]
    exact Fini.ret rfl
  | false =>
    simp -implicitDefEqProofs only [go_sem, List.reduceReplicate, Nat.reduceAdd, Nat.reduceSub, Nat.reduceLT, Nat.reduceLeDiff, Nat.reduceMul, Nat.reduceEqDiff, reduceCtorEq, Int.reduceLE, Int.reduceLT, Int.reduceEq, Int.reduceNe, Int.reduceBEq, Int.reduceBNe, Int.reduceAdd, Int.reduceSub, hc92, h92]
    cases b' with
    | true =>
      simp -implicitDefEqProofs only [go_sem, List.reduceReplicate, Nat.reduceAdd, Nat.reduceSub, Nat.reduceLT, Nat.reduceLeDiff, Nat.reduceMul, Nat.reduceEqDiff, reduceCtorEq, Int.reduceLE, Int.reduceLT, Int.reduceEq, Int.reduceNe, Int.reduceBEq, Int.reduceBNe, Int.reduceAdd, Int.reduceSub, hg, List.set_set]
      exact Fini.ret rfl
    | false =>
      simp -implicitDefEqProofs only [go_sem, List.reduceReplicate, Nat.reduceAdd, Nat.reduceSub, Nat.reduceLT, Nat.reduceLeDiff, Nat.reduceMul, Nat.reduceEqDiff, reduceCtorEq, Int.reduceLE, Int.reduceLT, Int.reduceEq, Int.reduceNe, Int.reduceBEq, Int.reduceBNe, Int.reduceAdd, Int.reduceSub, hg]
      refine CO.intro (byteidx_ans _ _ c) ?_
      simp -implicitDefEqProofs only [go_sem, List.reduceReplicate, Nat.reduceAdd, Nat.reduceSub, Nat.reduceLT, Nat.reduceLeDiff, Nat.reduceMul, Nat.reduceEqDiff, reduceCtorEq, Int.reduceLE, Int.reduceLT, Int.reduceEq, Int.reduceNe, Int.reduceBEq, Int.reduceBNe, Int.reduceAdd, Int.reduceSub, hg, List.set_set]
      refine Fini.ret2 (n := 0) rfl rfl ?_
      rw [hc]; rfl
end
end Go.Proofs.Ytoadgajhkhejiaa

set_option linter.unusedSimpArgs false
set_option linter.unusedVariables false
namespace Go.Proofs.Ytoadgajhkhejiaa
open Go Go.Ab
set_option maxRecDepth 100000

def orU (v w : Int) : Int := IntKind.u64.wrap (BitVec.ofInt IntKind.u64.bits v ||| BitVec.ofInt IntKind.u64.bits w).toNat
def bitU (r : Nat) : Int := IntKind.u64.wrap (1 * 2 ^ (min r IntKind.u64.bits))
def notU (v : Int) : Int := IntKind.u64.wrap (BitVec.ofInt IntKind.u64.bits (if IntKind.u64.signed then -1 else IntKind.u64.max) ^^^ BitVec.ofInt IntKind.u64.bits v).toNat
def setAdd (S : List Int) (c : Nat) : List Int := S.set (c / 64) (orU (S.getD (c / 64) 0) (bitU (c % 64)))
def addR (S : List Int) (f : Nat) : Nat → List Int
  | 0 => S
  | n + 1 => setAdd (addR S f n) (f + n)
theorem setAdd_len (S : List Int) (c : Nat) : (setAdd S c).length = S.length := by simp [setAdd]
theorem addR_len (S : List Int) (f n : Nat) : (addR S f n).length = S.length := by
  induction n with
  | zero => rfl
  | succ n ih => rw [addR, setAdd_len, ih]

theorem gA {σ : St} {p : Nat} (hp : p < σ.length) (o : Ob) (ex : St) : (σ.set p o ++ ex)[p]? = some o := by
  rw [List.getElem?_append_left (by simpa using hp)]; simp [hp]
theorem sA {σ : St} {p : Nat} (hp : p < σ.length) (o o' : Ob) (ex : St) : (σ.set p o ++ ex).set p o' = σ.set p o' ++ ex := by
  rw [List.set_append_left _ _ (by simpa using hp), List.set_set]
theorem gA0 {σ : St} {p : Nat} (hp : p < σ.length) (o : Ob) : (σ.set p o)[p]? = some o := by simp [hp]
theorem gL0 (σ : St) (p : Nat) (o x : Ob) (ex : St) : (σ.set p o ++ x :: ex)[σ.length]? = some x := by
  rw [List.getElem?_append_right (by simp)]; simp
theorem sL0 (σ : St) (p : Nat) (o x y : Ob) (ex : St) : (σ.set p o ++ x :: ex).set σ.length y = σ.set p o ++ y :: ex := by
  rw [List.set_append_right _ _ (by simp)]; simp
theorem gL1 (σ : St) (p : Nat) (o x y : Ob) (ex : St) : (σ.set p o ++ x :: y :: ex)[σ.length + 1]? = some y := by
  rw [List.getElem?_append_right (by simp)]; simp
theorem sL1 (σ : St) (p : Nat) (o x y z : Ob) (ex : St) : (σ.set p o ++ x :: y :: ex).set (σ.length + 1) z = σ.set p o ++ x :: z :: ex := by
  rw [List.set_append_right _ _ (by simp)]; simp

theorem Fini.normal2 {n m : Nat} {rvs : List RV} {r r' : AV} {σ σ' : St} {env : Env} (h : resA env σ rvs = some r') (e : r' = r) (e' : σ = σ') : Fini m rvs r σ' .normal env σ := by
  subst e; subst e'; exact Fini.normal h

section
variable (σ : St)

theorem add_ans (l off : Nat) (cs : List AV) (c : Nat) (v : Int) (h : σ[l]? = some (.box cs)) (hv : cs[off + c / 64]? = some (U v)) (hc : c < 256) :
    Ans Try.prog 148 [.ptr l off, B8 c] σ (.tup []) (σ.set l (.box (cs.set (off + c / 64) (U (orU v (bitU (c % 64))))))) := by
  have hk : off + c / 64 < cs.length := (List.getElem?_eq_some_iff.1 hv).1
  have e1 : IntKind.u8.wrap ((c : Int).tdiv 64) = ((c / 64 : Nat) : Int) := by
    rw [show (c : Int).tdiv 64 = ((c / 64 : Nat) : Int) from rfl]
    simp only [IntKind.wrap, IntKind.bits, IntKind.signed]; simp; omega
  have e2 : (c : Int).tmod 64 = ((c % 64 : Nat) : Int) := rfl
  have e3 : ((64 : Int) = 0) = False := by simp
  have e4 : (((c / 64 : Nat) : Int) < (4 : Nat)) = True := by simp; omega
  have e5 : cs.drop (off + c / 64) = U v :: cs.drop (off + c / 64 + 1) := by
    rw [List.drop_eq_getElem_cons hk]
    have := (List.getElem?_eq_some_iff.1 hv).2
    rw [this]
  have e6 : (off + c / 64 + 1 ≤ cs.length) = True := by simp; omega
  have e7 : (1 ≤ (cs.drop (off + c / 64 + 1)).length + 1) = True := by simp
  refine Ans.of_run t148 ?_
  simp -implicitDefEqProofs only [c148, r148, go_sem, List.reduceReplicate, Nat.reduceAdd, Nat.reduceSub, Nat.reduceLT, Nat.reduceLeDiff, Nat.reduceMul, Nat.reduceEqDiff, reduceCtorEq, Int.reduceLE, Int.reduceLT, Int.reduceEq, Int.reduceNe, Int.reduceBEq, Int.reduceBNe, Int.reduceAdd, Int.reduceSub, e1, e2, e3, e4, Nat.mul_one, h, e5, e6, e7, List.drop_succ_cons]
  have hset : cs.set (off + c / 64) (U (orU v (bitU (c % 64)))) = cs.take (off + c / 64) ++ [U (orU v (bitU (c % 64)))] ++ cs.drop (off + c / 64 + 1) := by
    rw [List.set_eq_take_append_cons_drop, if_pos hk]; simp
  rw [hset]
  exact Fini.normal2 (n := 0) rfl rfl rfl

def turnS (S : List Int) : List Int := S.map notU

theorem turned_ans (a b c d : Int) : Ans Try.prog 147 [.agg [U a, U b, U c, U d]] σ (.agg [U (notU a), U (notU b), U (notU c), U (notU d)]) σ := by
  have k0 : ∀ (x y : Ob), (σ ++ [x, y])[σ.length]? = some x := fun x y => by rw [List.getElem?_append_right (by simp)]; simp
  have k1 : ∀ (x y : Ob), (σ ++ [x, y])[σ.length + 1]? = some y := fun x y => by rw [List.getElem?_append_right (by simp)]; simp
  have s0 : ∀ (x y z : Ob), (σ ++ [x, y]).set σ.length z = σ ++ [z, y] := fun x y z => by rw [List.set_append_right _ _ (by simp)]; simp
  have s1 : ∀ (x y z : Ob), (σ ++ [x, y]).set (σ.length + 1) z = σ ++ [x, z] := fun x y z => by rw [List.set_append_right _ _ (by simp)]; simp
  have q1 : IntKind.i64.wrap (0 + 1) = 1 := by decide
  have q2 : IntKind.i64.wrap (1 + 1) = 2 := by decide
  have q3 : IntKind.i64.wrap (2 + 1) = 3 := by decide
  have q4 : IntKind.i64.wrap (3 + 1) = 4 := by decide
  have q5 : IntKind.i64.wrap 1 = 1 := by decide
  have q6 : IntKind.i64.wrap 2 = 2 := by decide
  have q7 : IntKind.i64.wrap 3 = 3 := by decide
  have q8 : IntKind.i64.wrap 4 = 4 := by decide
  have n1 : Int.toNat 1 = 1 := rfl
  have n2 : Int.toNat 2 = 2 := rfl
  have n3 : Int.toNat 3 = 3 := rfl
  have c4 : ((4 : Nat) : Int) = 4 := rfl
  refine Ans.of_run' t147 (fun hbel _ => ?_)
  simp -implicitDefEqProofs only [c147, r147, go_sem, List.reduceReplicate, Nat.reduceAdd, Nat.reduceSub, Nat.reduceLT, Nat.reduceLeDiff, Nat.reduceMul, Nat.reduceEqDiff, reduceCtorEq, Int.reduceLE, Int.reduceLT, Int.reduceEq, Int.reduceNe, Int.reduceBEq, Int.reduceBNe, Int.reduceAdd, Int.reduceSub, List.append_assoc, List.length_append]
  refine L.count 4 (fun i => mkE 15 [(1, .ptr σ.length 0), (2, .ptr (σ.length + 1) 0), (4, I i)])
    (fun i => σ ++ [.box (match i with | 0 => [U a, U b, U c, U d] | 1 => [U (notU a), U b, U c, U d] | 2 => [U (notU a), U (notU b), U c, U d] | 3 => [U (notU a), U (notU b), U (notU c), U d] | _ => [U (notU a), U (notU b), U (notU c), U (notU d)]), .box [U 0, U 0, U 0, U 0]]) ?_ ?_ rfl rfl
  · intro i hi Q hQ
    match i, hi, hQ with
    | 0, _, hQ =>
      simp -implicitDefEqProofs only [mkE, List.foldl_cons, List.foldl_nil, go_sem, List.reduceReplicate, Nat.reduceAdd, Nat.reduceSub, Nat.reduceLT, Nat.reduceLeDiff, Nat.reduceMul, Nat.reduceEqDiff, reduceCtorEq, Int.reduceLE, Int.reduceLT, Int.reduceEq, Int.reduceNe, Int.reduceBEq, Int.reduceBNe, Int.reduceAdd, Int.reduceSub, k0, k1, s0, s1, q1, q2, q3, q4, q5, q6, q7, q8, n1, n2, n3, c4, Int.toNat_zero, Int.cast_ofNat_Int, Int.natCast_one, Int.natCast_zero]
      exact hQ
    | 1, _, hQ =>
      simp -implicitDefEqProofs only [mkE, List.foldl_cons, List.foldl_nil, go_sem, List.reduceReplicate, Nat.reduceAdd, Nat.reduceSub, Nat.reduceLT, Nat.reduceLeDiff, Nat.reduceMul, Nat.reduceEqDiff, reduceCtorEq, Int.reduceLE, Int.reduceLT, Int.reduceEq, Int.reduceNe, Int.reduceBEq, Int.reduceBNe, Int.reduceAdd, Int.reduceSub, k0, k1, s0, s1, q1, q2, q3, q4, q5, q6, q7, q8, n1, n2, n3, c4, Int.toNat_zero, Int.cast_ofNat_Int, Int.natCast_one, Int.natCast_zero]
      exact hQ
    | 2, _, hQ =>
      simp -implicitDefEqProofs only [mkE, List.foldl_cons, List.foldl_nil, go_sem, List.reduceReplicate, Nat.reduceAdd, Nat.reduceSub, Nat.reduceLT, Nat.reduceLeDiff, Nat.reduceMul, Nat.reduceEqDiff, reduceCtorEq, Int.reduceLE, Int.reduceLT, Int.reduceEq, Int.reduceNe, Int.reduceBEq, Int.reduceBNe, Int.reduceAdd, Int.reduceSub, k0, k1, s0, s1, q1, q2, q3, q4, q5, q6, q7, q8, n1, n2, n3, c4, Int.toNat_zero, Int.cast_ofNat_Int, Int.natCast_one, Int.natCast_zero]
      exact hQ
    | 3, _, hQ =>
      simp -implicitDefEqProofs only [mkE, List.foldl_cons, List.foldl_nil, go_sem, List.reduceReplicate, Nat.reduceAdd, Nat.reduceSub, Nat.reduceLT, Nat.reduceLeDiff, Nat.reduceMul, Nat.reduceEqDiff, reduceCtorEq, Int.reduceLE, Int.reduceLT, Int.reduceEq, Int.reduceNe, Int.reduceBEq, Int.reduceBNe, Int.reduceAdd, Int.reduceSub, k0, k1, s0, s1, q1, q2, q3, q4, q5, q6, q7, q8, n1, n2, n3, c4, Int.toNat_zero, Int.cast_ofNat_Int, Int.natCast_one, Int.natCast_zero]
      exact hQ
  · intro Q
    simp -implicitDefEqProofs only [mkE, List.foldl_cons, List.foldl_nil, go_sem, List.reduceReplicate, Nat.reduceAdd, Nat.reduceSub, Nat.reduceLT, Nat.reduceLeDiff, Nat.reduceMul, Nat.reduceEqDiff, reduceCtorEq, Int.reduceLE, Int.reduceLT, Int.reduceEq, Int.reduceNe, Int.reduceBEq, Int.reduceBNe, Int.reduceAdd, Int.reduceSub, k0, k1, s0, s1, c4, Int.cast_ofNat_Int]
    refine Fini.trim2 (σ' := σ) (ex := [.box [U (notU a), U (notU b), U (notU c), U (notU d)], .box [U (notU a), U (notU b), U (notU c), U (notU d)]]) ?_ rfl (Nat.le_refl _) ?_ hbel
    · simp -implicitDefEqProofs only [go_sem, List.reduceReplicate, Nat.reduceAdd, Nat.reduceSub, Nat.reduceLT, Nat.reduceLeDiff, Nat.reduceMul, Nat.reduceEqDiff, reduceCtorEq, Int.reduceLE, Int.reduceLT, Int.reduceEq, Int.reduceNe, Int.reduceBEq, Int.reduceBNe, Int.reduceAdd, Int.reduceSub, resA, allSome, rvA, oneOf, k1]
    · refine .agg _ fun i hi => ?_
      have : ∀ y ∈ [U (notU a), U (notU b), U (notU c), U (notU d)], Bel σ.length y := by
        intro y hy
        simp only [List.mem_cons, List.not_mem_nil, or_false] at hy
        rcases hy with rfl | rfl | rfl | rfl <;> exact .pl _
      exact this _ (List.getElem_mem hi)
end
end Go.Proofs.Ytoadgajhkhejiaa

set_option linter.unusedSimpArgs false
set_option linter.unusedVariables false
namespace Go.Proofs.Ytoadgajhkhejiaa
open Go Go.Ab
set_option maxRecDepth 100000

def cGo (s : ByteArray) (a : Nat) (b first : Bool) : Bool := first || (!over s a b && !sees s a b 93)
def cTo (s : ByteArray) (a : Nat) (b : Bool) : Nat × Nat × Bool :=
  if sees s (pmember s a b).2.1 (pmember s a b).2.2 45 then pmember s ((pmember s a b).2.1 + 1) (pmember s a b).2.2 else pmember s a b
def cBad (s : ByteArray) (a : Nat) (b : Bool) : Bool := (cTo s a b).2.2 || decide ((cTo s a b).1 < (pmember s a b).1)
def classL (s : ByteArray) : Nat → List Int → Nat → Bool → Bool → List Int × Nat × Bool
  | 0, S, a, b, _ => (S, a, b)
  | n + 1, S, a, b, first => if cGo s a b first then
      classL s n (addR S (pmember s a b).1 ((cTo s a b).1 + 1 - (pmember s a b).1)) (cTo s a b).2.1 (cBad s a b) false
    else (S, a, b)
def cMeas (s : ByteArray) (a : Nat) (b first : Bool) : Nat := (s.size - a) + (if b then 0 else 1) + (if first then 1 else 0)

theorem pbyte_ge (s : ByteArray) (a : Nat) (b : Bool) : a ≤ (pbyte s a b).2.1 := by
  unfold pbyte; split
  · exact Nat.le_refl _
  · exact Nat.le_succ _
theorem pbyte_bad (s : ByteArray) (a : Nat) : (pbyte s a true) = (0, a, true) := by simp [pbyte, over]
theorem pbyte_meas (s : ByteArray) (a : Nat) (b : Bool) (h : b = false) : (s.size - (pbyte s a b).2.1) + (if (pbyte s a b).2.2 then 0 else 1) + 1 ≤ (s.size - a) + 1 := by
  subst h
  unfold pbyte
  split
  · simp
  · rename_i h
    have : a < s.size := over_lt (by simpa using h)
    simp; omega
theorem psign_ge (s : ByteArray) (a : Nat) (b : Bool) : a ≤ (psign s a b).2.1 := pbyte_ge s a b
theorem pmember_ge (s : ByteArray) (a : Nat) (b : Bool) : a ≤ (pmember s a b).2.1 := by
  unfold pmember; split
  · exact Nat.le_trans (pbyte_ge s a b) (psign_ge _ _ _)
  · exact pbyte_ge s a b
theorem psign_mono (s : ByteArray) (a : Nat) : (psign s a true).2.2 = true := by simp [psign, pbyte_bad]
theorem pmember_true (s : ByteArray) (a : Nat) : pmember s a true = (0, a, true) := by simp [pmember, pbyte_bad]
theorem pmember_meas (s : ByteArray) (a : Nat) (b : Bool) (h : b = false) : (s.size - (pmember s a b).2.1) + (if (pmember s a b).2.2 then 0 else 1) + 1 ≤ (s.size - a) + 1 := by
  have h1 := pbyte_meas s a b h
  unfold pmember
  split
  · have h2 := psign_ge s (pbyte s a b).2.1 (pbyte s a b).2.2
    cases hb : (pbyte s a b).2.2 with
    | true =>
      rw [hb] at h1 h2
      rw [psign_mono]
      simp at h1 ⊢
      omega
    | false =>
      rw [hb] at h1 h2
      simp at h1
      split <;> omega
  · cases hb : (pbyte s a b).2.2 with
    | true => rw [hb] at h1; simp at h1 ⊢; omega
    | false =>
      rw [hb] at h1
      simp only [Bool.false_or, Bool.false_eq_true, if_false] at h1 ⊢
      split <;> omega
theorem cTo_ge (s : ByteArray) (a : Nat) (b : Bool) : (pmember s a b).2.1 ≤ (cTo s a b).2.1 := by
  unfold cTo; split
  · exact Nat.le_trans (Nat.le_succ _) (pmember_ge _ _ _)
  · exact Nat.le_refl _
theorem cTo_mono (s : ByteArray) (a : Nat) (b : Bool) (h : (pmember s a b).2.2 = true) : (cTo s a b).2.2 = true := by
  unfold cTo; split
  · rw [h, pmember_true]
  · exact h
theorem cTo_true (s : ByteArray) (a : Nat) : cTo s a true = (0, a, true) := by
  unfold cTo; rw [pmember_true]; simp [sees, over]
theorem cBad_true (s : ByteArray) (a : Nat) : cBad s a true = true := by simp [cBad, cTo_true]
theorem cTo_lt (s : ByteArray) (a : Nat) (b : Bool) : (cTo s a b).1 < 256 := by
  unfold cTo; split <;> exact pmember_lt _ _ _

theorem cMeas_lt (s : ByteArray) (a : Nat) (b first : Bool) (h : cGo s a b first = true) : cMeas s (cTo s a b).2.1 (cBad s a b) false < cMeas s a b first := by
  unfold cMeas
  cases b with
  | true =>
    rw [cBad_true, cTo_true]
    cases first with
    | true => simp
    | false => simp [cGo, over] at h
  | false =>
    have h1 := pmember_meas s a false rfl
    have h2 := cTo_ge s a false
    have h3 : (if cBad s a false then 0 else 1) ≤ (if (pmember s a false).2.2 then 0 else 1) := by
      cases hm : (pmember s a false).2.2 with
      | true => simp [cBad, cTo_mono s a false hm]
      | false => split <;> simp
    have h0 : (if (false : Bool) = true then 0 else 1) = 1 := rfl
    have h0' : (if (false : Bool) = true then 1 else 0) = 0 := rfl
    cases first with
    | true =>
      have h5 : (if (true : Bool) = true then 1 else 0) = 1 := rfl
      rw [h0, h0', h5]
      omega
    | false =>
      have hov : over s a false = false := by simp [cGo] at h; exact h.1
      have hlt := over_lt hov
      have hp : a + 1 ≤ (pmember s a false).2.1 := by
        have : (pbyte s a false).2.1 = a + 1 := by simp [pbyte, hov]
        unfold pmember; split
        · exact Nat.le_trans (by omega) (psign_ge _ _ _)
        · show a + 1 ≤ (pbyte s a false).2.1
          omega
      have h4 : (if cBad s a false then 0 else 1) ≤ 1 := by split <;> omega
      rw [h0, h0']
      omega

def pclass (s : ByteArray) (a : Nat) (b : Bool) : List Int × Nat × Bool :=
  let l := classL s (s.size + 3) [0, 0, 0, 0] (nextA s a b 94) b true
  ((if sees s a b 94 then turnS l.1 else l.1), nextA s l.2.1 l.2.2 93, !sees s l.2.1 l.2.2 93 || l.2.2)

theorem classL_len (s : ByteArray) : ∀ (n : Nat) (S : List Int) (a : Nat) (b first : Bool), (classL s n S a b first).1.length = S.length
  | 0, S, a, b, first => rfl
  | n + 1, S, a, b, first => by
    rw [classL]; split
    · rw [classL_len s n, addR_len]
    · rfl

theorem pmember_hs {s : ByteArray} {a : Nat} {b : Bool} (h : b = true ∨ s.size ≤ 40) : (pmember s a b).2.2 = true ∨ s.size ≤ 40 := by
  rcases h with rfl | h
  · exact .inl (by rw [pmember_true])
  · exact .inr h
theorem cBad_hs {s : ByteArray} {a : Nat} {b : Bool} (h : b = true ∨ s.size ≤ 40) : cBad s a b = true ∨ s.size ≤ 40 := by
  rcases h with rfl | h
  · exact .inl (cBad_true s a)
  · exact .inr h
theorem classL_hs (s : ByteArray) : ∀ (n : Nat) (S : List Int) (a : Nat) (b first : Bool), (b = true ∨ s.size ≤ 40) → ((classL s n S a b first).2.2 = true ∨ s.size ≤ 40)
  | 0, S, a, b, first, h => h
  | n + 1, S, a, b, first, h => by
    rw [classL]; split
    · exact classL_hs s n _ _ _ _ (cBad_hs h)
    · exact h
end Go.Proofs.Ytoadgajhkhejiaa
