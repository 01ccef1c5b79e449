/- The scan of a text by a program: what it computes. No condition. -/
import Derived.Test.YtoadgajhkhejiaaPChkB
import Derived.Test.YtoadgajhkhejiaaPPar3
set_option linter.unusedSimpArgs false
set_option linter.unusedVariables false
namespace Go.Proofs.Ytoadgajhkhejiaa
open Go Go.Ab
set_option maxRecDepth 100000

abbrev W (b : BitVec 64) : AV := U (b.toNat : Int)
def bitW (i : Nat) : BitVec 64 := BitVec.twoPow 64 i

theorem wrapW (b : BitVec 64) : IntKind.u64.wrap (b.toNat : Int) = (b.toNat : Int) := by
  have := b.isLt
  simp only [IntKind.wrap, IntKind.bits, IntKind.signed]; simp; omega
theorem ofIntW (b : BitVec 64) : BitVec.ofInt 64 (b.toNat : Int) = b := by simp
theorem W_or (a b : BitVec 64) : IntKind.u64.wrap (BitVec.ofInt IntKind.u64.bits (a.toNat : Int) ||| BitVec.ofInt IntKind.u64.bits (b.toNat : Int)).toNat = ((a ||| b).toNat : Int) := by
  show IntKind.u64.wrap (((BitVec.ofInt 64 (a.toNat : Int) ||| BitVec.ofInt 64 (b.toNat : Int)).toNat : Nat) : Int) = _
  rw [ofIntW, ofIntW, wrapW]
theorem W_bit (i : Nat) (h : i < 64) : IntKind.u64.wrap (1 * 2 ^ (min ((i : Int)).toNat IntKind.u64.bits)) = ((bitW i).toNat : Int) := by
  rw [Int.toNat_natCast, show min i IntKind.u64.bits = i from Nat.min_eq_left (Nat.le_of_lt h), Int.one_mul, bitW, BitVec.toNat_twoPow_of_lt h]
  have : (2 : Nat) ^ i < 2 ^ 64 := Nat.pow_lt_pow_right (by omega) h
  have e : ((2 : Int) ^ i) = (((2 : Nat) ^ i : Nat) : Int) := by simp
  rw [e]
  generalize (2 : Nat) ^ i = n at this ⊢
  simp only [IntKind.wrap, IntKind.bits, IntKind.signed]; simp; omega
theorem W_get (b : BitVec 64) (i : Nat) (h : i < 64) : (IntKind.u64.wrap (BitVec.ofInt IntKind.u64.bits ((b.toNat : Int).fdiv (2 ^ (min ((i : Int)).toNat IntKind.u64.bits))) &&& BitVec.ofInt IntKind.u64.bits 1).toNat == 1) = b.getLsbD i := by
  rw [Int.toNat_natCast, show min i IntKind.u64.bits = i from Nat.min_eq_left (Nat.le_of_lt h)]
  have e1 : (b.toNat : Int).fdiv (2 ^ i) = ((b >>> i).toNat : Int) := by
    rw [BitVec.toNat_ushiftRight, Nat.shiftRight_eq_div_pow, Int.fdiv_eq_ediv_of_nonneg _ (Int.pow_nonneg (by omega))]
    simp
  show (IntKind.u64.wrap (((BitVec.ofInt 64 ((b.toNat : Int).fdiv (2 ^ i)) &&& BitVec.ofInt 64 1).toNat : Nat) : Int) == 1) = _
  rw [e1, ofIntW, show BitVec.ofInt 64 1 = 1#64 from rfl, wrapW, Bool.eq_iff_iff, beq_iff_eq]
  have e2 : ((b >>> i) &&& 1#64).toNat = (b.getLsbD i).toNat := by
    rw [BitVec.toNat_and, BitVec.toNat_ushiftRight]
    show b.toNat >>> i &&& 1 = _
    rw [Nat.and_one_is_mod, BitVec.getLsbD, Nat.testBit, Nat.and_comm, Nat.and_one_is_mod]
    rcases Nat.mod_two_eq_zero_or_one (b.toNat >>> i) with h | h <;> rw [h] <;> rfl
  rw [e2]
  cases b.getLsbD i <;> simp

theorem W_get' (b : BitVec 64) (i : Nat) (h : i < 64) : (IntKind.u64.wrap ((BitVec.ofInt 64 ((b.toNat : Int).fdiv (2 ^ min i 64)) &&& BitVec.ofInt 64 1).toNat : Int) == 1) = b.getLsbD i := W_get b i h
theorem W_bit' (i : Nat) (h : i < 64) : IntKind.u64.wrap (1 * 2 ^ min i 64) = ((bitW i).toNat : Int) := W_bit i h
theorem W_or' (a b : BitVec 64) : IntKind.u64.wrap ((BitVec.ofInt 64 (a.toNat : Int) ||| BitVec.ofInt 64 (b.toNat : Int)).toNat : Int) = ((a ||| b).toNat : Int) := W_or a b

/-- come: what is reached from a place, and which places have been passed. -/
def pcome (ys : List Stp) : Nat → Nat → BitVec 64 → BitVec 64 × BitVec 64
  | 0, _, been => (0, been)
  | f + 1, at_, been => if been.getLsbD at_ then (0, been) else
    match ys[at_]? with
    | none => (0, been)
    | some s => if s.op == 2 then
        ((pcome ys f s.x.toNat (been ||| bitW at_)).1 ||| (pcome ys f s.y.toNat (pcome ys f s.x.toNat (been ||| bitW at_)).2).1, (pcome ys f s.y.toNat (pcome ys f s.x.toNat (been ||| bitW at_)).2).2)
      else if s.op == 3 then pcome ys f s.x.toNat (been ||| bitW at_)
      else (bitW at_, been ||| bitW at_)

theorem or_ge (a b : BitVec 64) : a.toNat ≤ (a ||| b).toNat := by rw [BitVec.toNat_or]; exact Nat.left_le_or
theorem or_gt (a : BitVec 64) (i : Nat) (hi : i < 64) (h : a.getLsbD i = false) : a.toNat < (a ||| bitW i).toNat := by
  refine Nat.lt_of_le_of_ne (or_ge _ _) fun e => ?_
  have e' : a = a ||| bitW i := BitVec.eq_of_toNat_eq e
  have := congrArg (·.getLsbD i) e'
  rw [BitVec.getLsbD_or, h] at this
  simp [bitW, BitVec.getLsbD_twoPow, hi] at this
theorem pcome_ge (ys : List Stp) : ∀ (f at_ : Nat) (b : BitVec 64), b.toNat ≤ (pcome ys f at_ b).2.toNat
  | 0, _, _ => Nat.le_refl _
  | f + 1, at_, b => by
    rw [pcome]; split
    · exact Nat.le_refl _
    · split
      · exact Nat.le_refl _
      · have h0 := or_ge b (bitW at_)
        split
        · exact Nat.le_trans h0 (Nat.le_trans (pcome_ge ys f _ _) (pcome_ge ys f _ _))
        · split
          · exact Nat.le_trans h0 (pcome_ge ys f _ _)
          · exact h0

/-- A step whose places lie within. -/
def stepIn (n : Nat) (s : Stp) : Prop := (s.op = 2 → (0 ≤ s.x ∧ s.x < n) ∧ (0 ≤ s.y ∧ s.y < n)) ∧ (s.op = 3 → 0 ≤ s.x ∧ s.x < n)
def stepsIn (ys : List Stp) : Prop := ∀ s ∈ ys, stepIn ys.length s
theorem right_in {s : Stp} {n : Nat} {last : Bool} (h : rightS s n last = true) : stepIn n s := by
  unfold rightS at h
  split at h
  · cases h
  split at h
  · rename_i h1; have h1 : s.op = 1 := by simpa using h1
    exact ⟨fun e => by omega, fun e => by omega⟩
  split at h
  · rename_i h1; have h1 : s.op = 2 := by simpa using h1
    simp only [inR, Bool.and_eq_true, decide_eq_true_eq] at h
    exact ⟨fun _ => h, fun e => by omega⟩
  split at h
  · rename_i h1; have h1 : s.op = 3 := by simpa using h1
    simp only [inR, Bool.and_eq_true, decide_eq_true_eq] at h
    exact ⟨fun e => by omega, fun _ => h.1⟩
  · rename_i h1 h2
    exact ⟨fun e => by simp [e] at h1, fun e => by simp [e] at h2⟩
theorem check_in {ys : List Stp} (h : pcheck ys = true) : stepsIn ys ∧ 1 ≤ ys.length ∧ ys.length ≤ 40 := by
  unfold pcheck at h
  split at h
  · cases h
  split at h
  · cases h
  rename_i h1 h2
  simp only [decide_eq_true_eq, Bool.not_eq_true] at h1 h2
  have h1' : 1 ≤ ys.length := by omega
  have h2' : ys.length ≤ 40 := by omega
  refine ⟨?_, h1', h2'⟩
  rw [List.getElem?_eq_getElem (show ys.length - 1 < ys.length by omega)] at h
  simp only [Bool.and_eq_true, Bool.not_eq_true', List.any_eq_false, Bool.not_eq_false] at h
  intro s hs
  obtain ⟨i, hi, rfl⟩ := List.getElem_of_mem hs
  by_cases he : i = ys.length - 1
  · subst he
    exact right_in h.2
  · have := h.1 (ys[i]) (by
      rw [List.mem_take_iff_getElem]
      exact ⟨i, by omega, rfl⟩)
    exact right_in (by simpa using this)
end Go.Proofs.Ytoadgajhkhejiaa

set_option linter.unusedSimpArgs false
set_option linter.unusedVariables false
namespace Go.Proofs.Ytoadgajhkhejiaa
open Go Go.Ab
set_option maxRecDepth 100000

theorem qG {σ : St} {p : Nat} (hp : p < σ.length) (o : Ob) (ex : St) : (σ.set p o ++ ex)[p]? = some o := by
  rw [List.getElem?_append_left (by simpa using hp)]; simp [hp]
theorem qS {σ : St} {p : Nat} (hp : p < σ.length) (o o' : Ob) (ex : St) : (σ.set p o ++ ex).set p o' = σ.set p o' ++ ex := by
  rw [List.set_append_left _ _ (by simpa using hp), List.set_set]
theorem qG0 {σ : St} {p : Nat} (hp : p < σ.length) (o : Ob) : (σ.set p o)[p]? = some o := by simp [hp]
theorem qS0 {σ : St} {p : Nat} (o o' : Ob) : (σ.set p o).set p o' = σ.set p o' := by simp
theorem qL (σ : St) (p : Nat) (o x : Ob) (ex : St) : (σ.set p o ++ x :: ex)[σ.length]? = some x := by
  rw [List.getElem?_append_right (by simp)]; simp
theorem qLs (σ : St) (p : Nat) (o x y : Ob) (ex : St) : (σ.set p o ++ x :: ex).set σ.length y = σ.set p o ++ y :: ex := by
  rw [List.set_append_right _ _ (by simp)]; simp

theorem bel_wbox {σ : St} {p : Nat} {b : BitVec 64} (h : ∀ o ∈ σ.set p (.box [W b]), BelO (σ.set p (.box [W b])).length o) (b' : BitVec 64) :
    ∀ o ∈ σ.set p (.box [W b']), BelO (σ.set p (.box [W b'])).length o := by
  have e : σ.set p (.box [W b']) = (σ.set p (.box [W b])).set p (.box [W b']) := by rw [List.set_set]
  have el : (σ.set p (.box [W b'])).length = (σ.set p (.box [W b])).length := by simp
  rw [el, e]
  refine bel_set h fun x hx => ?_
  simp only [List.mem_cons, List.not_mem_nil, or_false] at hx
  subst hx; exact .pl _

theorem come_ans (ys : List Stp) (hin : stepsIn ys) (hl : ys.length ≤ 40) : ∀ (f at_ : Nat) (b : BitVec 64) (σ : St) (p : Nat), p < σ.length → 2 ^ 64 < b.toNat + f → at_ < ys.length →
    Ans Try.prog 116 [.sl 7 (ys.map Stp.av), I at_, .ptr p 0] (σ.set p (.box [W b])) (W (pcome ys f at_ b).1) (σ.set p (.box [W (pcome ys f at_ b).2]))
  | 0, at_, b, σ, p, hp, hf, ha => by have := b.isLt; omega
  | f + 1, at_, b, σ, p, hp, hf, ha => by
    have h64 : at_ < 64 := by omega
    refine Ans.of_run' t116 (fun hbel _ => ?_)
    have e1 := W_bit at_ h64
    have e2 := W_or b (bitW at_)
    simp -implicitDefEqProofs only [go_sem, List.reduceReplicate, Nat.reduceAdd, Nat.reduceSub, Nat.reduceLT, Nat.reduceLeDiff, Nat.reduceMul, Nat.reduceEqDiff, reduceCtorEq, Int.reduceLE, Int.reduceLT, Int.reduceEq, Int.reduceNe, Int.reduceBEq, Int.reduceBNe, Int.reduceAdd, Int.reduceSub] at e1 e2
    simp -implicitDefEqProofs only [c116, r116, go_sem, List.reduceReplicate, Nat.reduceAdd, Nat.reduceSub, Nat.reduceLT, Nat.reduceLeDiff, Nat.reduceMul, Nat.reduceEqDiff, reduceCtorEq, Int.reduceLE, Int.reduceLT, Int.reduceEq, Int.reduceNe, Int.reduceBEq, Int.reduceBNe, Int.reduceAdd, Int.reduceSub, qG0 hp]
    rw [pcome]
    refine C.split (fun hb => ?_) (fun hb => ?_)
    · have hb' : b.getLsbD at_ = true := (W_get b at_ h64).symm.trans hb
      rw [hb']
      simp -implicitDefEqProofs only [go_sem, List.reduceReplicate, Nat.reduceAdd, Nat.reduceSub, Nat.reduceLT, Nat.reduceLeDiff, Nat.reduceMul, Nat.reduceEqDiff, reduceCtorEq, Int.reduceLE, Int.reduceLT, Int.reduceEq, Int.reduceNe, Int.reduceBEq, Int.reduceBNe, Int.reduceAdd, Int.reduceSub]
      exact Fini.ret rfl
    · have hb' : b.getLsbD at_ = false := (W_get b at_ h64).symm.trans hb
      have hget : (ys.map Stp.av)[at_]? = some (ys[at_]'ha).av := by simp [ha]
      have hy : ys[at_]? = some (ys[at_]'ha) := List.getElem?_eq_getElem ha
      rw [hy, hb']
      have hs := hin _ (List.getElem_mem ha)
      have hgt := or_gt b at_ h64 hb'
      generalize hse : ys[at_] = s at hget hs ⊢
      simp -implicitDefEqProofs only [go_sem, List.reduceReplicate, Nat.reduceAdd, Nat.reduceSub, Nat.reduceLT, Nat.reduceLeDiff, Nat.reduceMul, Nat.reduceEqDiff, reduceCtorEq, Int.reduceLE, Int.reduceLT, Int.reduceEq, Int.reduceNe, Int.reduceBEq, Int.reduceBNe, Int.reduceAdd, Int.reduceSub, qG0 hp, qS0, e1, e2, hget, Stp.av, List.length_set, qL, qLs, qG hp, qS hp, List.drop_nil]
      have rec' : ∀ (a : Nat) (b' : BitVec 64) (ex : St), (b ||| bitW at_).toNat ≤ b'.toNat → a < ys.length →
          Ans Try.prog 116 [.sl 7 (ys.map Stp.av), I a, .ptr p 0] (σ.set p (.box [W b']) ++ ex) (W (pcome ys f a b').1) (σ.set p (.box [W (pcome ys f a b').2]) ++ ex) := fun a b' ex h1 h2 => by
        have := come_ans ys hin hl f a b' (σ.set p (.box [W b']) ++ ex) p (by simp; omega) (by omega) h2
        simpa only [qS hp] using this
      have recI : ∀ (x : Int) (b' : BitVec 64) (ex : St), (b ||| bitW at_).toNat ≤ b'.toNat → 0 ≤ x → x < ys.length →
          Ans Try.prog 116 [.sl 7 (ys.map Stp.av), I x, .ptr p 0] (σ.set p (.box [W b']) ++ ex) (W (pcome ys f x.toNat b').1) (σ.set p (.box [W (pcome ys f x.toNat b').2]) ++ ex) := fun x b' ex h1 h2 h3 => by
        have := rec' x.toNat b' ex h1 (by omega)
        rwa [Int.toNat_of_nonneg h2] at this
      have fin : ∀ (r b' : BitVec 64) (env : Env) (ex : St), resA env (σ.set p (.box [W b']) ++ ex) [.tmp 6] = some (W r) →
          Fini σ.length [.tmp 6] (W r) (σ.set p (.box [W b'])) .ret env (σ.set p (.box [W b']) ++ ex) := fun r b' env ex h =>
        Fini.trim2 (σ' := σ.set p (.box [W b'])) (ex := ex) h rfl (by simp) (.pl _) (bel_wbox hbel _)
      refine C.split (fun h2 => ?_) (fun h2 => ?_)
      · have h2' : s.op = 2 := by simpa using h2
        have hx := hs.1 h2'
        have g1 := pcome_ge ys f s.x.toNat (b ||| bitW at_)
        rw [h2]
        simp -implicitDefEqProofs only [go_sem, List.reduceReplicate, Nat.reduceAdd, Nat.reduceSub, Nat.reduceLT, Nat.reduceLeDiff, Nat.reduceMul, Nat.reduceEqDiff, reduceCtorEq, Int.reduceLE, Int.reduceLT, Int.reduceEq, Int.reduceNe, Int.reduceBEq, Int.reduceBNe, Int.reduceAdd, Int.reduceSub, h2, qL, qG hp]
        refine CD.intro (recI s.x _ _ (Nat.le_refl _) hx.1.1 hx.1.2) ?_
        simp -implicitDefEqProofs only [go_sem, List.reduceReplicate, Nat.reduceAdd, Nat.reduceSub, Nat.reduceLT, Nat.reduceLeDiff, Nat.reduceMul, Nat.reduceEqDiff, reduceCtorEq, Int.reduceLE, Int.reduceLT, Int.reduceEq, Int.reduceNe, Int.reduceBEq, Int.reduceBNe, Int.reduceAdd, Int.reduceSub, qL, qG hp, List.take]
        refine CD.intro (recI s.y _ _ g1 hx.2.1 hx.2.2) ?_
        have e3 := W_or (pcome ys f s.x.toNat (b ||| bitW at_)).1 (pcome ys f s.y.toNat (pcome ys f s.x.toNat (b ||| bitW at_)).2).1
        simp -implicitDefEqProofs only [go_sem, List.reduceReplicate, Nat.reduceAdd, Nat.reduceSub, Nat.reduceLT, Nat.reduceLeDiff, Nat.reduceMul, Nat.reduceEqDiff, reduceCtorEq, Int.reduceLE, Int.reduceLT, Int.reduceEq, Int.reduceNe, Int.reduceBEq, Int.reduceBNe, Int.reduceAdd, Int.reduceSub] at e3
        simp -implicitDefEqProofs only [go_sem, List.reduceReplicate, Nat.reduceAdd, Nat.reduceSub, Nat.reduceLT, Nat.reduceLeDiff, Nat.reduceMul, Nat.reduceEqDiff, reduceCtorEq, Int.reduceLE, Int.reduceLT, Int.reduceEq, Int.reduceNe, Int.reduceBEq, Int.reduceBNe, Int.reduceAdd, Int.reduceSub, qL, qG hp, e3, List.take]
        exact fin _ _ _ _ rfl
      · simp -implicitDefEqProofs only [go_sem, List.reduceReplicate, Nat.reduceAdd, Nat.reduceSub, Nat.reduceLT, Nat.reduceLeDiff, Nat.reduceMul, Nat.reduceEqDiff, reduceCtorEq, Int.reduceLE, Int.reduceLT, Int.reduceEq, Int.reduceNe, Int.reduceBEq, Int.reduceBNe, Int.reduceAdd, Int.reduceSub, h2, qL, qG hp]
        refine C.split (fun h3 => ?_) (fun h3 => ?_)
        · have h3' : s.op = 3 := by simpa using h3
          have hx := hs.2 h3'
          simp -implicitDefEqProofs only [go_sem, List.reduceReplicate, Nat.reduceAdd, Nat.reduceSub, Nat.reduceLT, Nat.reduceLeDiff, Nat.reduceMul, Nat.reduceEqDiff, reduceCtorEq, Int.reduceLE, Int.reduceLT, Int.reduceEq, Int.reduceNe, Int.reduceBEq, Int.reduceBNe, Int.reduceAdd, Int.reduceSub, h3, qL, qG hp]
          refine CO.intro (recI s.x _ _ (Nat.le_refl _) hx.1 hx.2) ?_
          simp -implicitDefEqProofs only [go_sem, List.reduceReplicate, Nat.reduceAdd, Nat.reduceSub, Nat.reduceLT, Nat.reduceLeDiff, Nat.reduceMul, Nat.reduceEqDiff, reduceCtorEq, Int.reduceLE, Int.reduceLT, Int.reduceEq, Int.reduceNe, Int.reduceBEq, Int.reduceBNe, Int.reduceAdd, Int.reduceSub]
          exact fin _ _ _ _ rfl
        · simp -implicitDefEqProofs only [go_sem, List.reduceReplicate, Nat.reduceAdd, Nat.reduceSub, Nat.reduceLT, Nat.reduceLeDiff, Nat.reduceMul, Nat.reduceEqDiff, reduceCtorEq, Int.reduceLE, Int.reduceLT, Int.reduceEq, Int.reduceNe, Int.reduceBEq, Int.reduceBNe, Int.reduceAdd, Int.reduceSub, h3, e1, qL, qG hp]
          exact fin _ _ _ _ rfl
end Go.Proofs.Ytoadgajhkhejiaa

set_option linter.unusedSimpArgs false
set_option linter.unusedVariables false
namespace Go.Proofs.Ytoadgajhkhejiaa
open Go Go.Ab
set_option maxRecDepth 100000

/-- More than there are places that could be passed. -/
def fuel : Nat := 2 ^ 64 + 1
theorem fuel_gt (b : BitVec 64) : 2 ^ 64 < b.toNat + fuel := by unfold fuel; omega
def pcomeF (ys : List Stp) (at_ : Nat) (b : BitVec 64) : BitVec 64 × BitVec 64 := pcome ys fuel at_ b
def pstart (ys : List Stp) : BitVec 64 := (pcomeF ys 0 0).1
theorem comeF_ans {ys : List Stp} (hc : pcheck ys = true) (at_ : Nat) (b : BitVec 64) (σ : St) (ha : at_ < ys.length) :
    Ans Try.prog 116 [.sl 7 (ys.map Stp.av), I at_, .ptr σ.length 0] (σ ++ [.box [W b]]) (W (pcomeF ys at_ b).1) (σ ++ [.box [W (pcomeF ys at_ b).2]]) := by
  obtain ⟨h1, _, h3⟩ := check_in hc
  have := come_ans ys h1 h3 fuel at_ b (σ ++ [.box [W b]]) σ.length (by simp) (fuel_gt b) ha
  have e : ∀ x : Ob, (σ ++ [Ob.box [W b]]).set σ.length x = σ ++ [x] := fun x => by simp
  rwa [e, e] at this

theorem start_ans {ys : List Stp} (hc : pcheck ys = true) (σ : St) : Ans Try.prog 92 [.sl 7 (ys.map Stp.av)] σ (W (pstart ys)) σ := by
  obtain ⟨h1, h2, h3⟩ := check_in hc
  refine Ans.of_run' t92 (fun hbel _ => ?_)
  simp -implicitDefEqProofs only [c92, r92, go_sem, List.reduceReplicate, Nat.reduceAdd, Nat.reduceSub, Nat.reduceLT, Nat.reduceLeDiff, Nat.reduceMul, Nat.reduceEqDiff, reduceCtorEq, Int.reduceLE, Int.reduceLT, Int.reduceEq, Int.reduceNe, Int.reduceBEq, Int.reduceBNe, Int.reduceAdd, Int.reduceSub, get_mid, set_mid]
  have := comeF_ans hc 0 0 σ (by omega)
  refine CO.intro (this) ?_
  simp -implicitDefEqProofs only [go_sem, List.reduceReplicate, Nat.reduceAdd, Nat.reduceSub, Nat.reduceLT, Nat.reduceLeDiff, Nat.reduceMul, Nat.reduceEqDiff, reduceCtorEq, Int.reduceLE, Int.reduceLT, Int.reduceEq, Int.reduceNe, Int.reduceBEq, Int.reduceBNe, Int.reduceAdd, Int.reduceSub]
  exact Fini.trim2 (σ' := σ) rfl rfl (Nat.le_refl _) (.pl _) hbel

/-- Is a bit of a word set? -/
def tstU (v : Int) (r : Nat) : Bool := IntKind.u64.wrap (BitVec.ofInt IntKind.u64.bits (v.fdiv (2 ^ (min ((r : Int)).toNat IntKind.u64.bits))) &&& BitVec.ofInt IntKind.u64.bits 1).toNat == 1
def setU (s : Stp) (k : Nat) : Int := [s.a, s.b, s.c, s.d].getD k 0
def takesS (s : Stp) (c : Nat) : Bool := s.op == 1 && tstU (setU s (c / 64)) (c % 64)
def stpAt (ys : List Stp) (i : Nat) : Stp := ys.getD i ⟨0, 0, 0, 0, 0, 0, 0⟩
theorem setU_get (s : Stp) (k : Nat) (h : k < 4) : ([I s.op, U s.a, U s.b, U s.c, U s.d, I s.x, I s.y] : List AV)[1 + k]? = some (U (setU s k)) := by
  rcases k with _ | _ | _ | _ | k
  · rfl
  · rfl
  · rfl
  · rfl
  · omega
def nextL (ys : List Stp) (now : BitVec 64) (c : Nat) : Nat → BitVec 64 × BitVec 64
  | 0 => (0, 0)
  | i + 1 => if now.getLsbD i && takesS (stpAt ys i) c then
      ((nextL ys now c i).1 ||| (pcomeF ys (i + 1) (nextL ys now c i).2).1, (pcomeF ys (i + 1) (nextL ys now c i).2).2)
    else nextL ys now c i
def pnext (ys : List Stp) (now : BitVec 64) (c : Nat) : BitVec 64 := (nextL ys now c ys.length).1
theorem op1_lt {ys : List Stp} (hc : pcheck ys = true) {i : Nat} (hi : i < ys.length) (h : (stpAt ys i).op = 1) : i + 1 < ys.length := by
  obtain ⟨_, h1, h2⟩ := check_in hc
  refine Nat.lt_of_le_of_ne hi fun e => ?_
  unfold pcheck at hc
  split at hc
  · cases hc
  split at hc
  · cases hc
  rw [List.getElem?_eq_getElem (show ys.length - 1 < ys.length by omega)] at hc
  simp only [Bool.and_eq_true] at hc
  have hr := hc.2
  have he : ys[ys.length - 1] = stpAt ys i := by
    have : i = ys.length - 1 := by omega
    subst this
    simp [stpAt, List.getD, hi]
  rw [he] at hr
  simp [rightS, h] at hr
theorem stpAt_get {ys : List Stp} {i : Nat} (hi : i < ys.length) : (ys.map Stp.av)[i]? = some (stpAt ys i).av := by simp [stpAt, List.getD, hi]

theorem bel_sx (n : Nat) (ys : List Stp) : Bel n (.sl 7 (ys.map Stp.av)) := by
  refine .sl 7 _ fun i hi => ?_
  have : ∀ y ∈ ys.map Stp.av, Bel n y := by
    intro y hy
    simp only [List.mem_map] at hy
    obtain ⟨s, _, rfl⟩ := hy
    refine .agg _ fun i hi => ?_
    have : ∀ y ∈ ([I s.op, U s.a, U s.b, U s.c, U s.d, I s.x, I s.y] : List AV), Bel n y := by
      intro y hy
      simp only [List.mem_cons, List.not_mem_nil, or_false] at hy
      rcases hy with rfl | rfl | rfl | rfl | rfl | rfl | rfl <;> exact .pl _
    exact this _ (List.getElem_mem hi)
  exact this _ (List.getElem_mem hi)
theorem mem7 (n : Nat) (s : Stp) : ∀ y ∈ ([I s.op, U s.a, U s.b, U s.c, U s.d, I s.x, I s.y] : List AV), Bel n y := by
  intro y hy
  simp only [List.mem_cons, List.not_mem_nil, or_false] at hy
  rcases hy with rfl | rfl | rfl | rfl | rfl | rfl | rfl <;> exact .pl _
theorem B_sx (n : Nat) (ys : List Stp) : Bel n (.sl 7 (ys.map Stp.av)) = True := eq_true (bel_sx n ys)
theorem B_st7 (n : Nat) (s : Stp) : Bel n (.agg [I s.op, U s.a, U s.b, U s.c, U s.d, I s.x, I s.y]) = True := eq_true (.agg _ fun i hi => mem7 n s _ (List.getElem_mem hi))
theorem B_rp7 (n : Nat) (s : Stp) : Bel n (.rp [I s.op, U s.a, U s.b, U s.c, U s.d, I s.x, I s.y]) = True := eq_true (.rp _ fun i hi => mem7 n s _ (List.getElem_mem hi))
theorem take1 (σ : St) (x : Ob) (ex : St) : (σ ++ x :: ex).take (σ.length + 1) = σ ++ [x] := by
  rw [show σ ++ x :: ex = (σ ++ [x]) ++ ex by simp, List.take_left' (by simp)]

theorem next_scan_ans {ys : List Stp} (hc : pcheck ys = true) (now : BitVec 64) (c : Nat) (hcc : c < 256) (σ : St) : Ans Try.prog 93 [.sl 7 (ys.map Stp.av), W now, .pl (.int .u8 c)] σ (W (pnext ys now c)) σ := by
  obtain ⟨h1_1, h2, h3⟩ := check_in hc
  have e1 : IntKind.u8.wrap ((c : Int).tdiv 64) = ((c / 64 : Nat) : Int) := by
    rw [show (c : Int).tdiv 64 = ((c / 64 : Nat) : Int) from rfl]
    simp only [IntKind.wrap, IntKind.bits, IntKind.signed]; simp; omega
  have e2 : (c : Int).tmod 64 = ((c % 64 : Nat) : Int) := rfl
  have e3 : ((64 : Int) = 0) = False := by simp
  have e4 : (((c / 64 : Nat) : Int) < (4 : Nat)) = True := by simp; omega
  refine Ans.of_run' t93 (fun hbel _ => ?_)
  simp -implicitDefEqProofs only [c93, r93, go_sem, List.reduceReplicate, Nat.reduceAdd, Nat.reduceSub, Nat.reduceLT, Nat.reduceLeDiff, Nat.reduceMul, Nat.reduceEqDiff, reduceCtorEq, Int.reduceLE, Int.reduceLT, Int.reduceEq, Int.reduceNe, Int.reduceBEq, Int.reduceBNe, Int.reduceAdd, Int.reduceSub, get_mid, set_mid, List.length_map]
  refine L.count ys.length (fun i => mkE 48 [(0, .sl 7 (ys.map Stp.av)), (1, W now), (2, .pl (.int .u8 c)), (7, .ptr σ.length 0), (8, W (nextL ys now c i).1), (11, .sl 7 (ys.map Stp.av)), (12, I ys.length), (13, I i)])
    (fun i => σ ++ [.box [W (nextL ys now c i).2]]) ?_ ?_ ?_ rfl
  · intro i hi J hJ
    have hlt : ((i : Int) < ys.length) = True := by simp; omega
    have hge := stpAt_get hi
    have hop := op1_lt hc hi
    rw [nextL] at hJ
    generalize nextL ys now c i = st at hJ ⊢
    obtain ⟨to, been⟩ := st
    simp only at hJ ⊢
    have hin := wrap_nat (n := i) (by omega)
    have hcome := comeF_ans hc (i + 1) been σ
    generalize hq : pcomeF ys (i + 1) been = q at hJ hcome
    obtain ⟨qr, qb⟩ := q
    have hsg := setU_get (stpAt ys i) (c / 64) (by omega)
    generalize hs : stpAt ys i = s at hge hop hJ hsg
    have hb1 : ∀ b : BitVec 64, (∀ o ∈ σ ++ [Ob.box [W b]], BelO (σ.length + 1) o) = True := fun b => eq_true (by
      intro o ho
      rcases List.mem_append.1 ho with ho | ho
      · exact BelO_mono (hbel o ho) (Nat.le_succ _)
      · simp only [List.mem_cons, List.not_mem_nil, or_false] at ho
        subst ho
        intro y hy
        simp only [List.mem_cons, List.not_mem_nil, or_false] at hy
        subst hy
        exact .pl _)
    have hsd : (List.drop (1 + c / 64) [I s.op, U s.a, U s.b, U s.c, U s.d, I s.x, I s.y]).head? = some (U (setU s (c / 64))) := by rw [List.head?_drop]; exact hsg
    simp -implicitDefEqProofs only [mkE, List.foldl_cons, List.foldl_nil, go_sem, List.reduceReplicate, Nat.reduceAdd, Nat.reduceSub, Nat.reduceLT, Nat.reduceLeDiff, Nat.reduceMul, Nat.reduceEqDiff, reduceCtorEq, Int.reduceLE, Int.reduceLT, Int.reduceEq, Int.reduceNe, Int.reduceBEq, Int.reduceBNe, Int.reduceAdd, Int.reduceSub, hlt, hge, Stp.av, List.append_assoc, List.length_append, g0, g1, s0, s1, List.drop_nil]
    refine OG.split (fun hb => ?_) (fun hb => ?_)
    · have hb' : now.getLsbD i = true := (W_get now i (by omega)).symm.trans hb
      rw [hb'] at hJ
      simp -implicitDefEqProofs only [go_sem, List.reduceReplicate, Nat.reduceAdd, Nat.reduceSub, Nat.reduceLT, Nat.reduceLeDiff, Nat.reduceMul, Nat.reduceEqDiff, reduceCtorEq, Int.reduceLE, Int.reduceLT, Int.reduceEq, Int.reduceNe, Int.reduceBEq, Int.reduceBNe, Int.reduceAdd, Int.reduceSub, hb, List.append_assoc, List.length_append, g0, g1, s0, s1]
      refine OG.split (fun h1 => ?_) (fun h1 => ?_)
      · have h1' : s.op = 1 := by simpa using h1
        simp -implicitDefEqProofs only [go_sem, List.reduceReplicate, Nat.reduceAdd, Nat.reduceSub, Nat.reduceLT, Nat.reduceLeDiff, Nat.reduceMul, Nat.reduceEqDiff, reduceCtorEq, Int.reduceLE, Int.reduceLT, Int.reduceEq, Int.reduceNe, Int.reduceBEq, Int.reduceBNe, Int.reduceAdd, Int.reduceSub, h1, e1, e2, e3, e4, hsd, Nat.mul_one, List.append_assoc, List.length_append, g0, g1, s0, s1]
        refine C.split (fun ht => ?_) (fun ht => ?_)
        · have ht' : tstU (setU s (c / 64)) (c % 64) = true := ht
          have hj : (true && takesS s c) = true := by rw [takesS, ht', h1]; rfl
          rw [hj] at hJ
          have e5 := W_or to qr
          simp -implicitDefEqProofs only [go_sem, List.reduceReplicate, Nat.reduceAdd, Nat.reduceSub, Nat.reduceLT, Nat.reduceLeDiff, Nat.reduceMul, Nat.reduceEqDiff, reduceCtorEq, Int.reduceLE, Int.reduceLT, Int.reduceEq, Int.reduceNe, Int.reduceBEq, Int.reduceBNe, Int.reduceAdd, Int.reduceSub] at e5
          have hc' := hcome (hop h1')
          have hc2 : ∀ (x : Ob), Ans Try.prog 116 [.sl 7 (ys.map Stp.av), I (i + 1 : Nat), .ptr σ.length 0] (σ ++ [.box [W been], x]) (W qr) (σ ++ [.box [W qb], x]) := fun x => by
            have h6 := come_ans ys h1_1 h3 fuel (i + 1) been (σ ++ [.box [W been], x]) σ.length (by simp) (fuel_gt been) (hop h1')
            have e6 : pcome ys fuel (i + 1) been = (qr, qb) := hq
            rw [s0, s0, e6] at h6
            exact h6
          simp -implicitDefEqProofs only [go_sem, List.reduceReplicate, Nat.reduceAdd, Nat.reduceSub, Nat.reduceLT, Nat.reduceLeDiff, Nat.reduceMul, Nat.reduceEqDiff, reduceCtorEq, Int.reduceLE, Int.reduceLT, Int.reduceEq, Int.reduceNe, Int.reduceBEq, Int.reduceBNe, Int.reduceAdd, Int.reduceSub, ht, hin]
          refine CO.intro (hc2 _) ?_
          simp -implicitDefEqProofs only [go_sem, List.reduceReplicate, Nat.reduceAdd, Nat.reduceSub, Nat.reduceLT, Nat.reduceLeDiff, Nat.reduceMul, Nat.reduceEqDiff, reduceCtorEq, Int.reduceLE, Int.reduceLT, Int.reduceEq, Int.reduceNe, Int.reduceBEq, Int.reduceBNe, Int.reduceAdd, Int.reduceSub, e5, hin, B_pl, B_any, B_nils, B_tup, B_lv, B_lvs, B_sl1, B_osl, B_ptr, B_agg2, B_sl0, B_sx, B_st7, B_rp7, take1, hb1, List.append_assoc, List.length_append]
          exact ⟨by omega, by omega, hJ⟩
        · have ht' : tstU (setU s (c / 64)) (c % 64) = false := ht
          have hj : (true && takesS s c) = false := by rw [takesS, ht']; simp
          rw [hj] at hJ
          simp -implicitDefEqProofs only [go_sem, List.reduceReplicate, Nat.reduceAdd, Nat.reduceSub, Nat.reduceLT, Nat.reduceLeDiff, Nat.reduceMul, Nat.reduceEqDiff, reduceCtorEq, Int.reduceLE, Int.reduceLT, Int.reduceEq, Int.reduceNe, Int.reduceBEq, Int.reduceBNe, Int.reduceAdd, Int.reduceSub, ht, hin, B_pl, B_any, B_nils, B_tup, B_lv, B_lvs, B_sl1, B_osl, B_ptr, B_agg2, B_sl0, B_sx, B_st7, B_rp7, take1, hb1, List.append_assoc, List.length_append]
          exact ⟨by omega, by omega, hJ⟩
      · have hj : (true && takesS s c) = false := by rw [takesS, h1]; simp
        rw [hj] at hJ
        simp -implicitDefEqProofs only [go_sem, List.reduceReplicate, Nat.reduceAdd, Nat.reduceSub, Nat.reduceLT, Nat.reduceLeDiff, Nat.reduceMul, Nat.reduceEqDiff, reduceCtorEq, Int.reduceLE, Int.reduceLT, Int.reduceEq, Int.reduceNe, Int.reduceBEq, Int.reduceBNe, Int.reduceAdd, Int.reduceSub, h1, hin, B_pl, B_any, B_nils, B_tup, B_lv, B_lvs, B_sl1, B_osl, B_ptr, B_agg2, B_sl0, B_sx, B_st7, B_rp7, take1, hb1, List.append_assoc, List.length_append, g0, g1, s0, s1]
        exact ⟨by omega, by omega, hJ⟩
    · have hb' : now.getLsbD i = false := (W_get now i (by omega)).symm.trans hb
      rw [hb'] at hJ
      simp -implicitDefEqProofs only [go_sem, List.reduceReplicate, Nat.reduceAdd, Nat.reduceSub, Nat.reduceLT, Nat.reduceLeDiff, Nat.reduceMul, Nat.reduceEqDiff, reduceCtorEq, Int.reduceLE, Int.reduceLT, Int.reduceEq, Int.reduceNe, Int.reduceBEq, Int.reduceBNe, Int.reduceAdd, Int.reduceSub, hb, List.append_assoc, List.length_append, g0, g1, s0, s1, hin, B_pl, B_any, B_nils, B_tup, B_lv, B_lvs, B_sl1, B_osl, B_ptr, B_agg2, B_sl0, B_sx, B_st7, B_rp7, take1, hb1]
      exact ⟨by omega, by omega, hJ⟩
  · intro J
    have hlt : ((ys.length : Int) < ys.length) = False := by simp
    simp -implicitDefEqProofs only [mkE, List.foldl_cons, List.foldl_nil, go_sem, List.reduceReplicate, Nat.reduceAdd, Nat.reduceSub, Nat.reduceLT, Nat.reduceLeDiff, Nat.reduceMul, Nat.reduceEqDiff, reduceCtorEq, Int.reduceLE, Int.reduceLT, Int.reduceEq, Int.reduceNe, Int.reduceBEq, Int.reduceBNe, Int.reduceAdd, Int.reduceSub, hlt]
    rw [pnext]
    exact Fini.trim2 (σ' := σ) rfl rfl (Nat.le_refl _) (.pl _) hbel
  · simp -implicitDefEqProofs only [mkE, List.foldl_cons, List.foldl_nil, go_sem, List.reduceReplicate, Nat.reduceAdd, Nat.reduceSub, Nat.reduceLT, Nat.reduceLeDiff, Nat.reduceMul, Nat.reduceEqDiff, reduceCtorEq, Int.reduceLE, Int.reduceLT, Int.reduceEq, Int.reduceNe, Int.reduceBEq, Int.reduceBNe, Int.reduceAdd, Int.reduceSub, nextL]
    rfl
end Go.Proofs.Ytoadgajhkhejiaa

set_option linter.unusedSimpArgs false
set_option linter.unusedVariables false
namespace Go.Proofs.Ytoadgajhkhejiaa
open Go Go.Ab
set_option maxRecDepth 100000

def nowL (ys : List Stp) (s : ByteArray) : Nat → BitVec 64
  | 0 => pstart ys
  | k + 1 => pnext ys (nowL ys s k) (byteAt s k)
def endsAt (ys : List Stp) (now : BitVec 64) (i : Nat) : Bool := now.getLsbD i && (stpAt ys i).op == 4
def pmatch (ys : List Stp) (s : ByteArray) : Bool := pcheck ys && (List.range ys.length).any (endsAt ys (nowL ys s s.size))

theorem any_range_false {n : Nat} {p : Nat → Bool} (h : ∀ i, i < n → p i = false) : (List.range n).any p = false := by
  rw [List.any_eq_false]; intro x hx; rw [h x (List.mem_range.1 hx)]; exact Bool.false_ne_true
theorem any_range_true {n : Nat} {p : Nat → Bool} {i : Nat} (hi : i < n) (h : p i = true) : (List.range n).any p = true := by
  rw [List.any_eq_true]; exact ⟨i, List.mem_range.2 hi, h⟩

theorem match_ans (ys : List Stp) (x : AV) (hx : Lst ys x) (s : ByteArray) (hs : s.size ≤ 100000) (σ : St) : Ans Try.prog 50 [x, Sx s] σ (Bo (pmatch ys s)) σ := by
  cases hc : pcheck ys with
  | false =>
    refine Ans.of_run t50 ?_
    simp -implicitDefEqProofs only [c50, r50, go_sem, List.reduceReplicate, Nat.reduceAdd, Nat.reduceSub, Nat.reduceLT, Nat.reduceLeDiff, Nat.reduceMul, Nat.reduceEqDiff, reduceCtorEq, Int.reduceLE, Int.reduceLT, Int.reduceEq, Int.reduceNe, Int.reduceBEq, Int.reduceBNe, Int.reduceAdd, Int.reduceSub]
    refine CO.intro (check_ans σ ys x hx) ?_
    simp -implicitDefEqProofs only [go_sem, List.reduceReplicate, Nat.reduceAdd, Nat.reduceSub, Nat.reduceLT, Nat.reduceLeDiff, Nat.reduceMul, Nat.reduceEqDiff, reduceCtorEq, Int.reduceLE, Int.reduceLT, Int.reduceEq, Int.reduceNe, Int.reduceBEq, Int.reduceBNe, Int.reduceAdd, Int.reduceSub, hc]
    refine Fini.ret' rfl (bo_congr ?_)
    simp [pmatch, hc]
  | true =>
  obtain ⟨h1, h2, h3⟩ := check_in hc
  have hx' : x = .sl 7 (ys.map Stp.av) := by
    rcases hx with ⟨rfl, rfl⟩ | rfl
    · simp at h2
    · rfl
  subst hx'
  refine Ans.of_run' t50 (fun hbel _ => ?_)
  simp -implicitDefEqProofs only [c50, r50, go_sem, List.reduceReplicate, Nat.reduceAdd, Nat.reduceSub, Nat.reduceLT, Nat.reduceLeDiff, Nat.reduceMul, Nat.reduceEqDiff, reduceCtorEq, Int.reduceLE, Int.reduceLT, Int.reduceEq, Int.reduceNe, Int.reduceBEq, Int.reduceBNe, Int.reduceAdd, Int.reduceSub]
  refine CO.intro (check_ans σ ys _ hx) ?_
  simp -implicitDefEqProofs only [go_sem, List.reduceReplicate, Nat.reduceAdd, Nat.reduceSub, Nat.reduceLT, Nat.reduceLeDiff, Nat.reduceMul, Nat.reduceEqDiff, reduceCtorEq, Int.reduceLE, Int.reduceLT, Int.reduceEq, Int.reduceNe, Int.reduceBEq, Int.reduceBNe, Int.reduceAdd, Int.reduceSub, hc]
  refine CO.intro (start_ans hc σ) ?_
  simp -implicitDefEqProofs only [go_sem, List.reduceReplicate, Nat.reduceAdd, Nat.reduceSub, Nat.reduceLT, Nat.reduceLeDiff, Nat.reduceMul, Nat.reduceEqDiff, reduceCtorEq, Int.reduceLE, Int.reduceLT, Int.reduceEq, Int.reduceNe, Int.reduceBEq, Int.reduceBNe, Int.reduceAdd, Int.reduceSub]
  refine L.count s.size (fun i => mkE 44 [(0, .sl 7 (ys.map Stp.av)), (1, Sx s), (5, W (nowL ys s i)), (15, I s.size), (16, I i)]) (fun _ => σ) ?_ ?_ ?_ rfl
  · intro i hi J hJ
    have hlt : ((i : Int) < s.size) = True := by simp; omega
    have hin := wrap_nat (n := i) (by omega)
    rw [nowL] at hJ
    generalize nowL ys s i = now at hJ ⊢
    simp -implicitDefEqProofs only [mkE, List.foldl_cons, List.foldl_nil, go_sem, List.reduceReplicate, Nat.reduceAdd, Nat.reduceSub, Nat.reduceLT, Nat.reduceLeDiff, Nat.reduceMul, Nat.reduceEqDiff, reduceCtorEq, Int.reduceLE, Int.reduceLT, Int.reduceEq, Int.reduceNe, Int.reduceBEq, Int.reduceBNe, Int.reduceAdd, Int.reduceSub, hlt, byteAt_def]
    refine CO.intro (next_scan_ans hc now (byteAt s i) (byteAt_lt s i) σ) ?_
    simp -implicitDefEqProofs only [go_sem, List.reduceReplicate, Nat.reduceAdd, Nat.reduceSub, Nat.reduceLT, Nat.reduceLeDiff, Nat.reduceMul, Nat.reduceEqDiff, reduceCtorEq, Int.reduceLE, Int.reduceLT, Int.reduceEq, Int.reduceNe, Int.reduceBEq, Int.reduceBNe, Int.reduceAdd, Int.reduceSub, hin]
    exact hJ
  · intro J
    have hlt : ((s.size : Int) < s.size) = False := by simp
    generalize hnow : nowL ys s s.size = now
    simp -implicitDefEqProofs only [mkE, List.foldl_cons, List.foldl_nil, go_sem, List.reduceReplicate, Nat.reduceAdd, Nat.reduceSub, Nat.reduceLT, Nat.reduceLeDiff, Nat.reduceMul, Nat.reduceEqDiff, reduceCtorEq, Int.reduceLE, Int.reduceLT, Int.reduceEq, Int.reduceNe, Int.reduceBEq, Int.reduceBNe, Int.reduceAdd, Int.reduceSub, hlt, List.length_map]
    refine Go.Ab.L.scan ys.length (fun i => !endsAt ys now i) (fun i => mkE 44 [(5, W now), (26, .sl 7 (ys.map Stp.av)), (27, I ys.length), (28, I i)]) (fun _ => σ) ?_ ?_ ?_ rfl
    · intro i hi hp J hJ
      have hlt : ((i : Int) < ys.length) = True := by simp; omega
      have hin := wrap_nat (n := i) (by omega)
      have hge := stpAt_get hi
      generalize hst : stpAt ys i = st at hge
      have hb0 : (∀ o ∈ σ, BelO σ.length o) = True := eq_true hbel
      simp -implicitDefEqProofs only [mkE, List.foldl_cons, List.foldl_nil, go_sem, List.reduceReplicate, Nat.reduceAdd, Nat.reduceSub, Nat.reduceLT, Nat.reduceLeDiff, Nat.reduceMul, Nat.reduceEqDiff, reduceCtorEq, Int.reduceLE, Int.reduceLT, Int.reduceEq, Int.reduceNe, Int.reduceBEq, Int.reduceBNe, Int.reduceAdd, Int.reduceSub, hlt, hge, Stp.av, List.append_assoc, List.length_append, g0, g1, s0, s1, List.drop_nil]
      have htk : ∀ x : Ob, (σ ++ [x]).take σ.length = σ := fun x => List.take_left' rfl
      have hout : ∀ b : Bool, endsAt ys now i = b → (!endsAt ys now i) = !b := fun b h => by rw [h]
      refine OG.split (fun hb => ?_) (fun hb => ?_)
      · have hb' : now.getLsbD i = true := (W_get now i (by omega)).symm.trans hb
        simp -implicitDefEqProofs only [go_sem, List.reduceReplicate, Nat.reduceAdd, Nat.reduceSub, Nat.reduceLT, Nat.reduceLeDiff, Nat.reduceMul, Nat.reduceEqDiff, reduceCtorEq, Int.reduceLE, Int.reduceLT, Int.reduceEq, Int.reduceNe, Int.reduceBEq, Int.reduceBNe, Int.reduceAdd, Int.reduceSub, hb, g0, s0]
        refine C.split (fun h4 => ?_) (fun h4 => ?_)
        · simp -implicitDefEqProofs only [go_sem, List.reduceReplicate, Nat.reduceAdd, Nat.reduceSub, Nat.reduceLT, Nat.reduceLeDiff, Nat.reduceMul, Nat.reduceEqDiff, reduceCtorEq, Int.reduceLE, Int.reduceLT, Int.reduceEq, Int.reduceNe, Int.reduceBEq, Int.reduceBNe, Int.reduceAdd, Int.reduceSub, h4]
          have hE : endsAt ys now i = true := by rw [endsAt, hb', hst]; exact h4
          have hP : pmatch ys s = true := by rw [pmatch, hc, hnow, any_range_true hi hE]; rfl
          rw [hP]
          exact Fini.trim2 (σ' := σ) rfl rfl (Nat.le_refl _) (.pl _) hbel
        · have hE : endsAt ys now i = false := by rw [endsAt, hb', hst]; exact h4
          rw [hE] at hJ
          simp -implicitDefEqProofs only [go_sem, List.reduceReplicate, Nat.reduceAdd, Nat.reduceSub, Nat.reduceLT, Nat.reduceLeDiff, Nat.reduceMul, Nat.reduceEqDiff, reduceCtorEq, Int.reduceLE, Int.reduceLT, Int.reduceEq, Int.reduceNe, Int.reduceBEq, Int.reduceBNe, Int.reduceAdd, Int.reduceSub, h4, hin, B_pl, B_any, B_nils, B_tup, B_lv, B_lvs, B_sl1, B_osl, B_ptr, B_agg2, B_sl0, B_sx, B_st7, B_rp7, htk, Nat.add_zero, hb0]
          exact ⟨by simp, hJ rfl⟩
      · have hb' : now.getLsbD i = false := (W_get now i (by omega)).symm.trans hb
        have hE : endsAt ys now i = false := by rw [endsAt, hb']; rfl
        rw [hE] at hJ
        simp -implicitDefEqProofs only [go_sem, List.reduceReplicate, Nat.reduceAdd, Nat.reduceSub, Nat.reduceLT, Nat.reduceLeDiff, Nat.reduceMul, Nat.reduceEqDiff, reduceCtorEq, Int.reduceLE, Int.reduceLT, Int.reduceEq, Int.reduceNe, Int.reduceBEq, Int.reduceBNe, Int.reduceAdd, Int.reduceSub, hb, hin, B_pl, B_any, B_nils, B_tup, B_lv, B_lvs, B_sl1, B_osl, B_ptr, B_agg2, B_sl0, B_sx, B_st7, B_rp7, htk, Nat.add_zero, hb0, g0, s0]
        exact ⟨by simp, hJ rfl⟩
    · intro hp J
      have hlt : ((ys.length : Int) < ys.length) = False := by simp
      simp -implicitDefEqProofs only [mkE, List.foldl_cons, List.foldl_nil, go_sem, List.reduceReplicate, Nat.reduceAdd, Nat.reduceSub, Nat.reduceLT, Nat.reduceLeDiff, Nat.reduceMul, Nat.reduceEqDiff, reduceCtorEq, Int.reduceLE, Int.reduceLT, Int.reduceEq, Int.reduceNe, Int.reduceBEq, Int.reduceBNe, Int.reduceAdd, Int.reduceSub, hlt]
      refine Fini.ret' rfl (bo_congr ?_)
      rw [pmatch, hc, hnow, any_range_false (fun i hi => by simpa using hp i hi)]
      rfl
    · rfl
  · rfl
end Go.Proofs.Ytoadgajhkhejiaa
