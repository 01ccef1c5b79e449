/- RuleBands answers true at any bounds and any value. No condition. -/
import Derived.Test.YtoadgajhkhejiaaRows
import Derived.Test.YtoadgajhkhejiaaMBand
import Derived.Test.YtoadgajhkhejiaaAbSX
import Derived.Test.YtoadgajhkhejiaaAbFrame
import Derived.Test.YtoadgajhkhejiaaAbArg
import Derived.Test.YtoadgajhkhejiaaAbLaw
set_option linter.unusedSimpArgs false
set_option linter.unusedVariables false
namespace Go.Proofs.Ytoadgajhkhejiaa
open Go Go.Ab Go.ChangeShapes Go.WideShapes Go.ChangeAt Go.RowKit
set_option maxRecDepth 100000

abbrev I (n : Int) : AV := .pl (.int .i64 n)
abbrev Bo (b : Bool) : AV := .pl (.bool b)
abbrev Fl (n : Nat) : AV := .pl (.float .f64 n)
abbrev sev : AV := .pl (.string ⟨#[115, 101, 118]⟩)
abbrev crit : AV := .pl (.string ⟨#[99, 114, 105, 116]⟩)
abbrev warn : AV := .pl (.string ⟨#[119, 97, 114, 110]⟩)
abbrev srcV : AV := .sl 3 [.agg [I 1, sev, crit]]
abbrev tgtV : AV := .sl 3 [.agg [I 3, sev, .pl (.string ⟨#[99, 114, 105, 116, 124, 119, 97, 114, 110]⟩)]]
abbrev eqV : AV := .sl 1 [.pl (.string ⟨#[99]⟩)]
abbrev labV (s : AV) : AV := .sl 2 [.agg [.pl (.string ⟨#[99]⟩), .pl (.string ⟨#[120]⟩)], .agg [sev, s]]
abbrev ruleV (lo hi : Nat) : AV := .agg [srcV, tgtV, Bo false, Fl lo, Fl hi, eqV]
abbrev alertV (s : AV) (v : Nat) : AV := .agg [I 1, labV s, Fl v]

def leF (a b : Nat) : Bool := FloatKind.f64.format.order a b == some .lt || FloatKind.f64.format.order a b == some .eq
theorem leF_def (a b : Nat) : (FloatKind.f64.format.order a b == some .lt || FloatKind.f64.format.order a b == some .eq) = leF a b := rfl
def inB (lo hi v : Nat) : Bool := leF lo hi && (leF lo v && leF v hi)

section
open Ieee
theorem signed_zero (s : Bool) (k : Nat) : signed s 0 k = 0 := by cases s <;> simp [signed]
theorem read_zero (w : Nat) (h : w % FloatKind.f64.format.signWeight = 0) : FloatKind.f64.format.read w = .number (w / FloatKind.f64.format.signWeight % 2 == 1) 0 FloatKind.f64.format.leastPlace := by
  unfold Format.read
  simp only
  rw [h, if_pos (by decide)]
theorem order_left (d : Datum) (s t : Bool) (i : Int) : d.order (.number s 0 i) = d.order (.number t 0 i) := by
  cases d with
  | nan => rfl
  | infinity => rfl
  | number a m j => simp only [Datum.order, signed_zero]
theorem order_right (d : Datum) (s t : Bool) (i : Int) : Datum.order (.number s 0 i) d = Datum.order (.number t 0 i) d := by
  cases d with
  | nan => rfl
  | infinity => rfl
  | number a m j => simp only [Datum.order, signed_zero]
theorem signed_ne (s : Bool) (m k : Nat) (h : m ≠ 0) : signed s m k ≠ 0 := by
  have : m <<< k ≠ 0 := by
    rw [Nat.shiftLeft_eq]
    exact Nat.mul_ne_zero h (Nat.pos_iff_ne_zero.1 (Nat.two_pow_pos k))
  cases s <;> simp only [signed, Bool.false_eq_true, if_false, if_true] <;> omega
theorem order_zero (v : Nat) (h : FloatKind.f64.format.order v 0 = some .eq) : v % FloatKind.f64.format.signWeight = 0 := by
  unfold Format.order at h
  rw [read_zero 0 rfl] at h
  have key : ∀ s m i, FloatKind.f64.format.read v = .number s m i → m = 0 := by
    intro s m i hr
    rw [hr] at h
    simp only [Datum.order, Option.some.injEq] at h
    rw [signed_zero] at h
    have h0 := Std.LawfulEqCmp.eq_of_compare h
    rcases Nat.eq_zero_or_pos m with hm | hm
    · exact hm
    · exact absurd h0 (signed_ne _ _ _ (by omega))
  have hb : 0 < FloatKind.f64.format.binade := by decide
  by_cases h1 : v % FloatKind.f64.format.signWeight < FloatKind.f64.format.binade
  · have hr : FloatKind.f64.format.read v = .number (v / FloatKind.f64.format.signWeight % 2 == 1) (v % FloatKind.f64.format.signWeight) FloatKind.f64.format.leastPlace := by
      unfold Format.read; simp only; rw [if_pos h1]
    exact key _ _ _ hr
  · by_cases h2 : v % FloatKind.f64.format.signWeight < FloatKind.f64.format.infRung
    · have := key _ _ _ (by unfold Format.read; simp only; rw [if_neg h1, if_pos h2])
      omega
    · by_cases h3 : v % FloatKind.f64.format.signWeight = FloatKind.f64.format.infRung
      · have hr : FloatKind.f64.format.read v = .infinity (v / FloatKind.f64.format.signWeight % 2 == 1) := by unfold Format.read; simp only; rw [if_neg h1, if_neg h2, if_pos h3]
        rw [hr] at h
        simp only [Datum.order, Option.some.injEq] at h
        split at h <;> cases h
      · have hr : FloatKind.f64.format.read v = .nan (v / FloatKind.f64.format.signWeight % 2 == 1) (v % FloatKind.f64.format.signWeight - FloatKind.f64.format.infRung) := by unfold Format.read; simp only; rw [if_neg h1, if_neg h2, if_neg h3]
        rw [hr] at h
        simp [Datum.order] at h
theorem neg_mod (v : Nat) (h : v % FloatKind.f64.format.signWeight = 0) : Op.negFloat .f64 v % FloatKind.f64.format.signWeight = 0 := by
  have e : FloatKind.f64.format.signWeight = 2 ^ 63 := rfl
  have e2 : Op.negFloat .f64 v = v ^^^ 2 ^ 63 := rfl
  rw [e] at h ⊢
  rw [e2, Nat.xor_mod_two_pow, h]
  rfl
theorem inB_neg (lo hi v : Nat) (h : FloatKind.f64.format.order v 0 = some .eq) : inB lo hi (Op.negFloat .f64 v) = inB lo hi v := by
  have h1 := order_zero v h
  have h2 := neg_mod v h1
  have e1 : FloatKind.f64.format.order lo (Op.negFloat .f64 v) = FloatKind.f64.format.order lo v := by
    unfold Format.order
    rw [read_zero _ h1, read_zero _ h2]
    exact order_left _ _ _ _
  have e2 : FloatKind.f64.format.order (Op.negFloat .f64 v) hi = FloatKind.f64.format.order v hi := by
    unfold Format.order
    rw [read_zero _ h1, read_zero _ h2]
    exact order_right _ _ _ _
  unfold inB leF
  rw [e1, e2]
end

theorem Fini.trim2 {m : Nat} {rvs : List RV} {r : AV} {σ σ' ex : St} {env : Env} (h : resA env σ rvs = some r) (he : σ = σ' ++ ex) (hl : m ≤ σ'.length) (hb : Bel σ'.length r) (ho : ∀ o ∈ σ', BelO σ'.length o) : Fini m rvs r σ' .ret env σ := by
  subst he
  exact ⟨r, σ' ++ ex, h, rfl, rfl, .inr ⟨hl, by simp, hb, ho⟩⟩

section
variable (σ : St) (lo hi v : Nat)

theorem bel_all {args : List AV} (h : belL 0 args = true) : ∀ a ∈ args, Bel 0 a := fun a ha => by
  obtain ⟨i, hi, rfl⟩ := List.getElem_of_mem ha
  exact Bel.of_mem (belL_ok 0 args h) i hi
theorem lsrc_a : Ans Try.prog 24 [srcV] σ (Bo true) σ := lsrc_ok.frame (bel_all rfl) σ
theorem ltgt_a : Ans Try.prog 24 [tgtV] σ (Bo true) σ := ltgt_ok.frame (bel_all rfl) σ
theorem gsrc_a : Ans Try.prog 27 [srcV] σ (Bo false) σ := gsrc_ok.frame (bel_all rfl) σ
theorem gtgt_a : Ans Try.prog 27 [tgtV] σ (Bo false) σ := gtgt_ok.frame (bel_all rfl) σ
theorem asc_a : Ans Try.prog 25 [srcV, labV crit] σ (Bo true) σ := asc_ok.frame (bel_all rfl) σ
theorem asw_a : Ans Try.prog 25 [srcV, labV warn] σ (Bo false) σ := asw_ok.frame (bel_all rfl) σ
theorem atw_a : Ans Try.prog 25 [tgtV, labV warn] σ (Bo true) σ := atw_ok.frame (bel_all rfl) σ
theorem nmc_a : Ans Try.prog 51 [.pl (.string ⟨#[99]⟩)] σ (Bo true) σ := nmc_ok.frame (bel_all rfl) σ
theorem prc_a : Ans Try.prog 72 [labV crit, eqV] σ (.pl (.string ⟨#[1, 120]⟩)) σ := prc_ok.frame (bel_all rfl) σ
theorem prw_a : Ans Try.prog 72 [labV warn, eqV] σ (.pl (.string ⟨#[1, 120]⟩)) σ := prw_ok.frame (bel_all rfl) σ
theorem rr_a : Ans Try.prog 31 [] σ (Bo true) σ := rr_ok.frame (bel_all rfl) σ

theorem may_ans : Ans Try.prog 73 [.agg [Bo false, Fl lo, Fl hi]] σ (Bo (leF lo hi)) σ := by
  refine Ans.of_run t73 ?_
  simp -implicitDefEqProofs only [c73, r73, go_sem, List.reduceReplicate, Nat.reduceAdd, Nat.reduceSub, Nat.reduceLT, Nat.reduceLeDiff, Nat.reduceMul, Nat.reduceEqDiff, reduceCtorEq, Int.reduceLE, Int.reduceLT, Int.reduceEq, Int.reduceNe, Int.reduceBEq, Int.reduceBNe, Int.reduceAdd, Int.reduceSub]
  exact Fini.ret rfl
theorem in_ans : Ans Try.prog 75 [.agg [Bo false, Fl lo, Fl hi], Fl v] σ (Bo (inB lo hi v)) σ := by
  refine Ans.of_run t75 ?_
  simp -implicitDefEqProofs only [c75, r75, go_sem, List.reduceReplicate, Nat.reduceAdd, Nat.reduceSub, Nat.reduceLT, Nat.reduceLeDiff, Nat.reduceMul, Nat.reduceEqDiff, reduceCtorEq, Int.reduceLE, Int.reduceLT, Int.reduceEq, Int.reduceNe, Int.reduceBEq, Int.reduceBNe, Int.reduceAdd, Int.reduceSub]
  refine CO.intro (may_ans σ lo hi) ?_
  unfold inB
  cases h1 : leF lo hi
  · simp -implicitDefEqProofs only [go_sem, List.reduceReplicate, Nat.reduceAdd, Nat.reduceSub, Nat.reduceLT, Nat.reduceLeDiff, Nat.reduceMul, Nat.reduceEqDiff, reduceCtorEq, Int.reduceLE, Int.reduceLT, Int.reduceEq, Int.reduceNe, Int.reduceBEq, Int.reduceBNe, Int.reduceAdd, Int.reduceSub]
    exact Fini.ret rfl
  · simp -implicitDefEqProofs only [go_sem, List.reduceReplicate, Nat.reduceAdd, Nat.reduceSub, Nat.reduceLT, Nat.reduceLeDiff, Nat.reduceMul, Nat.reduceEqDiff, reduceCtorEq, Int.reduceLE, Int.reduceLT, Int.reduceEq, Int.reduceNe, Int.reduceBEq, Int.reduceBNe, Int.reduceAdd, Int.reduceSub, leF_def]
    cases h2 : leF lo v
    · simp -implicitDefEqProofs only [go_sem, List.reduceReplicate, Nat.reduceAdd, Nat.reduceSub, Nat.reduceLT, Nat.reduceLeDiff, Nat.reduceMul, Nat.reduceEqDiff, reduceCtorEq, Int.reduceLE, Int.reduceLT, Int.reduceEq, Int.reduceNe, Int.reduceBEq, Int.reduceBNe, Int.reduceAdd, Int.reduceSub]
      exact Fini.ret rfl
    · simp -implicitDefEqProofs only [go_sem, List.reduceReplicate, Nat.reduceAdd, Nat.reduceSub, Nat.reduceLT, Nat.reduceLeDiff, Nat.reduceMul, Nat.reduceEqDiff, reduceCtorEq, Int.reduceLE, Int.reduceLT, Int.reduceEq, Int.reduceNe, Int.reduceBEq, Int.reduceBNe, Int.reduceAdd, Int.reduceSub, leF_def]
      exact Fini.ret rfl
theorem is_ans : Ans Try.prog 39 [ruleV lo hi] σ (Bo (leF lo hi)) σ := by
  refine Ans.of_run t39 ?_
  have g1 : (((1 : Nat) : Int) == 0) = false := rfl
  have g2 : decide ((4 : Int) < ((1 : Nat) : Int)) = false := rfl
  have g3 : ((0 : Int) < ((1 : Nat) : Int)) = True := by simp
  have g4 : IntKind.i64.wrap (0 + 1) = 1 := by decide
  have g5 : ((1 : Int) < ((1 : Nat) : Int)) = False := by simp
  simp -implicitDefEqProofs only [c39, r39, go_sem, List.reduceReplicate, Nat.reduceAdd, Nat.reduceSub, Nat.reduceLT, Nat.reduceLeDiff, Nat.reduceMul, Nat.reduceEqDiff, reduceCtorEq, Int.reduceLE, Int.reduceLT, Int.reduceEq, Int.reduceNe, Int.reduceBEq, Int.reduceBNe, Int.reduceAdd, Int.reduceSub, g1, g2]
  refine CO.intro (lsrc_a σ) ?_
  simp -implicitDefEqProofs only [go_sem, List.reduceReplicate, Nat.reduceAdd, Nat.reduceSub, Nat.reduceLT, Nat.reduceLeDiff, Nat.reduceMul, Nat.reduceEqDiff, reduceCtorEq, Int.reduceLE, Int.reduceLT, Int.reduceEq, Int.reduceNe, Int.reduceBEq, Int.reduceBNe, Int.reduceAdd, Int.reduceSub, g1, g2]
  refine CO.intro (ltgt_a σ) ?_
  simp -implicitDefEqProofs only [go_sem, List.reduceReplicate, Nat.reduceAdd, Nat.reduceSub, Nat.reduceLT, Nat.reduceLeDiff, Nat.reduceMul, Nat.reduceEqDiff, reduceCtorEq, Int.reduceLE, Int.reduceLT, Int.reduceEq, Int.reduceNe, Int.reduceBEq, Int.reduceBNe, Int.reduceAdd, Int.reduceSub, g1, g2]
  refine CO.intro (may_ans σ lo hi) ?_
  cases h1 : leF lo hi
  · simp -implicitDefEqProofs only [go_sem, List.reduceReplicate, Nat.reduceAdd, Nat.reduceSub, Nat.reduceLT, Nat.reduceLeDiff, Nat.reduceMul, Nat.reduceEqDiff, reduceCtorEq, Int.reduceLE, Int.reduceLT, Int.reduceEq, Int.reduceNe, Int.reduceBEq, Int.reduceBNe, Int.reduceAdd, Int.reduceSub]
    exact Fini.ret rfl
  · simp -implicitDefEqProofs only [go_sem, List.reduceReplicate, Nat.reduceAdd, Nat.reduceSub, Nat.reduceLT, Nat.reduceLeDiff, Nat.reduceMul, Nat.reduceEqDiff, reduceCtorEq, Int.reduceLE, Int.reduceLT, Int.reduceEq, Int.reduceNe, Int.reduceBEq, Int.reduceBNe, Int.reduceAdd, Int.reduceSub, g2]
    refine L.count 1 (fun i => mkE 65 [(1, .rp [srcV, tgtV, Bo false, Fl lo, Fl hi, eqV]), (40, eqV), (41, I ((1 : Nat) : Int)), (42, I i)]) (fun _ => σ) ?_ ?_ ?_ rfl
    · intro i hi Q hQ
      have : i = 0 := by omega
      subst this
      simp -implicitDefEqProofs only [mkE, List.foldl_cons, List.foldl_nil, go_sem, List.reduceReplicate, Nat.reduceAdd, Nat.reduceSub, Nat.reduceLT, Nat.reduceLeDiff, Nat.reduceMul, Nat.reduceEqDiff, reduceCtorEq, Int.reduceLE, Int.reduceLT, Int.reduceEq, Int.reduceNe, Int.reduceBEq, Int.reduceBNe, Int.reduceAdd, Int.reduceSub, g3, g4, Int.toNat_zero, Int.natCast_zero]
      refine CO.intro (nmc_a σ) ?_
      simp -implicitDefEqProofs only [go_sem, List.reduceReplicate, Nat.reduceAdd, Nat.reduceSub, Nat.reduceLT, Nat.reduceLeDiff, Nat.reduceMul, Nat.reduceEqDiff, reduceCtorEq, Int.reduceLE, Int.reduceLT, Int.reduceEq, Int.reduceNe, Int.reduceBEq, Int.reduceBNe, Int.reduceAdd, Int.reduceSub, g4]
      exact hQ
    · intro Q
      simp -implicitDefEqProofs only [mkE, List.foldl_cons, List.foldl_nil, go_sem, List.reduceReplicate, Nat.reduceAdd, Nat.reduceSub, Nat.reduceLT, Nat.reduceLeDiff, Nat.reduceMul, Nat.reduceEqDiff, reduceCtorEq, Int.reduceLE, Int.reduceLT, Int.reduceEq, Int.reduceNe, Int.reduceBEq, Int.reduceBNe, Int.reduceAdd, Int.reduceSub, g5, Int.natCast_one]
      exact Fini.ret rfl
    · rfl
theorem large_ans : Ans Try.prog 106 [ruleV lo hi] σ (Bo false) σ := by
  refine Ans.of_run t106 ?_
  simp -implicitDefEqProofs only [c106, r106, go_sem, List.reduceReplicate, Nat.reduceAdd, Nat.reduceSub, Nat.reduceLT, Nat.reduceLeDiff, Nat.reduceMul, Nat.reduceEqDiff, reduceCtorEq, Int.reduceLE, Int.reduceLT, Int.reduceEq, Int.reduceNe, Int.reduceBEq, Int.reduceBNe, Int.reduceAdd, Int.reduceSub]
  refine CO.intro (is_ans σ lo hi) ?_
  cases h1 : leF lo hi
  · simp -implicitDefEqProofs only [go_sem, List.reduceReplicate, Nat.reduceAdd, Nat.reduceSub, Nat.reduceLT, Nat.reduceLeDiff, Nat.reduceMul, Nat.reduceEqDiff, reduceCtorEq, Int.reduceLE, Int.reduceLT, Int.reduceEq, Int.reduceNe, Int.reduceBEq, Int.reduceBNe, Int.reduceAdd, Int.reduceSub]
    exact Fini.ret rfl
  · simp -implicitDefEqProofs only [go_sem, List.reduceReplicate, Nat.reduceAdd, Nat.reduceSub, Nat.reduceLT, Nat.reduceLeDiff, Nat.reduceMul, Nat.reduceEqDiff, reduceCtorEq, Int.reduceLE, Int.reduceLT, Int.reduceEq, Int.reduceNe, Int.reduceBEq, Int.reduceBNe, Int.reduceAdd, Int.reduceSub]
    refine CO.intro (gsrc_a σ) ?_
    simp -implicitDefEqProofs only [go_sem, List.reduceReplicate, Nat.reduceAdd, Nat.reduceSub, Nat.reduceLT, Nat.reduceLeDiff, Nat.reduceMul, Nat.reduceEqDiff, reduceCtorEq, Int.reduceLE, Int.reduceLT, Int.reduceEq, Int.reduceNe, Int.reduceBEq, Int.reduceBNe, Int.reduceAdd, Int.reduceSub]
    refine CO.intro (gtgt_a σ) ?_
    simp -implicitDefEqProofs only [go_sem, List.reduceReplicate, Nat.reduceAdd, Nat.reduceSub, Nat.reduceLT, Nat.reduceLeDiff, Nat.reduceMul, Nat.reduceEqDiff, reduceCtorEq, Int.reduceLE, Int.reduceLT, Int.reduceEq, Int.reduceNe, Int.reduceBEq, Int.reduceBNe, Int.reduceAdd, Int.reduceSub]
    exact Fini.ret rfl
theorem works_ans : Ans Try.prog 74 [ruleV lo hi] σ (Bo (leF lo hi)) σ := by
  refine Ans.of_run t74 ?_
  simp -implicitDefEqProofs only [c74, r74, go_sem, List.reduceReplicate, Nat.reduceAdd, Nat.reduceSub, Nat.reduceLT, Nat.reduceLeDiff, Nat.reduceMul, Nat.reduceEqDiff, reduceCtorEq, Int.reduceLE, Int.reduceLT, Int.reduceEq, Int.reduceNe, Int.reduceBEq, Int.reduceBNe, Int.reduceAdd, Int.reduceSub]
  refine CO.intro (is_ans σ lo hi) ?_
  cases h1 : leF lo hi
  · simp -implicitDefEqProofs only [go_sem, List.reduceReplicate, Nat.reduceAdd, Nat.reduceSub, Nat.reduceLT, Nat.reduceLeDiff, Nat.reduceMul, Nat.reduceEqDiff, reduceCtorEq, Int.reduceLE, Int.reduceLT, Int.reduceEq, Int.reduceNe, Int.reduceBEq, Int.reduceBNe, Int.reduceAdd, Int.reduceSub]
    exact Fini.ret rfl
  · simp -implicitDefEqProofs only [go_sem, List.reduceReplicate, Nat.reduceAdd, Nat.reduceSub, Nat.reduceLT, Nat.reduceLeDiff, Nat.reduceMul, Nat.reduceEqDiff, reduceCtorEq, Int.reduceLE, Int.reduceLT, Int.reduceEq, Int.reduceNe, Int.reduceBEq, Int.reduceBNe, Int.reduceAdd, Int.reduceSub]
    refine CO.intro (large_ans σ lo hi) ?_
    simp -implicitDefEqProofs only [go_sem, List.reduceReplicate, Nat.reduceAdd, Nat.reduceSub, Nat.reduceLT, Nat.reduceLeDiff, Nat.reduceMul, Nat.reduceEqDiff, reduceCtorEq, Int.reduceLE, Int.reduceLT, Int.reduceEq, Int.reduceNe, Int.reduceBEq, Int.reduceBNe, Int.reduceAdd, Int.reduceSub]
    exact Fini.ret rfl
theorem source_crit : Ans Try.prog 40 [ruleV lo hi, alertV crit v] σ (Bo (inB lo hi v)) σ := by
  refine Ans.of_run t40 ?_
  simp -implicitDefEqProofs only [c40, r40, go_sem, List.reduceReplicate, Nat.reduceAdd, Nat.reduceSub, Nat.reduceLT, Nat.reduceLeDiff, Nat.reduceMul, Nat.reduceEqDiff, reduceCtorEq, Int.reduceLE, Int.reduceLT, Int.reduceEq, Int.reduceNe, Int.reduceBEq, Int.reduceBNe, Int.reduceAdd, Int.reduceSub]
  refine CO.intro (works_ans σ lo hi) ?_
  cases h1 : leF lo hi
  · simp -implicitDefEqProofs only [go_sem, List.reduceReplicate, Nat.reduceAdd, Nat.reduceSub, Nat.reduceLT, Nat.reduceLeDiff, Nat.reduceMul, Nat.reduceEqDiff, reduceCtorEq, Int.reduceLE, Int.reduceLT, Int.reduceEq, Int.reduceNe, Int.reduceBEq, Int.reduceBNe, Int.reduceAdd, Int.reduceSub]
    refine Fini.ret ?_
    simp -implicitDefEqProofs only [go_sem, List.reduceReplicate, Nat.reduceAdd, Nat.reduceSub, Nat.reduceLT, Nat.reduceLeDiff, Nat.reduceMul, Nat.reduceEqDiff, reduceCtorEq, Int.reduceLE, Int.reduceLT, Int.reduceEq, Int.reduceNe, Int.reduceBEq, Int.reduceBNe, Int.reduceAdd, Int.reduceSub, inB, h1, Bool.false_and]
    rfl
  · simp -implicitDefEqProofs only [go_sem, List.reduceReplicate, Nat.reduceAdd, Nat.reduceSub, Nat.reduceLT, Nat.reduceLeDiff, Nat.reduceMul, Nat.reduceEqDiff, reduceCtorEq, Int.reduceLE, Int.reduceLT, Int.reduceEq, Int.reduceNe, Int.reduceBEq, Int.reduceBNe, Int.reduceAdd, Int.reduceSub]
    refine CO.intro (asc_a σ) ?_
    simp -implicitDefEqProofs only [go_sem, List.reduceReplicate, Nat.reduceAdd, Nat.reduceSub, Nat.reduceLT, Nat.reduceLeDiff, Nat.reduceMul, Nat.reduceEqDiff, reduceCtorEq, Int.reduceLE, Int.reduceLT, Int.reduceEq, Int.reduceNe, Int.reduceBEq, Int.reduceBNe, Int.reduceAdd, Int.reduceSub]
    refine CO.intro (in_ans σ lo hi v) ?_
    simp -implicitDefEqProofs only [go_sem, List.reduceReplicate, Nat.reduceAdd, Nat.reduceSub, Nat.reduceLT, Nat.reduceLeDiff, Nat.reduceMul, Nat.reduceEqDiff, reduceCtorEq, Int.reduceLE, Int.reduceLT, Int.reduceEq, Int.reduceNe, Int.reduceBEq, Int.reduceBNe, Int.reduceAdd, Int.reduceSub]
    exact Fini.ret rfl
theorem source_warn : Ans Try.prog 40 [ruleV lo hi, alertV warn v] σ (Bo false) σ := by
  refine Ans.of_run t40 ?_
  simp -implicitDefEqProofs only [c40, r40, go_sem, List.reduceReplicate, Nat.reduceAdd, Nat.reduceSub, Nat.reduceLT, Nat.reduceLeDiff, Nat.reduceMul, Nat.reduceEqDiff, reduceCtorEq, Int.reduceLE, Int.reduceLT, Int.reduceEq, Int.reduceNe, Int.reduceBEq, Int.reduceBNe, Int.reduceAdd, Int.reduceSub]
  refine CO.intro (works_ans σ lo hi) ?_
  cases h1 : leF lo hi
  · simp -implicitDefEqProofs only [go_sem, List.reduceReplicate, Nat.reduceAdd, Nat.reduceSub, Nat.reduceLT, Nat.reduceLeDiff, Nat.reduceMul, Nat.reduceEqDiff, reduceCtorEq, Int.reduceLE, Int.reduceLT, Int.reduceEq, Int.reduceNe, Int.reduceBEq, Int.reduceBNe, Int.reduceAdd, Int.reduceSub]
    exact Fini.ret rfl
  · simp -implicitDefEqProofs only [go_sem, List.reduceReplicate, Nat.reduceAdd, Nat.reduceSub, Nat.reduceLT, Nat.reduceLeDiff, Nat.reduceMul, Nat.reduceEqDiff, reduceCtorEq, Int.reduceLE, Int.reduceLT, Int.reduceEq, Int.reduceNe, Int.reduceBEq, Int.reduceBNe, Int.reduceAdd, Int.reduceSub]
    refine CO.intro (asw_a σ) ?_
    simp -implicitDefEqProofs only [go_sem, List.reduceReplicate, Nat.reduceAdd, Nat.reduceSub, Nat.reduceLT, Nat.reduceLeDiff, Nat.reduceMul, Nat.reduceEqDiff, reduceCtorEq, Int.reduceLE, Int.reduceLT, Int.reduceEq, Int.reduceNe, Int.reduceBEq, Int.reduceBNe, Int.reduceAdd, Int.reduceSub]
    exact Fini.ret rfl
theorem target_warn : Ans Try.prog 71 [ruleV lo hi, alertV warn v] σ (Bo (leF lo hi)) σ := by
  refine Ans.of_run t71 ?_
  simp -implicitDefEqProofs only [c71, r71, go_sem, List.reduceReplicate, Nat.reduceAdd, Nat.reduceSub, Nat.reduceLT, Nat.reduceLeDiff, Nat.reduceMul, Nat.reduceEqDiff, reduceCtorEq, Int.reduceLE, Int.reduceLT, Int.reduceEq, Int.reduceNe, Int.reduceBEq, Int.reduceBNe, Int.reduceAdd, Int.reduceSub]
  refine CO.intro (works_ans σ lo hi) ?_
  cases h1 : leF lo hi
  · simp -implicitDefEqProofs only [go_sem, List.reduceReplicate, Nat.reduceAdd, Nat.reduceSub, Nat.reduceLT, Nat.reduceLeDiff, Nat.reduceMul, Nat.reduceEqDiff, reduceCtorEq, Int.reduceLE, Int.reduceLT, Int.reduceEq, Int.reduceNe, Int.reduceBEq, Int.reduceBNe, Int.reduceAdd, Int.reduceSub]
    exact Fini.ret rfl
  · simp -implicitDefEqProofs only [go_sem, List.reduceReplicate, Nat.reduceAdd, Nat.reduceSub, Nat.reduceLT, Nat.reduceLeDiff, Nat.reduceMul, Nat.reduceEqDiff, reduceCtorEq, Int.reduceLE, Int.reduceLT, Int.reduceEq, Int.reduceNe, Int.reduceBEq, Int.reduceBNe, Int.reduceAdd, Int.reduceSub]
    refine CO.intro (atw_a σ) ?_
    simp -implicitDefEqProofs only [go_sem, List.reduceReplicate, Nat.reduceAdd, Nat.reduceSub, Nat.reduceLT, Nat.reduceLeDiff, Nat.reduceMul, Nat.reduceEqDiff, reduceCtorEq, Int.reduceLE, Int.reduceLT, Int.reduceEq, Int.reduceNe, Int.reduceBEq, Int.reduceBNe, Int.reduceAdd, Int.reduceSub]
    exact Fini.ret rfl
theorem key_crit : Ans Try.prog 36 [ruleV lo hi, alertV crit v] σ (.pl (.string ⟨#[1, 120]⟩)) σ := by
  refine Ans.of_run t36 ?_
  simp -implicitDefEqProofs only [c36, r36, go_sem, List.reduceReplicate, Nat.reduceAdd, Nat.reduceSub, Nat.reduceLT, Nat.reduceLeDiff, Nat.reduceMul, Nat.reduceEqDiff, reduceCtorEq, Int.reduceLE, Int.reduceLT, Int.reduceEq, Int.reduceNe, Int.reduceBEq, Int.reduceBNe, Int.reduceAdd, Int.reduceSub]
  refine CO.intro (prc_a σ) ?_
  simp -implicitDefEqProofs only [go_sem, List.reduceReplicate, Nat.reduceAdd, Nat.reduceSub, Nat.reduceLT, Nat.reduceLeDiff, Nat.reduceMul, Nat.reduceEqDiff, reduceCtorEq, Int.reduceLE, Int.reduceLT, Int.reduceEq, Int.reduceNe, Int.reduceBEq, Int.reduceBNe, Int.reduceAdd, Int.reduceSub]
  exact Fini.ret rfl
theorem key_warn : Ans Try.prog 36 [ruleV lo hi, alertV warn v] σ (.pl (.string ⟨#[1, 120]⟩)) σ := by
  refine Ans.of_run t36 ?_
  simp -implicitDefEqProofs only [c36, r36, go_sem, List.reduceReplicate, Nat.reduceAdd, Nat.reduceSub, Nat.reduceLT, Nat.reduceLeDiff, Nat.reduceMul, Nat.reduceEqDiff, reduceCtorEq, Int.reduceLE, Int.reduceLT, Int.reduceEq, Int.reduceNe, Int.reduceBEq, Int.reduceBNe, Int.reduceAdd, Int.reduceSub]
  refine CO.intro (prw_a σ) ?_
  simp -implicitDefEqProofs only [go_sem, List.reduceReplicate, Nat.reduceAdd, Nat.reduceSub, Nat.reduceLT, Nat.reduceLeDiff, Nat.reduceMul, Nat.reduceEqDiff, reduceCtorEq, Int.reduceLE, Int.reduceLT, Int.reduceEq, Int.reduceNe, Int.reduceBEq, Int.reduceBNe, Int.reduceAdd, Int.reduceSub]
  exact Fini.ret rfl
theorem mutes_ans (u : Nat) : Ans Try.prog 34 [ruleV lo hi, alertV crit v, alertV warn u] σ (Bo (inB lo hi v)) σ := by
  have e : ((⟨#[1, 120]⟩ : ByteArray).toList == (⟨#[1, 120]⟩ : ByteArray).toList) = true := by simp
  refine Ans.of_run t34 ?_
  simp -implicitDefEqProofs only [c34, r34, go_sem, List.reduceReplicate, Nat.reduceAdd, Nat.reduceSub, Nat.reduceLT, Nat.reduceLeDiff, Nat.reduceMul, Nat.reduceEqDiff, reduceCtorEq, Int.reduceLE, Int.reduceLT, Int.reduceEq, Int.reduceNe, Int.reduceBEq, Int.reduceBNe, Int.reduceAdd, Int.reduceSub]
  refine CD.intro (target_warn σ lo hi u) ?_
  cases h1 : leF lo hi
  · simp -implicitDefEqProofs only [go_sem, List.reduceReplicate, Nat.reduceAdd, Nat.reduceSub, Nat.reduceLT, Nat.reduceLeDiff, Nat.reduceMul, Nat.reduceEqDiff, reduceCtorEq, Int.reduceLE, Int.reduceLT, Int.reduceEq, Int.reduceNe, Int.reduceBEq, Int.reduceBNe, Int.reduceAdd, Int.reduceSub]
    refine Fini.ret ?_
    simp -implicitDefEqProofs only [go_sem, List.reduceReplicate, Nat.reduceAdd, Nat.reduceSub, Nat.reduceLT, Nat.reduceLeDiff, Nat.reduceMul, Nat.reduceEqDiff, reduceCtorEq, Int.reduceLE, Int.reduceLT, Int.reduceEq, Int.reduceNe, Int.reduceBEq, Int.reduceBNe, Int.reduceAdd, Int.reduceSub, inB, h1, Bool.false_and]
    rfl
  · simp -implicitDefEqProofs only [go_sem, List.reduceReplicate, Nat.reduceAdd, Nat.reduceSub, Nat.reduceLT, Nat.reduceLeDiff, Nat.reduceMul, Nat.reduceEqDiff, reduceCtorEq, Int.reduceLE, Int.reduceLT, Int.reduceEq, Int.reduceNe, Int.reduceBEq, Int.reduceBNe, Int.reduceAdd, Int.reduceSub]
    refine CD.intro (source_crit σ lo hi v) ?_
    cases h2 : inB lo hi v
    · simp -implicitDefEqProofs only [go_sem, List.reduceReplicate, Nat.reduceAdd, Nat.reduceSub, Nat.reduceLT, Nat.reduceLeDiff, Nat.reduceMul, Nat.reduceEqDiff, reduceCtorEq, Int.reduceLE, Int.reduceLT, Int.reduceEq, Int.reduceNe, Int.reduceBEq, Int.reduceBNe, Int.reduceAdd, Int.reduceSub]
      exact Fini.ret rfl
    · simp -implicitDefEqProofs only [go_sem, List.reduceReplicate, Nat.reduceAdd, Nat.reduceSub, Nat.reduceLT, Nat.reduceLeDiff, Nat.reduceMul, Nat.reduceEqDiff, reduceCtorEq, Int.reduceLE, Int.reduceLT, Int.reduceEq, Int.reduceNe, Int.reduceBEq, Int.reduceBNe, Int.reduceAdd, Int.reduceSub]
      refine CD.intro (source_warn σ lo hi u) ?_
      simp -implicitDefEqProofs only [go_sem, List.reduceReplicate, Nat.reduceAdd, Nat.reduceSub, Nat.reduceLT, Nat.reduceLeDiff, Nat.reduceMul, Nat.reduceEqDiff, reduceCtorEq, Int.reduceLE, Int.reduceLT, Int.reduceEq, Int.reduceNe, Int.reduceBEq, Int.reduceBNe, Int.reduceAdd, Int.reduceSub]
      refine CD.intro (key_crit σ lo hi v) ?_
      simp -implicitDefEqProofs only [go_sem, List.reduceReplicate, Nat.reduceAdd, Nat.reduceSub, Nat.reduceLT, Nat.reduceLeDiff, Nat.reduceMul, Nat.reduceEqDiff, reduceCtorEq, Int.reduceLE, Int.reduceLT, Int.reduceEq, Int.reduceNe, Int.reduceBEq, Int.reduceBNe, Int.reduceAdd, Int.reduceSub]
      refine CD.intro (key_warn σ lo hi u) ?_
      simp -implicitDefEqProofs only [go_sem, List.reduceReplicate, Nat.reduceAdd, Nat.reduceSub, Nat.reduceLT, Nat.reduceLeDiff, Nat.reduceMul, Nat.reduceEqDiff, reduceCtorEq, Int.reduceLE, Int.reduceLT, Int.reduceEq, Int.reduceNe, Int.reduceBEq, Int.reduceBNe, Int.reduceAdd, Int.reduceSub, e]
      exact Fini.ret rfl
end

theorem critical_ans (σ : St) : Ans Try.prog 37 [] σ (.agg [srcV, tgtV, Bo true, Fl 0, Fl 0, eqV]) σ := by
  have h : Ans Try.prog 37 [] [] (.agg [srcV, tgtV, Bo true, Fl 0, Fl 0, eqV]) [] := evFT_ok allF extF [] 300 100 _ _ _ _ _ (by kernel_rfl)
  exact h.frame (bel_all rfl) σ
theorem of_crit (σ : St) : Ans Try.prog 38 [crit, .pl (.string ⟨#[120]⟩)] σ (alertV crit 0) σ := by
  have h : Ans Try.prog 38 [crit, .pl (.string ⟨#[120]⟩)] [] (alertV crit 0) [] := evFT_ok allF extF [] 300 100 _ _ _ _ _ (by kernel_rfl)
  exact h.frame (bel_all rfl) σ
theorem of_warn (σ : St) : Ans Try.prog 38 [warn, .pl (.string ⟨#[120]⟩)] σ (alertV warn 0) σ := by
  have h : Ans Try.prog 38 [warn, .pl (.string ⟨#[120]⟩)] [] (alertV warn 0) [] := evFT_ok allF extF [] 300 100 _ _ _ _ _ (by kernel_rfl)
  exact h.frame (bel_all rfl) σ

theorem ruleBands_ans (lo hi v : Nat) : Ans Try.prog 10 [Fl lo, Fl hi, Fl v] [] (.pl (.bool true)) [] := by
  have hin : inB lo hi v = (leF lo hi && (leF lo v && leF v hi)) := rfl
  refine Ans.of_run' t10 (fun hbel _ => ?_)
  simp -implicitDefEqProofs only [c10, r10, go_sem, List.reduceReplicate, Nat.reduceAdd, Nat.reduceSub, Nat.reduceLT, Nat.reduceLeDiff, Nat.reduceMul, Nat.reduceEqDiff, reduceCtorEq, Int.reduceLE, Int.reduceLT, Int.reduceEq, Int.reduceNe, Int.reduceBEq, Int.reduceBNe, Int.reduceAdd, Int.reduceSub]
  refine CO.intro (critical_ans _) ?_
  simp -implicitDefEqProofs only [go_sem, List.reduceReplicate, Nat.reduceAdd, Nat.reduceSub, Nat.reduceLT, Nat.reduceLeDiff, Nat.reduceMul, Nat.reduceEqDiff, reduceCtorEq, Int.reduceLE, Int.reduceLT, Int.reduceEq, Int.reduceNe, Int.reduceBEq, Int.reduceBNe, Int.reduceAdd, Int.reduceSub]
  refine CO.intro (of_crit _) ?_
  simp -implicitDefEqProofs only [go_sem, List.reduceReplicate, Nat.reduceAdd, Nat.reduceSub, Nat.reduceLT, Nat.reduceLeDiff, Nat.reduceMul, Nat.reduceEqDiff, reduceCtorEq, Int.reduceLE, Int.reduceLT, Int.reduceEq, Int.reduceNe, Int.reduceBEq, Int.reduceBNe, Int.reduceAdd, Int.reduceSub]
  refine CO.intro (of_warn _) ?_
  simp -implicitDefEqProofs only [go_sem, List.reduceReplicate, Nat.reduceAdd, Nat.reduceSub, Nat.reduceLT, Nat.reduceLeDiff, Nat.reduceMul, Nat.reduceEqDiff, reduceCtorEq, Int.reduceLE, Int.reduceLT, Int.reduceEq, Int.reduceNe, Int.reduceBEq, Int.reduceBNe, Int.reduceAdd, Int.reduceSub, leF_def]
  cases h1 : leF lo hi
  all_goals cases h2 : leF lo v
  all_goals cases h3 : leF v hi
  all_goals simp -implicitDefEqProofs only [go_sem, List.reduceReplicate, Nat.reduceAdd, Nat.reduceSub, Nat.reduceLT, Nat.reduceLeDiff, Nat.reduceMul, Nat.reduceEqDiff, reduceCtorEq, Int.reduceLE, Int.reduceLT, Int.reduceEq, Int.reduceNe, Int.reduceBEq, Int.reduceBNe, Int.reduceAdd, Int.reduceSub, leF_def, h1, h2, h3]
  all_goals (
    refine CO.intro (is_ans _ lo hi) ?_
    simp -implicitDefEqProofs only [go_sem, List.reduceReplicate, Nat.reduceAdd, Nat.reduceSub, Nat.reduceLT, Nat.reduceLeDiff, Nat.reduceMul, Nat.reduceEqDiff, reduceCtorEq, Int.reduceLE, Int.reduceLT, Int.reduceEq, Int.reduceNe, Int.reduceBEq, Int.reduceBNe, Int.reduceAdd, Int.reduceSub, leF_def, h1, h2, h3]
    refine CO.intro (source_crit _ lo hi v) ?_
    simp -implicitDefEqProofs only [go_sem, List.reduceReplicate, Nat.reduceAdd, Nat.reduceSub, Nat.reduceLT, Nat.reduceLeDiff, Nat.reduceMul, Nat.reduceEqDiff, reduceCtorEq, Int.reduceLE, Int.reduceLT, Int.reduceEq, Int.reduceNe, Int.reduceBEq, Int.reduceBNe, Int.reduceAdd, Int.reduceSub, leF_def, hin, h1, h2, h3]
    refine CO.intro (mutes_ans _ lo hi v 0) ?_
    simp -implicitDefEqProofs only [go_sem, List.reduceReplicate, Nat.reduceAdd, Nat.reduceSub, Nat.reduceLT, Nat.reduceLeDiff, Nat.reduceMul, Nat.reduceEqDiff, reduceCtorEq, Int.reduceLE, Int.reduceLT, Int.reduceEq, Int.reduceNe, Int.reduceBEq, Int.reduceBNe, Int.reduceAdd, Int.reduceSub, leF_def, hin, h1, h2, h3]
    have hneg := inB_neg lo hi v
    rw [hin, h1, h2, h3] at hneg
    cases hz : (FloatKind.f64.format.order v 0 == some .eq)
    · have hz' : (FloatKind.f64.format.order v 0 != some .eq) = true := by rw [bne, hz]; rfl
      simp -implicitDefEqProofs only [go_sem, List.reduceReplicate, Nat.reduceAdd, Nat.reduceSub, Nat.reduceLT, Nat.reduceLeDiff, Nat.reduceMul, Nat.reduceEqDiff, reduceCtorEq, Int.reduceLE, Int.reduceLT, Int.reduceEq, Int.reduceNe, Int.reduceBEq, Int.reduceBNe, Int.reduceAdd, Int.reduceSub, hz']
      refine CO.intro (rr_a _) ?_
      simp -implicitDefEqProofs only [go_sem, List.reduceReplicate, Nat.reduceAdd, Nat.reduceSub, Nat.reduceLT, Nat.reduceLeDiff, Nat.reduceMul, Nat.reduceEqDiff, reduceCtorEq, Int.reduceLE, Int.reduceLT, Int.reduceEq, Int.reduceNe, Int.reduceBEq, Int.reduceBNe, Int.reduceAdd, Int.reduceSub]
      refine Fini.trim2 (σ' := []) (ex := [_, _, _]) rfl rfl (Nat.le_refl _) (.pl _) (by simp)
    · have hz' : (FloatKind.f64.format.order v 0 != some .eq) = false := by rw [bne, hz]; rfl
      have hn := hneg (by simpa using hz)
      have hm := fun σ => mutes_ans σ lo hi (Op.negFloat .f64 v) 0
      rw [hn] at hm
      simp -implicitDefEqProofs only [go_sem, List.reduceReplicate, Nat.reduceAdd, Nat.reduceSub, Nat.reduceLT, Nat.reduceLeDiff, Nat.reduceMul, Nat.reduceEqDiff, reduceCtorEq, Int.reduceLE, Int.reduceLT, Int.reduceEq, Int.reduceNe, Int.reduceBEq, Int.reduceBNe, Int.reduceAdd, Int.reduceSub, hz']
      refine CO.intro (hm _) ?_
      simp -implicitDefEqProofs only [go_sem, List.reduceReplicate, Nat.reduceAdd, Nat.reduceSub, Nat.reduceLT, Nat.reduceLeDiff, Nat.reduceMul, Nat.reduceEqDiff, reduceCtorEq, Int.reduceLE, Int.reduceLT, Int.reduceEq, Int.reduceNe, Int.reduceBEq, Int.reduceBNe, Int.reduceAdd, Int.reduceSub]
      refine CO.intro (rr_a _) ?_
      simp -implicitDefEqProofs only [go_sem, List.reduceReplicate, Nat.reduceAdd, Nat.reduceSub, Nat.reduceLT, Nat.reduceLeDiff, Nat.reduceMul, Nat.reduceEqDiff, reduceCtorEq, Int.reduceLE, Int.reduceLT, Int.reduceEq, Int.reduceNe, Int.reduceBEq, Int.reduceBNe, Int.reduceAdd, Int.reduceSub]
      refine Fini.trim2 (σ' := []) (ex := [_, _, _]) rfl rfl (Nat.le_refl _) (.pl _) (by simp))


theorem own_knob : ownKnob Try.prog.godebug = none := by kernel_rfl
theorem laid_out : laidOutB Try.prog = true := by kernel_rfl
theorem float_arg {W : World} {base : Nat} {t : TypeId} {v : Value} (ht : Try.prog.underlying t = some (.float .f64)) (h : Value.okWide Try.prog W .any base t v) : ∃ n : Nat, Rep noM noR W (Fl n) v := by
  simp only [Value.okWide, ht, Cell.okWide] at h
  cases v <;> simp_all [Cell.ok]
  exact ⟨_, .pl _⟩

theorem ruleBands_lifted (os : Os) (started : os.Started) (H : Type) (enc : TypeId × Value → H) :
    ReturnsInHanded {} Try.checked os 10 .any (Rows.ruleBandsSpec.pre6 enc Try.prog Try.f10 Rows.ruleBandsRow.domain false) (Rows.ruleBandsSpec.post enc Try.prog Try.f10 false true false false) := by
  refine returnsInHanded_of_change (C := Try.checked) own_knob started (by kernel_rfl) Try.func10
    (ChangeSpec.witness6 (enc := enc) (C := Try.checked) false ⟨#[], #[.float .f64 0, .float .f64 0, .float .f64 0], []⟩ 8 (by kernel_rfl) (by kernel_rfl) (by kernel_rfl) (by kernel_rfl)) ?_
  intro W base args ds gs before hval0 hW hcnd _
  have hval : ∀ (j : Nat) t v, Try.f10.params[j]? = some t → args[j]? = some v → Value.okWide Try.prog W .any base t v := hval0
  have hW' := hW
  obtain ⟨p, q, hA0, hV, rfl, hfz, hnd⟩ := hW
  have hA : DataW.TrodAll enc Try.prog W 0 (fun _ => true) true Try.f10.params.toList args.toList ds p := hA0
  rw [Try.params10] at hA hval
  obtain ⟨v0, vs0, d0, ds0, a0, b0, hargs, rfl, rfl, h0, hA⟩ := trodAll_cons hA
  obtain ⟨v1, vs1, d1, ds1, a1, b1, rfl, rfl, rfl, h1, hA⟩ := trodAll_cons hA
  obtain ⟨v2, vs2, d2, ds2, a2, b2, rfl, rfl, rfl, h2, hA⟩ := trodAll_cons hA
  obtain ⟨rfl, rfl, rfl⟩ := trodAll_nil hA
  have : args = #[v0, v1, v2] := by cases args; simpa using hargs
  subst this
  obtain ⟨x, r0⟩ := float_arg Try.underlying43 (hval 0 43 v0 rfl rfl)
  obtain ⟨y, r1⟩ := float_arg Try.underlying43 (hval 1 43 v1 rfl rfl)
  obtain ⟨z, r2⟩ := float_arg Try.underlying43 (hval 2 43 v2 rfl rfl)
  refine (Ans.law (P := Try.prog) (W := W) (vs := [v0, v1, v2]) Try.func10 (by kernel_rfl) (by kernel_rfl) (ruleBands_ans x y z) (Reps.cons r0 (Reps.cons r1 (Reps.cons r2 Reps.nil)))).mono fun e W' ⟨v, he, hk, M', R', hr⟩ => ?_
  cases hr
  exact ⟨_, he, law_post (P := Try.prog) laid_out (by
      intro t ht
      rw [Try.params10] at ht
      simp only [List.mem_cons, List.not_mem_nil, or_false, or_self] at ht
      subst ht
      exact ⟨by kernel_rfl, of_decide_eq_true (by kernel_rfl)⟩) rfl rfl (tb := 4) (by kernel_rfl) hW' (fun ds h => by
    match ds, h with
    | [_, _, _], _ => exact ⟨rfl, rfl, rfl⟩) hk⟩

theorem ruleBands_holds : Rows.RuleBandsSaid :=
  OpenClaim.holds_of_wide 10 Try.f10 rfl rfl rfl rfl rfl rfl rfl ⟨rfl, rfl, rfl, rfl, rfl⟩ rfl rfl rfl rfl rfl (by kernel_rfl) Try.func10 (by kernel_rfl)
    (of_decide_eq_true (by kernel_rfl)) (by unfold Func.isWrapper; first | (rw [if_pos (by decide +kernel)]; kernel_rfl) | (rw [if_neg (by decide +kernel)]; exact ⟨rfl, rfl⟩))
    (fun os started H enc _ => ruleBands_lifted os started H enc)
end Go.Proofs.Ytoadgajhkhejiaa
