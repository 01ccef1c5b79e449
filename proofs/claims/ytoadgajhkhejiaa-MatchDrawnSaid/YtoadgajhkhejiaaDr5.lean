/- Drawn matchers: whether they may be, are too large, hold on drawn labels. No condition. -/
import Derived.Test.YtoadgajhkhejiaaDr4
import Derived.Test.YtoadgajhkhejiaaMDr2
import Derived.Test.YtoadgajhkhejiaaMDr3
set_option linter.unusedSimpArgs false
set_option linter.unusedVariables false
namespace Go.Proofs.Ytoadgajhkhejiaa
open Go Go.Ab
set_option maxRecDepth 100000

def vals8 : List ByteArray := values ++ [⟨#[]⟩]
theorem pname_ans (σ : St) (n : ByteArray) (h : n ∈ names) : Ans Try.prog 51 [Sx n] σ (Bo true) σ := by
  simp only [names, List.mem_cons, List.not_mem_nil, or_false] at h
  rcases h with rfl | rfl | rfl | rfl | rfl
  · exact pn0_ok.frame (bel_all rfl) σ
  · exact pn1_ok.frame (bel_all rfl) σ
  · exact pn2_ok.frame (bel_all rfl) σ
  · exact pn3_ok.frame (bel_all rfl) σ
  · exact pn4_ok.frame (bel_all rfl) σ
theorem getv (ns : List Int) (nm : ByteArray) : ∃ v ∈ vals8, ∀ σ, Ans Try.prog 48 [setV (labs ns), Sx nm] σ (Sx v) σ := by
  unfold setV
  cases hs : isSetL (setL (labs ns))
  · exact ⟨⟨#[]⟩, by simp [vals8], fun σ => get_nil σ nm⟩
  · refine ⟨getL (setL (labs ns)) nm, ?_, fun σ => get_ans σ _ nm (by rw [setL_len]; have := labs_len ns; omega)⟩
    rcases getL_mem (setL (labs ns)) nm with h | ⟨x, hx, h⟩
    · rw [h]; simp [vals8]
    · rw [h]
      have := (labs_drawn ns x (setL_mem _ x hx)).2
      simp [vals8, this]

structure PatOK (p : ByteArray) (st : AV) (ok : Bool) : Prop where
  prog : ∀ σ k nm, Ans Try.prog 49 [mat k nm p] σ (.tup [st, Bo ok]) σ
  is3 : ∀ σ nm, nm ∈ names → Ans Try.prog 16 [mat 3 nm p] σ (Bo true) σ
  is4 : ∀ σ nm, nm ∈ names → Ans Try.prog 16 [mat 4 nm p] σ (Bo true) σ
  scan : ok = true → ∀ v ∈ vals8, ∃ b, ∀ σ, Ans Try.prog 50 [st, Sx v] σ (Bo b) σ
theorem like_ans (σ : St) (k : Int) (nm v : ByteArray) : Ans Try.prog 52 [mat k nm v] σ (Bo (k == 3 || k == 4)) σ := by
  refine Ans.of_run t52 ?_
  simp -implicitDefEqProofs only [c52, r52, go_sem, List.reduceReplicate, Nat.reduceAdd, Nat.reduceSub, Nat.reduceLT, Nat.reduceLeDiff, Nat.reduceMul, Nat.reduceEqDiff, reduceCtorEq, Int.reduceLE, Int.reduceLT, Int.reduceEq, Int.reduceNe, Int.reduceBEq, Int.reduceBNe, Int.reduceAdd, Int.reduceSub]
  cases h : k == 3
  · simp -implicitDefEqProofs only [go_sem, List.reduceReplicate, Nat.reduceAdd, Nat.reduceSub, Nat.reduceLT, Nat.reduceLeDiff, Nat.reduceMul, Nat.reduceEqDiff, reduceCtorEq, Int.reduceLE, Int.reduceLT, Int.reduceEq, Int.reduceNe, Int.reduceBEq, Int.reduceBNe, Int.reduceAdd, Int.reduceSub]
    exact Fini.ret rfl
  · simp -implicitDefEqProofs only [go_sem, List.reduceReplicate, Nat.reduceAdd, Nat.reduceSub, Nat.reduceLT, Nat.reduceLeDiff, Nat.reduceMul, Nat.reduceEqDiff, reduceCtorEq, Int.reduceLE, Int.reduceLT, Int.reduceEq, Int.reduceNe, Int.reduceBEq, Int.reduceBNe, Int.reduceAdd, Int.reduceSub]
    exact Fini.ret rfl

abbrev px0 : AV := .agg [.pl (.int .i64 3), .pl (.int .u64 0), .pl (.int .u64 0), .pl (.int .u64 0), .pl (.int .u64 0), .sl 6 [.agg [.pl (.int .i64 1), .pl (.int .u64 0), .pl (.int .u64 8589934592), .pl (.int .u64 0), .pl (.int .u64 0), .nils], .agg [.pl (.int .i64 1), .pl (.int .u64 0), .pl (.int .u64 17179869184), .pl (.int .u64 0), .pl (.int .u64 0), .nils]]]
abbrev st0 : AV := .sl 7 [.agg [.pl (.int .i64 2), .pl (.int .u64 0), .pl (.int .u64 0), .pl (.int .u64 0), .pl (.int .u64 0), .pl (.int .i64 1), .pl (.int .i64 3)], .agg [.pl (.int .i64 1), .pl (.int .u64 0), .pl (.int .u64 8589934592), .pl (.int .u64 0), .pl (.int .u64 0), .pl (.int .i64 0), .pl (.int .i64 0)], .agg [.pl (.int .i64 3), .pl (.int .u64 0), .pl (.int .u64 0), .pl (.int .u64 0), .pl (.int .u64 0), .pl (.int .i64 4), .pl (.int .i64 0)], .agg [.pl (.int .i64 1), .pl (.int .u64 0), .pl (.int .u64 17179869184), .pl (.int .u64 0), .pl (.int .u64 0), .pl (.int .i64 0), .pl (.int .i64 0)], .agg [.pl (.int .i64 4), .pl (.int .u64 0), .pl (.int .u64 0), .pl (.int .u64 0), .pl (.int .u64 0), .pl (.int .i64 0), .pl (.int .i64 0)]]
theorem pat0 : PatOK ⟨#[97, 124, 98]⟩ st0 true := by
  have hp : ∀ σ, Ans Try.prog 53 [Sx ⟨#[97, 124, 98]⟩] σ (.tup [px0, Bo true]) σ := fun σ => pp0_ok.frame (bel_all rfl) σ
  have hm : ∀ σ, Ans Try.prog 90 [px0] σ (.tup [st0, Bo true]) σ := fun σ => mk0_ok.frame (bel_all rfl) σ
  refine ⟨fun σ k nm => ?_, fun σ nm hn => ?_, fun σ nm hn => ?_, fun hok v hv => ?_⟩
  · refine Ans.of_run t49 ?_
    simp -implicitDefEqProofs only [c49, r49, go_sem, List.reduceReplicate, Nat.reduceAdd, Nat.reduceSub, Nat.reduceLT, Nat.reduceLeDiff, Nat.reduceMul, Nat.reduceEqDiff, reduceCtorEq, Int.reduceLE, Int.reduceLT, Int.reduceEq, Int.reduceNe, Int.reduceBEq, Int.reduceBNe, Int.reduceAdd, Int.reduceSub]
    refine CO.intro (hp σ) ?_
    simp -implicitDefEqProofs only [go_sem, List.reduceReplicate, Nat.reduceAdd, Nat.reduceSub, Nat.reduceLT, Nat.reduceLeDiff, Nat.reduceMul, Nat.reduceEqDiff, reduceCtorEq, Int.reduceLE, Int.reduceLT, Int.reduceEq, Int.reduceNe, Int.reduceBEq, Int.reduceBNe, Int.reduceAdd, Int.reduceSub]
    refine CO.intro (hm σ) ?_
    simp -implicitDefEqProofs only [go_sem, List.reduceReplicate, Nat.reduceAdd, Nat.reduceSub, Nat.reduceLT, Nat.reduceLeDiff, Nat.reduceMul, Nat.reduceEqDiff, reduceCtorEq, Int.reduceLE, Int.reduceLT, Int.reduceEq, Int.reduceNe, Int.reduceBEq, Int.reduceBNe, Int.reduceAdd, Int.reduceSub]
    exact Fini.ret rfl
  · refine Ans.of_run t16 ?_
    simp -implicitDefEqProofs only [c16, r16, go_sem, List.reduceReplicate, Nat.reduceAdd, Nat.reduceSub, Nat.reduceLT, Nat.reduceLeDiff, Nat.reduceMul, Nat.reduceEqDiff, reduceCtorEq, Int.reduceLE, Int.reduceLT, Int.reduceEq, Int.reduceNe, Int.reduceBEq, Int.reduceBNe, Int.reduceAdd, Int.reduceSub]
    refine CO.intro (pname_ans σ nm hn) ?_
    simp -implicitDefEqProofs only [go_sem, List.reduceReplicate, Nat.reduceAdd, Nat.reduceSub, Nat.reduceLT, Nat.reduceLeDiff, Nat.reduceMul, Nat.reduceEqDiff, reduceCtorEq, Int.reduceLE, Int.reduceLT, Int.reduceEq, Int.reduceNe, Int.reduceBEq, Int.reduceBNe, Int.reduceAdd, Int.reduceSub]
    refine CO.intro (like_ans σ 3 nm _) ?_
    simp -implicitDefEqProofs only [go_sem, List.reduceReplicate, Nat.reduceAdd, Nat.reduceSub, Nat.reduceLT, Nat.reduceLeDiff, Nat.reduceMul, Nat.reduceEqDiff, reduceCtorEq, Int.reduceLE, Int.reduceLT, Int.reduceEq, Int.reduceNe, Int.reduceBEq, Int.reduceBNe, Int.reduceAdd, Int.reduceSub, Bool.true_or, Bool.or_true]
    refine CO.intro (hp σ) ?_
    simp -implicitDefEqProofs only [go_sem, List.reduceReplicate, Nat.reduceAdd, Nat.reduceSub, Nat.reduceLT, Nat.reduceLeDiff, Nat.reduceMul, Nat.reduceEqDiff, reduceCtorEq, Int.reduceLE, Int.reduceLT, Int.reduceEq, Int.reduceNe, Int.reduceBEq, Int.reduceBNe, Int.reduceAdd, Int.reduceSub]
    exact Fini.ret rfl
  · refine Ans.of_run t16 ?_
    simp -implicitDefEqProofs only [c16, r16, go_sem, List.reduceReplicate, Nat.reduceAdd, Nat.reduceSub, Nat.reduceLT, Nat.reduceLeDiff, Nat.reduceMul, Nat.reduceEqDiff, reduceCtorEq, Int.reduceLE, Int.reduceLT, Int.reduceEq, Int.reduceNe, Int.reduceBEq, Int.reduceBNe, Int.reduceAdd, Int.reduceSub]
    refine CO.intro (pname_ans σ nm hn) ?_
    simp -implicitDefEqProofs only [go_sem, List.reduceReplicate, Nat.reduceAdd, Nat.reduceSub, Nat.reduceLT, Nat.reduceLeDiff, Nat.reduceMul, Nat.reduceEqDiff, reduceCtorEq, Int.reduceLE, Int.reduceLT, Int.reduceEq, Int.reduceNe, Int.reduceBEq, Int.reduceBNe, Int.reduceAdd, Int.reduceSub]
    refine CO.intro (like_ans σ 4 nm _) ?_
    simp -implicitDefEqProofs only [go_sem, List.reduceReplicate, Nat.reduceAdd, Nat.reduceSub, Nat.reduceLT, Nat.reduceLeDiff, Nat.reduceMul, Nat.reduceEqDiff, reduceCtorEq, Int.reduceLE, Int.reduceLT, Int.reduceEq, Int.reduceNe, Int.reduceBEq, Int.reduceBNe, Int.reduceAdd, Int.reduceSub, Bool.true_or, Bool.or_true]
    refine CO.intro (hp σ) ?_
    simp -implicitDefEqProofs only [go_sem, List.reduceReplicate, Nat.reduceAdd, Nat.reduceSub, Nat.reduceLT, Nat.reduceLeDiff, Nat.reduceMul, Nat.reduceEqDiff, reduceCtorEq, Int.reduceLE, Int.reduceLT, Int.reduceEq, Int.reduceNe, Int.reduceBEq, Int.reduceBNe, Int.reduceAdd, Int.reduceSub]
    exact Fini.ret rfl
  · simp only [vals8, values, List.cons_append, List.nil_append, List.mem_cons, List.not_mem_nil, or_false] at hv
    rcases hv with rfl | rfl | rfl | rfl | rfl | rfl | rfl | rfl
    · exact ⟨_, fun σ => sm0_0_ok.frame (bel_all rfl) σ⟩
    · exact ⟨_, fun σ => sm0_1_ok.frame (bel_all rfl) σ⟩
    · exact ⟨_, fun σ => sm0_2_ok.frame (bel_all rfl) σ⟩
    · exact ⟨_, fun σ => sm0_3_ok.frame (bel_all rfl) σ⟩
    · exact ⟨_, fun σ => sm0_4_ok.frame (bel_all rfl) σ⟩
    · exact ⟨_, fun σ => sm0_5_ok.frame (bel_all rfl) σ⟩
    · exact ⟨_, fun σ => sm0_6_ok.frame (bel_all rfl) σ⟩
    · exact ⟨_, fun σ => sm0_7_ok.frame (bel_all rfl) σ⟩

abbrev px1 : AV := .agg [.pl (.int .i64 2), .pl (.int .u64 0), .pl (.int .u64 0), .pl (.int .u64 0), .pl (.int .u64 0), .nils]
abbrev st1 : AV := .sl 7 [.agg [.pl (.int .i64 4), .pl (.int .u64 0), .pl (.int .u64 0), .pl (.int .u64 0), .pl (.int .u64 0), .pl (.int .i64 0), .pl (.int .i64 0)]]
theorem pat1 : PatOK ⟨#[]⟩ st1 true := by
  have hp : ∀ σ, Ans Try.prog 53 [Sx ⟨#[]⟩] σ (.tup [px1, Bo true]) σ := fun σ => pp1_ok.frame (bel_all rfl) σ
  have hm : ∀ σ, Ans Try.prog 90 [px1] σ (.tup [st1, Bo true]) σ := fun σ => mk1_ok.frame (bel_all rfl) σ
  refine ⟨fun σ k nm => ?_, fun σ nm hn => ?_, fun σ nm hn => ?_, fun hok v hv => ?_⟩
  · refine Ans.of_run t49 ?_
    simp -implicitDefEqProofs only [c49, r49, go_sem, List.reduceReplicate, Nat.reduceAdd, Nat.reduceSub, Nat.reduceLT, Nat.reduceLeDiff, Nat.reduceMul, Nat.reduceEqDiff, reduceCtorEq, Int.reduceLE, Int.reduceLT, Int.reduceEq, Int.reduceNe, Int.reduceBEq, Int.reduceBNe, Int.reduceAdd, Int.reduceSub]
    refine CO.intro (hp σ) ?_
    simp -implicitDefEqProofs only [go_sem, List.reduceReplicate, Nat.reduceAdd, Nat.reduceSub, Nat.reduceLT, Nat.reduceLeDiff, Nat.reduceMul, Nat.reduceEqDiff, reduceCtorEq, Int.reduceLE, Int.reduceLT, Int.reduceEq, Int.reduceNe, Int.reduceBEq, Int.reduceBNe, Int.reduceAdd, Int.reduceSub]
    refine CO.intro (hm σ) ?_
    simp -implicitDefEqProofs only [go_sem, List.reduceReplicate, Nat.reduceAdd, Nat.reduceSub, Nat.reduceLT, Nat.reduceLeDiff, Nat.reduceMul, Nat.reduceEqDiff, reduceCtorEq, Int.reduceLE, Int.reduceLT, Int.reduceEq, Int.reduceNe, Int.reduceBEq, Int.reduceBNe, Int.reduceAdd, Int.reduceSub]
    exact Fini.ret rfl
  · refine Ans.of_run t16 ?_
    simp -implicitDefEqProofs only [c16, r16, go_sem, List.reduceReplicate, Nat.reduceAdd, Nat.reduceSub, Nat.reduceLT, Nat.reduceLeDiff, Nat.reduceMul, Nat.reduceEqDiff, reduceCtorEq, Int.reduceLE, Int.reduceLT, Int.reduceEq, Int.reduceNe, Int.reduceBEq, Int.reduceBNe, Int.reduceAdd, Int.reduceSub]
    refine CO.intro (pname_ans σ nm hn) ?_
    simp -implicitDefEqProofs only [go_sem, List.reduceReplicate, Nat.reduceAdd, Nat.reduceSub, Nat.reduceLT, Nat.reduceLeDiff, Nat.reduceMul, Nat.reduceEqDiff, reduceCtorEq, Int.reduceLE, Int.reduceLT, Int.reduceEq, Int.reduceNe, Int.reduceBEq, Int.reduceBNe, Int.reduceAdd, Int.reduceSub]
    refine CO.intro (like_ans σ 3 nm _) ?_
    simp -implicitDefEqProofs only [go_sem, List.reduceReplicate, Nat.reduceAdd, Nat.reduceSub, Nat.reduceLT, Nat.reduceLeDiff, Nat.reduceMul, Nat.reduceEqDiff, reduceCtorEq, Int.reduceLE, Int.reduceLT, Int.reduceEq, Int.reduceNe, Int.reduceBEq, Int.reduceBNe, Int.reduceAdd, Int.reduceSub, Bool.true_or, Bool.or_true]
    refine CO.intro (hp σ) ?_
    simp -implicitDefEqProofs only [go_sem, List.reduceReplicate, Nat.reduceAdd, Nat.reduceSub, Nat.reduceLT, Nat.reduceLeDiff, Nat.reduceMul, Nat.reduceEqDiff, reduceCtorEq, Int.reduceLE, Int.reduceLT, Int.reduceEq, Int.reduceNe, Int.reduceBEq, Int.reduceBNe, Int.reduceAdd, Int.reduceSub]
    exact Fini.ret rfl
  · refine Ans.of_run t16 ?_
    simp -implicitDefEqProofs only [c16, r16, go_sem, List.reduceReplicate, Nat.reduceAdd, Nat.reduceSub, Nat.reduceLT, Nat.reduceLeDiff, Nat.reduceMul, Nat.reduceEqDiff, reduceCtorEq, Int.reduceLE, Int.reduceLT, Int.reduceEq, Int.reduceNe, Int.reduceBEq, Int.reduceBNe, Int.reduceAdd, Int.reduceSub]
    refine CO.intro (pname_ans σ nm hn) ?_
    simp -implicitDefEqProofs only [go_sem, List.reduceReplicate, Nat.reduceAdd, Nat.reduceSub, Nat.reduceLT, Nat.reduceLeDiff, Nat.reduceMul, Nat.reduceEqDiff, reduceCtorEq, Int.reduceLE, Int.reduceLT, Int.reduceEq, Int.reduceNe, Int.reduceBEq, Int.reduceBNe, Int.reduceAdd, Int.reduceSub]
    refine CO.intro (like_ans σ 4 nm _) ?_
    simp -implicitDefEqProofs only [go_sem, List.reduceReplicate, Nat.reduceAdd, Nat.reduceSub, Nat.reduceLT, Nat.reduceLeDiff, Nat.reduceMul, Nat.reduceEqDiff, reduceCtorEq, Int.reduceLE, Int.reduceLT, Int.reduceEq, Int.reduceNe, Int.reduceBEq, Int.reduceBNe, Int.reduceAdd, Int.reduceSub, Bool.true_or, Bool.or_true]
    refine CO.intro (hp σ) ?_
    simp -implicitDefEqProofs only [go_sem, List.reduceReplicate, Nat.reduceAdd, Nat.reduceSub, Nat.reduceLT, Nat.reduceLeDiff, Nat.reduceMul, Nat.reduceEqDiff, reduceCtorEq, Int.reduceLE, Int.reduceLT, Int.reduceEq, Int.reduceNe, Int.reduceBEq, Int.reduceBNe, Int.reduceAdd, Int.reduceSub]
    exact Fini.ret rfl
  · simp only [vals8, values, List.cons_append, List.nil_append, List.mem_cons, List.not_mem_nil, or_false] at hv
    rcases hv with rfl | rfl | rfl | rfl | rfl | rfl | rfl | rfl
    · exact ⟨_, fun σ => sm1_0_ok.frame (bel_all rfl) σ⟩
    · exact ⟨_, fun σ => sm1_1_ok.frame (bel_all rfl) σ⟩
    · exact ⟨_, fun σ => sm1_2_ok.frame (bel_all rfl) σ⟩
    · exact ⟨_, fun σ => sm1_3_ok.frame (bel_all rfl) σ⟩
    · exact ⟨_, fun σ => sm1_4_ok.frame (bel_all rfl) σ⟩
    · exact ⟨_, fun σ => sm1_5_ok.frame (bel_all rfl) σ⟩
    · exact ⟨_, fun σ => sm1_6_ok.frame (bel_all rfl) σ⟩
    · exact ⟨_, fun σ => sm1_7_ok.frame (bel_all rfl) σ⟩

abbrev px2 : AV := .agg [.pl (.int .i64 3), .pl (.int .u64 0), .pl (.int .u64 0), .pl (.int .u64 0), .pl (.int .u64 0), .sl 6 [.agg [.pl (.int .i64 2), .pl (.int .u64 0), .pl (.int .u64 0), .pl (.int .u64 0), .pl (.int .u64 0), .sl 6 [.agg [.pl (.int .i64 1), .pl (.int .u64 0), .pl (.int .u64 34359738368), .pl (.int .u64 0), .pl (.int .u64 0), .nils], .agg [.pl (.int .i64 1), .pl (.int .u64 0), .pl (.int .u64 1125899906842624), .pl (.int .u64 0), .pl (.int .u64 0), .nils], .agg [.pl (.int .i64 1), .pl (.int .u64 0), .pl (.int .u64 2199023255552), .pl (.int .u64 0), .pl (.int .u64 0), .nils], .agg [.pl (.int .i64 1), .pl (.int .u64 0), .pl (.int .u64 4503599627370496), .pl (.int .u64 0), .pl (.int .u64 0), .nils]]], .agg [.pl (.int .i64 2), .pl (.int .u64 0), .pl (.int .u64 0), .pl (.int .u64 0), .pl (.int .u64 0), .sl 6 [.agg [.pl (.int .i64 1), .pl (.int .u64 0), .pl (.int .u64 36028797018963968), .pl (.int .u64 0), .pl (.int .u64 0), .nils], .agg [.pl (.int .i64 1), .pl (.int .u64 0), .pl (.int .u64 8589934592), .pl (.int .u64 0), .pl (.int .u64 0), .nils], .agg [.pl (.int .i64 1), .pl (.int .u64 0), .pl (.int .u64 1125899906842624), .pl (.int .u64 0), .pl (.int .u64 0), .nils], .agg [.pl (.int .i64 1), .pl (.int .u64 0), .pl (.int .u64 70368744177664), .pl (.int .u64 0), .pl (.int .u64 0), .nils]]]]]
abbrev st2 : AV := .sl 7 [.agg [.pl (.int .i64 2), .pl (.int .u64 0), .pl (.int .u64 0), .pl (.int .u64 0), .pl (.int .u64 0), .pl (.int .i64 1), .pl (.int .i64 6)], .agg [.pl (.int .i64 1), .pl (.int .u64 0), .pl (.int .u64 34359738368), .pl (.int .u64 0), .pl (.int .u64 0), .pl (.int .i64 0), .pl (.int .i64 0)], .agg [.pl (.int .i64 1), .pl (.int .u64 0), .pl (.int .u64 1125899906842624), .pl (.int .u64 0), .pl (.int .u64 0), .pl (.int .i64 0), .pl (.int .i64 0)], .agg [.pl (.int .i64 1), .pl (.int .u64 0), .pl (.int .u64 2199023255552), .pl (.int .u64 0), .pl (.int .u64 0), .pl (.int .i64 0), .pl (.int .i64 0)], .agg [.pl (.int .i64 1), .pl (.int .u64 0), .pl (.int .u64 4503599627370496), .pl (.int .u64 0), .pl (.int .u64 0), .pl (.int .i64 0), .pl (.int .i64 0)], .agg [.pl (.int .i64 3), .pl (.int .u64 0), .pl (.int .u64 0), .pl (.int .u64 0), .pl (.int .u64 0), .pl (.int .i64 10), .pl (.int .i64 0)], .agg [.pl (.int .i64 1), .pl (.int .u64 0), .pl (.int .u64 36028797018963968), .pl (.int .u64 0), .pl (.int .u64 0), .pl (.int .i64 0), .pl (.int .i64 0)], .agg [.pl (.int .i64 1), .pl (.int .u64 0), .pl (.int .u64 8589934592), .pl (.int .u64 0), .pl (.int .u64 0), .pl (.int .i64 0), .pl (.int .i64 0)], .agg [.pl (.int .i64 1), .pl (.int .u64 0), .pl (.int .u64 1125899906842624), .pl (.int .u64 0), .pl (.int .u64 0), .pl (.int .i64 0), .pl (.int .i64 0)], .agg [.pl (.int .i64 1), .pl (.int .u64 0), .pl (.int .u64 70368744177664), .pl (.int .u64 0), .pl (.int .u64 0), .pl (.int .i64 0), .pl (.int .i64 0)], .agg [.pl (.int .i64 4), .pl (.int .u64 0), .pl (.int .u64 0), .pl (.int .u64 0), .pl (.int .u64 0), .pl (.int .i64 0), .pl (.int .i64 0)]]
theorem pat2 : PatOK ⟨#[40, 99, 114, 105, 116, 124, 119, 97, 114, 110, 41]⟩ st2 true := by
  have hp : ∀ σ, Ans Try.prog 53 [Sx ⟨#[40, 99, 114, 105, 116, 124, 119, 97, 114, 110, 41]⟩] σ (.tup [px2, Bo true]) σ := fun σ => pp2_ok.frame (bel_all rfl) σ
  have hm : ∀ σ, Ans Try.prog 90 [px2] σ (.tup [st2, Bo true]) σ := fun σ => mk2_ok.frame (bel_all rfl) σ
  refine ⟨fun σ k nm => ?_, fun σ nm hn => ?_, fun σ nm hn => ?_, fun hok v hv => ?_⟩
  · refine Ans.of_run t49 ?_
    simp -implicitDefEqProofs only [c49, r49, go_sem, List.reduceReplicate, Nat.reduceAdd, Nat.reduceSub, Nat.reduceLT, Nat.reduceLeDiff, Nat.reduceMul, Nat.reduceEqDiff, reduceCtorEq, Int.reduceLE, Int.reduceLT, Int.reduceEq, Int.reduceNe, Int.reduceBEq, Int.reduceBNe, Int.reduceAdd, Int.reduceSub]
    refine CO.intro (hp σ) ?_
    simp -implicitDefEqProofs only [go_sem, List.reduceReplicate, Nat.reduceAdd, Nat.reduceSub, Nat.reduceLT, Nat.reduceLeDiff, Nat.reduceMul, Nat.reduceEqDiff, reduceCtorEq, Int.reduceLE, Int.reduceLT, Int.reduceEq, Int.reduceNe, Int.reduceBEq, Int.reduceBNe, Int.reduceAdd, Int.reduceSub]
    refine CO.intro (hm σ) ?_
    simp -implicitDefEqProofs only [go_sem, List.reduceReplicate, Nat.reduceAdd, Nat.reduceSub, Nat.reduceLT, Nat.reduceLeDiff, Nat.reduceMul, Nat.reduceEqDiff, reduceCtorEq, Int.reduceLE, Int.reduceLT, Int.reduceEq, Int.reduceNe, Int.reduceBEq, Int.reduceBNe, Int.reduceAdd, Int.reduceSub]
    exact Fini.ret rfl
  · refine Ans.of_run t16 ?_
    simp -implicitDefEqProofs only [c16, r16, go_sem, List.reduceReplicate, Nat.reduceAdd, Nat.reduceSub, Nat.reduceLT, Nat.reduceLeDiff, Nat.reduceMul, Nat.reduceEqDiff, reduceCtorEq, Int.reduceLE, Int.reduceLT, Int.reduceEq, Int.reduceNe, Int.reduceBEq, Int.reduceBNe, Int.reduceAdd, Int.reduceSub]
    refine CO.intro (pname_ans σ nm hn) ?_
    simp -implicitDefEqProofs only [go_sem, List.reduceReplicate, Nat.reduceAdd, Nat.reduceSub, Nat.reduceLT, Nat.reduceLeDiff, Nat.reduceMul, Nat.reduceEqDiff, reduceCtorEq, Int.reduceLE, Int.reduceLT, Int.reduceEq, Int.reduceNe, Int.reduceBEq, Int.reduceBNe, Int.reduceAdd, Int.reduceSub]
    refine CO.intro (like_ans σ 3 nm _) ?_
    simp -implicitDefEqProofs only [go_sem, List.reduceReplicate, Nat.reduceAdd, Nat.reduceSub, Nat.reduceLT, Nat.reduceLeDiff, Nat.reduceMul, Nat.reduceEqDiff, reduceCtorEq, Int.reduceLE, Int.reduceLT, Int.reduceEq, Int.reduceNe, Int.reduceBEq, Int.reduceBNe, Int.reduceAdd, Int.reduceSub, Bool.true_or, Bool.or_true]
    refine CO.intro (hp σ) ?_
    simp -implicitDefEqProofs only [go_sem, List.reduceReplicate, Nat.reduceAdd, Nat.reduceSub, Nat.reduceLT, Nat.reduceLeDiff, Nat.reduceMul, Nat.reduceEqDiff, reduceCtorEq, Int.reduceLE, Int.reduceLT, Int.reduceEq, Int.reduceNe, Int.reduceBEq, Int.reduceBNe, Int.reduceAdd, Int.reduceSub]
    exact Fini.ret rfl
  · refine Ans.of_run t16 ?_
    simp -implicitDefEqProofs only [c16, r16, go_sem, List.reduceReplicate, Nat.reduceAdd, Nat.reduceSub, Nat.reduceLT, Nat.reduceLeDiff, Nat.reduceMul, Nat.reduceEqDiff, reduceCtorEq, Int.reduceLE, Int.reduceLT, Int.reduceEq, Int.reduceNe, Int.reduceBEq, Int.reduceBNe, Int.reduceAdd, Int.reduceSub]
    refine CO.intro (pname_ans σ nm hn) ?_
    simp -implicitDefEqProofs only [go_sem, List.reduceReplicate, Nat.reduceAdd, Nat.reduceSub, Nat.reduceLT, Nat.reduceLeDiff, Nat.reduceMul, Nat.reduceEqDiff, reduceCtorEq, Int.reduceLE, Int.reduceLT, Int.reduceEq, Int.reduceNe, Int.reduceBEq, Int.reduceBNe, Int.reduceAdd, Int.reduceSub]
    refine CO.intro (like_ans σ 4 nm _) ?_
    simp -implicitDefEqProofs only [go_sem, List.reduceReplicate, Nat.reduceAdd, Nat.reduceSub, Nat.reduceLT, Nat.reduceLeDiff, Nat.reduceMul, Nat.reduceEqDiff, reduceCtorEq, Int.reduceLE, Int.reduceLT, Int.reduceEq, Int.reduceNe, Int.reduceBEq, Int.reduceBNe, Int.reduceAdd, Int.reduceSub, Bool.true_or, Bool.or_true]
    refine CO.intro (hp σ) ?_
    simp -implicitDefEqProofs only [go_sem, List.reduceReplicate, Nat.reduceAdd, Nat.reduceSub, Nat.reduceLT, Nat.reduceLeDiff, Nat.reduceMul, Nat.reduceEqDiff, reduceCtorEq, Int.reduceLE, Int.reduceLT, Int.reduceEq, Int.reduceNe, Int.reduceBEq, Int.reduceBNe, Int.reduceAdd, Int.reduceSub]
    exact Fini.ret rfl
  · simp only [vals8, values, List.cons_append, List.nil_append, List.mem_cons, List.not_mem_nil, or_false] at hv
    rcases hv with rfl | rfl | rfl | rfl | rfl | rfl | rfl | rfl
    · exact ⟨_, fun σ => sm2_0_ok.frame (bel_all rfl) σ⟩
    · exact ⟨_, fun σ => sm2_1_ok.frame (bel_all rfl) σ⟩
    · exact ⟨_, fun σ => sm2_2_ok.frame (bel_all rfl) σ⟩
    · exact ⟨_, fun σ => sm2_3_ok.frame (bel_all rfl) σ⟩
    · exact ⟨_, fun σ => sm2_4_ok.frame (bel_all rfl) σ⟩
    · exact ⟨_, fun σ => sm2_5_ok.frame (bel_all rfl) σ⟩
    · exact ⟨_, fun σ => sm2_6_ok.frame (bel_all rfl) σ⟩
    · exact ⟨_, fun σ => sm2_7_ok.frame (bel_all rfl) σ⟩

abbrev px3 : AV := .agg [.pl (.int .i64 2), .pl (.int .u64 0), .pl (.int .u64 0), .pl (.int .u64 0), .pl (.int .u64 0), .sl 6 [.agg [.pl (.int .i64 5), .pl (.int .u64 0), .pl (.int .u64 0), .pl (.int .u64 0), .pl (.int .u64 0), .sl 6 [.agg [.pl (.int .i64 1), .pl (.int .u64 0), .pl (.int .u64 60129542144), .pl (.int .u64 0), .pl (.int .u64 0), .nils]]], .agg [.pl (.int .i64 4), .pl (.int .u64 0), .pl (.int .u64 0), .pl (.int .u64 0), .pl (.int .u64 0), .sl 6 [.agg [.pl (.int .i64 1), .pl (.int .u64 18446744073709551615), .pl (.int .u64 18446744073709551615), .pl (.int .u64 18446744073709551615), .pl (.int .u64 18446744073709551615), .nils]]]]]
abbrev st3 : AV := .sl 7 [.agg [.pl (.int .i64 1), .pl (.int .u64 0), .pl (.int .u64 60129542144), .pl (.int .u64 0), .pl (.int .u64 0), .pl (.int .i64 0), .pl (.int .i64 0)], .agg [.pl (.int .i64 2), .pl (.int .u64 0), .pl (.int .u64 0), .pl (.int .u64 0), .pl (.int .u64 0), .pl (.int .i64 0), .pl (.int .i64 2)], .agg [.pl (.int .i64 2), .pl (.int .u64 0), .pl (.int .u64 0), .pl (.int .u64 0), .pl (.int .u64 0), .pl (.int .i64 3), .pl (.int .i64 5)], .agg [.pl (.int .i64 1), .pl (.int .u64 18446744073709551615), .pl (.int .u64 18446744073709551615), .pl (.int .u64 18446744073709551615), .pl (.int .u64 18446744073709551615), .pl (.int .i64 0), .pl (.int .i64 0)], .agg [.pl (.int .i64 3), .pl (.int .u64 0), .pl (.int .u64 0), .pl (.int .u64 0), .pl (.int .u64 0), .pl (.int .i64 2), .pl (.int .i64 0)], .agg [.pl (.int .i64 4), .pl (.int .u64 0), .pl (.int .u64 0), .pl (.int .u64 0), .pl (.int .u64 0), .pl (.int .i64 0), .pl (.int .i64 0)]]
theorem pat3 : PatOK ⟨#[91, 97, 45, 99, 93, 43, 46, 42]⟩ st3 true := by
  have hp : ∀ σ, Ans Try.prog 53 [Sx ⟨#[91, 97, 45, 99, 93, 43, 46, 42]⟩] σ (.tup [px3, Bo true]) σ := fun σ => pp3_ok.frame (bel_all rfl) σ
  have hm : ∀ σ, Ans Try.prog 90 [px3] σ (.tup [st3, Bo true]) σ := fun σ => mk3_ok.frame (bel_all rfl) σ
  refine ⟨fun σ k nm => ?_, fun σ nm hn => ?_, fun σ nm hn => ?_, fun hok v hv => ?_⟩
  · refine Ans.of_run t49 ?_
    simp -implicitDefEqProofs only [c49, r49, go_sem, List.reduceReplicate, Nat.reduceAdd, Nat.reduceSub, Nat.reduceLT, Nat.reduceLeDiff, Nat.reduceMul, Nat.reduceEqDiff, reduceCtorEq, Int.reduceLE, Int.reduceLT, Int.reduceEq, Int.reduceNe, Int.reduceBEq, Int.reduceBNe, Int.reduceAdd, Int.reduceSub]
    refine CO.intro (hp σ) ?_
    simp -implicitDefEqProofs only [go_sem, List.reduceReplicate, Nat.reduceAdd, Nat.reduceSub, Nat.reduceLT, Nat.reduceLeDiff, Nat.reduceMul, Nat.reduceEqDiff, reduceCtorEq, Int.reduceLE, Int.reduceLT, Int.reduceEq, Int.reduceNe, Int.reduceBEq, Int.reduceBNe, Int.reduceAdd, Int.reduceSub]
    refine CO.intro (hm σ) ?_
    simp -implicitDefEqProofs only [go_sem, List.reduceReplicate, Nat.reduceAdd, Nat.reduceSub, Nat.reduceLT, Nat.reduceLeDiff, Nat.reduceMul, Nat.reduceEqDiff, reduceCtorEq, Int.reduceLE, Int.reduceLT, Int.reduceEq, Int.reduceNe, Int.reduceBEq, Int.reduceBNe, Int.reduceAdd, Int.reduceSub]
    exact Fini.ret rfl
  · refine Ans.of_run t16 ?_
    simp -implicitDefEqProofs only [c16, r16, go_sem, List.reduceReplicate, Nat.reduceAdd, Nat.reduceSub, Nat.reduceLT, Nat.reduceLeDiff, Nat.reduceMul, Nat.reduceEqDiff, reduceCtorEq, Int.reduceLE, Int.reduceLT, Int.reduceEq, Int.reduceNe, Int.reduceBEq, Int.reduceBNe, Int.reduceAdd, Int.reduceSub]
    refine CO.intro (pname_ans σ nm hn) ?_
    simp -implicitDefEqProofs only [go_sem, List.reduceReplicate, Nat.reduceAdd, Nat.reduceSub, Nat.reduceLT, Nat.reduceLeDiff, Nat.reduceMul, Nat.reduceEqDiff, reduceCtorEq, Int.reduceLE, Int.reduceLT, Int.reduceEq, Int.reduceNe, Int.reduceBEq, Int.reduceBNe, Int.reduceAdd, Int.reduceSub]
    refine CO.intro (like_ans σ 3 nm _) ?_
    simp -implicitDefEqProofs only [go_sem, List.reduceReplicate, Nat.reduceAdd, Nat.reduceSub, Nat.reduceLT, Nat.reduceLeDiff, Nat.reduceMul, Nat.reduceEqDiff, reduceCtorEq, Int.reduceLE, Int.reduceLT, Int.reduceEq, Int.reduceNe, Int.reduceBEq, Int.reduceBNe, Int.reduceAdd, Int.reduceSub, Bool.true_or, Bool.or_true]
    refine CO.intro (hp σ) ?_
    simp -implicitDefEqProofs only [go_sem, List.reduceReplicate, Nat.reduceAdd, Nat.reduceSub, Nat.reduceLT, Nat.reduceLeDiff, Nat.reduceMul, Nat.reduceEqDiff, reduceCtorEq, Int.reduceLE, Int.reduceLT, Int.reduceEq, Int.reduceNe, Int.reduceBEq, Int.reduceBNe, Int.reduceAdd, Int.reduceSub]
    exact Fini.ret rfl
  · refine Ans.of_run t16 ?_
    simp -implicitDefEqProofs only [c16, r16, go_sem, List.reduceReplicate, Nat.reduceAdd, Nat.reduceSub, Nat.reduceLT, Nat.reduceLeDiff, Nat.reduceMul, Nat.reduceEqDiff, reduceCtorEq, Int.reduceLE, Int.reduceLT, Int.reduceEq, Int.reduceNe, Int.reduceBEq, Int.reduceBNe, Int.reduceAdd, Int.reduceSub]
    refine CO.intro (pname_ans σ nm hn) ?_
    simp -implicitDefEqProofs only [go_sem, List.reduceReplicate, Nat.reduceAdd, Nat.reduceSub, Nat.reduceLT, Nat.reduceLeDiff, Nat.reduceMul, Nat.reduceEqDiff, reduceCtorEq, Int.reduceLE, Int.reduceLT, Int.reduceEq, Int.reduceNe, Int.reduceBEq, Int.reduceBNe, Int.reduceAdd, Int.reduceSub]
    refine CO.intro (like_ans σ 4 nm _) ?_
    simp -implicitDefEqProofs only [go_sem, List.reduceReplicate, Nat.reduceAdd, Nat.reduceSub, Nat.reduceLT, Nat.reduceLeDiff, Nat.reduceMul, Nat.reduceEqDiff, reduceCtorEq, Int.reduceLE, Int.reduceLT, Int.reduceEq, Int.reduceNe, Int.reduceBEq, Int.reduceBNe, Int.reduceAdd, Int.reduceSub, Bool.true_or, Bool.or_true]
    refine CO.intro (hp σ) ?_
    simp -implicitDefEqProofs only [go_sem, List.reduceReplicate, Nat.reduceAdd, Nat.reduceSub, Nat.reduceLT, Nat.reduceLeDiff, Nat.reduceMul, Nat.reduceEqDiff, reduceCtorEq, Int.reduceLE, Int.reduceLT, Int.reduceEq, Int.reduceNe, Int.reduceBEq, Int.reduceBNe, Int.reduceAdd, Int.reduceSub]
    exact Fini.ret rfl
  · simp only [vals8, values, List.cons_append, List.nil_append, List.mem_cons, List.not_mem_nil, or_false] at hv
    rcases hv with rfl | rfl | rfl | rfl | rfl | rfl | rfl | rfl
    · exact ⟨_, fun σ => sm3_0_ok.frame (bel_all rfl) σ⟩
    · exact ⟨_, fun σ => sm3_1_ok.frame (bel_all rfl) σ⟩
    · exact ⟨_, fun σ => sm3_2_ok.frame (bel_all rfl) σ⟩
    · exact ⟨_, fun σ => sm3_3_ok.frame (bel_all rfl) σ⟩
    · exact ⟨_, fun σ => sm3_4_ok.frame (bel_all rfl) σ⟩
    · exact ⟨_, fun σ => sm3_5_ok.frame (bel_all rfl) σ⟩
    · exact ⟨_, fun σ => sm3_6_ok.frame (bel_all rfl) σ⟩
    · exact ⟨_, fun σ => sm3_7_ok.frame (bel_all rfl) σ⟩

abbrev px4 : AV := .agg [.pl (.int .i64 5), .pl (.int .u64 0), .pl (.int .u64 0), .pl (.int .u64 0), .pl (.int .u64 0), .sl 6 [.agg [.pl (.int .i64 1), .pl (.int .u64 18446744073709551615), .pl (.int .u64 18446744073709551615), .pl (.int .u64 18446744073709551615), .pl (.int .u64 18446744073709551615), .nils]]]
abbrev st4 : AV := .sl 7 [.agg [.pl (.int .i64 1), .pl (.int .u64 18446744073709551615), .pl (.int .u64 18446744073709551615), .pl (.int .u64 18446744073709551615), .pl (.int .u64 18446744073709551615), .pl (.int .i64 0), .pl (.int .i64 0)], .agg [.pl (.int .i64 2), .pl (.int .u64 0), .pl (.int .u64 0), .pl (.int .u64 0), .pl (.int .u64 0), .pl (.int .i64 0), .pl (.int .i64 2)], .agg [.pl (.int .i64 4), .pl (.int .u64 0), .pl (.int .u64 0), .pl (.int .u64 0), .pl (.int .u64 0), .pl (.int .i64 0), .pl (.int .i64 0)]]
theorem pat4 : PatOK ⟨#[46, 43]⟩ st4 true := by
  have hp : ∀ σ, Ans Try.prog 53 [Sx ⟨#[46, 43]⟩] σ (.tup [px4, Bo true]) σ := fun σ => pp4_ok.frame (bel_all rfl) σ
  have hm : ∀ σ, Ans Try.prog 90 [px4] σ (.tup [st4, Bo true]) σ := fun σ => mk4_ok.frame (bel_all rfl) σ
  refine ⟨fun σ k nm => ?_, fun σ nm hn => ?_, fun σ nm hn => ?_, fun hok v hv => ?_⟩
  · refine Ans.of_run t49 ?_
    simp -implicitDefEqProofs only [c49, r49, go_sem, List.reduceReplicate, Nat.reduceAdd, Nat.reduceSub, Nat.reduceLT, Nat.reduceLeDiff, Nat.reduceMul, Nat.reduceEqDiff, reduceCtorEq, Int.reduceLE, Int.reduceLT, Int.reduceEq, Int.reduceNe, Int.reduceBEq, Int.reduceBNe, Int.reduceAdd, Int.reduceSub]
    refine CO.intro (hp σ) ?_
    simp -implicitDefEqProofs only [go_sem, List.reduceReplicate, Nat.reduceAdd, Nat.reduceSub, Nat.reduceLT, Nat.reduceLeDiff, Nat.reduceMul, Nat.reduceEqDiff, reduceCtorEq, Int.reduceLE, Int.reduceLT, Int.reduceEq, Int.reduceNe, Int.reduceBEq, Int.reduceBNe, Int.reduceAdd, Int.reduceSub]
    refine CO.intro (hm σ) ?_
    simp -implicitDefEqProofs only [go_sem, List.reduceReplicate, Nat.reduceAdd, Nat.reduceSub, Nat.reduceLT, Nat.reduceLeDiff, Nat.reduceMul, Nat.reduceEqDiff, reduceCtorEq, Int.reduceLE, Int.reduceLT, Int.reduceEq, Int.reduceNe, Int.reduceBEq, Int.reduceBNe, Int.reduceAdd, Int.reduceSub]
    exact Fini.ret rfl
  · refine Ans.of_run t16 ?_
    simp -implicitDefEqProofs only [c16, r16, go_sem, List.reduceReplicate, Nat.reduceAdd, Nat.reduceSub, Nat.reduceLT, Nat.reduceLeDiff, Nat.reduceMul, Nat.reduceEqDiff, reduceCtorEq, Int.reduceLE, Int.reduceLT, Int.reduceEq, Int.reduceNe, Int.reduceBEq, Int.reduceBNe, Int.reduceAdd, Int.reduceSub]
    refine CO.intro (pname_ans σ nm hn) ?_
    simp -implicitDefEqProofs only [go_sem, List.reduceReplicate, Nat.reduceAdd, Nat.reduceSub, Nat.reduceLT, Nat.reduceLeDiff, Nat.reduceMul, Nat.reduceEqDiff, reduceCtorEq, Int.reduceLE, Int.reduceLT, Int.reduceEq, Int.reduceNe, Int.reduceBEq, Int.reduceBNe, Int.reduceAdd, Int.reduceSub]
    refine CO.intro (like_ans σ 3 nm _) ?_
    simp -implicitDefEqProofs only [go_sem, List.reduceReplicate, Nat.reduceAdd, Nat.reduceSub, Nat.reduceLT, Nat.reduceLeDiff, Nat.reduceMul, Nat.reduceEqDiff, reduceCtorEq, Int.reduceLE, Int.reduceLT, Int.reduceEq, Int.reduceNe, Int.reduceBEq, Int.reduceBNe, Int.reduceAdd, Int.reduceSub, Bool.true_or, Bool.or_true]
    refine CO.intro (hp σ) ?_
    simp -implicitDefEqProofs only [go_sem, List.reduceReplicate, Nat.reduceAdd, Nat.reduceSub, Nat.reduceLT, Nat.reduceLeDiff, Nat.reduceMul, Nat.reduceEqDiff, reduceCtorEq, Int.reduceLE, Int.reduceLT, Int.reduceEq, Int.reduceNe, Int.reduceBEq, Int.reduceBNe, Int.reduceAdd, Int.reduceSub]
    exact Fini.ret rfl
  · refine Ans.of_run t16 ?_
    simp -implicitDefEqProofs only [c16, r16, go_sem, List.reduceReplicate, Nat.reduceAdd, Nat.reduceSub, Nat.reduceLT, Nat.reduceLeDiff, Nat.reduceMul, Nat.reduceEqDiff, reduceCtorEq, Int.reduceLE, Int.reduceLT, Int.reduceEq, Int.reduceNe, Int.reduceBEq, Int.reduceBNe, Int.reduceAdd, Int.reduceSub]
    refine CO.intro (pname_ans σ nm hn) ?_
    simp -implicitDefEqProofs only [go_sem, List.reduceReplicate, Nat.reduceAdd, Nat.reduceSub, Nat.reduceLT, Nat.reduceLeDiff, Nat.reduceMul, Nat.reduceEqDiff, reduceCtorEq, Int.reduceLE, Int.reduceLT, Int.reduceEq, Int.reduceNe, Int.reduceBEq, Int.reduceBNe, Int.reduceAdd, Int.reduceSub]
    refine CO.intro (like_ans σ 4 nm _) ?_
    simp -implicitDefEqProofs only [go_sem, List.reduceReplicate, Nat.reduceAdd, Nat.reduceSub, Nat.reduceLT, Nat.reduceLeDiff, Nat.reduceMul, Nat.reduceEqDiff, reduceCtorEq, Int.reduceLE, Int.reduceLT, Int.reduceEq, Int.reduceNe, Int.reduceBEq, Int.reduceBNe, Int.reduceAdd, Int.reduceSub, Bool.true_or, Bool.or_true]
    refine CO.intro (hp σ) ?_
    simp -implicitDefEqProofs only [go_sem, List.reduceReplicate, Nat.reduceAdd, Nat.reduceSub, Nat.reduceLT, Nat.reduceLeDiff, Nat.reduceMul, Nat.reduceEqDiff, reduceCtorEq, Int.reduceLE, Int.reduceLT, Int.reduceEq, Int.reduceNe, Int.reduceBEq, Int.reduceBNe, Int.reduceAdd, Int.reduceSub]
    exact Fini.ret rfl
  · simp only [vals8, values, List.cons_append, List.nil_append, List.mem_cons, List.not_mem_nil, or_false] at hv
    rcases hv with rfl | rfl | rfl | rfl | rfl | rfl | rfl | rfl
    · exact ⟨_, fun σ => sm4_0_ok.frame (bel_all rfl) σ⟩
    · exact ⟨_, fun σ => sm4_1_ok.frame (bel_all rfl) σ⟩
    · exact ⟨_, fun σ => sm4_2_ok.frame (bel_all rfl) σ⟩
    · exact ⟨_, fun σ => sm4_3_ok.frame (bel_all rfl) σ⟩
    · exact ⟨_, fun σ => sm4_4_ok.frame (bel_all rfl) σ⟩
    · exact ⟨_, fun σ => sm4_5_ok.frame (bel_all rfl) σ⟩
    · exact ⟨_, fun σ => sm4_6_ok.frame (bel_all rfl) σ⟩
    · exact ⟨_, fun σ => sm4_7_ok.frame (bel_all rfl) σ⟩

abbrev px5 : AV := .agg [.pl (.int .i64 4), .pl (.int .u64 0), .pl (.int .u64 0), .pl (.int .u64 0), .pl (.int .u64 0), .sl 6 [.agg [.pl (.int .i64 2), .pl (.int .u64 0), .pl (.int .u64 0), .pl (.int .u64 0), .pl (.int .u64 0), .sl 6 [.agg [.pl (.int .i64 1), .pl (.int .u64 0), .pl (.int .u64 8589934592), .pl (.int .u64 0), .pl (.int .u64 0), .nils], .agg [.pl (.int .i64 1), .pl (.int .u64 0), .pl (.int .u64 17179869184), .pl (.int .u64 0), .pl (.int .u64 0), .nils]]]]]
abbrev st5 : AV := .sl 7 [.agg [.pl (.int .i64 2), .pl (.int .u64 0), .pl (.int .u64 0), .pl (.int .u64 0), .pl (.int .u64 0), .pl (.int .i64 1), .pl (.int .i64 4)], .agg [.pl (.int .i64 1), .pl (.int .u64 0), .pl (.int .u64 8589934592), .pl (.int .u64 0), .pl (.int .u64 0), .pl (.int .i64 0), .pl (.int .i64 0)], .agg [.pl (.int .i64 1), .pl (.int .u64 0), .pl (.int .u64 17179869184), .pl (.int .u64 0), .pl (.int .u64 0), .pl (.int .i64 0), .pl (.int .i64 0)], .agg [.pl (.int .i64 3), .pl (.int .u64 0), .pl (.int .u64 0), .pl (.int .u64 0), .pl (.int .u64 0), .pl (.int .i64 0), .pl (.int .i64 0)], .agg [.pl (.int .i64 4), .pl (.int .u64 0), .pl (.int .u64 0), .pl (.int .u64 0), .pl (.int .u64 0), .pl (.int .i64 0), .pl (.int .i64 0)]]
theorem pat5 : PatOK ⟨#[40, 97, 98, 41, 42]⟩ st5 true := by
  have hp : ∀ σ, Ans Try.prog 53 [Sx ⟨#[40, 97, 98, 41, 42]⟩] σ (.tup [px5, Bo true]) σ := fun σ => pp5_ok.frame (bel_all rfl) σ
  have hm : ∀ σ, Ans Try.prog 90 [px5] σ (.tup [st5, Bo true]) σ := fun σ => mk5_ok.frame (bel_all rfl) σ
  refine ⟨fun σ k nm => ?_, fun σ nm hn => ?_, fun σ nm hn => ?_, fun hok v hv => ?_⟩
  · refine Ans.of_run t49 ?_
    simp -implicitDefEqProofs only [c49, r49, go_sem, List.reduceReplicate, Nat.reduceAdd, Nat.reduceSub, Nat.reduceLT, Nat.reduceLeDiff, Nat.reduceMul, Nat.reduceEqDiff, reduceCtorEq, Int.reduceLE, Int.reduceLT, Int.reduceEq, Int.reduceNe, Int.reduceBEq, Int.reduceBNe, Int.reduceAdd, Int.reduceSub]
    refine CO.intro (hp σ) ?_
    simp -implicitDefEqProofs only [go_sem, List.reduceReplicate, Nat.reduceAdd, Nat.reduceSub, Nat.reduceLT, Nat.reduceLeDiff, Nat.reduceMul, Nat.reduceEqDiff, reduceCtorEq, Int.reduceLE, Int.reduceLT, Int.reduceEq, Int.reduceNe, Int.reduceBEq, Int.reduceBNe, Int.reduceAdd, Int.reduceSub]
    refine CO.intro (hm σ) ?_
    simp -implicitDefEqProofs only [go_sem, List.reduceReplicate, Nat.reduceAdd, Nat.reduceSub, Nat.reduceLT, Nat.reduceLeDiff, Nat.reduceMul, Nat.reduceEqDiff, reduceCtorEq, Int.reduceLE, Int.reduceLT, Int.reduceEq, Int.reduceNe, Int.reduceBEq, Int.reduceBNe, Int.reduceAdd, Int.reduceSub]
    exact Fini.ret rfl
  · refine Ans.of_run t16 ?_
    simp -implicitDefEqProofs only [c16, r16, go_sem, List.reduceReplicate, Nat.reduceAdd, Nat.reduceSub, Nat.reduceLT, Nat.reduceLeDiff, Nat.reduceMul, Nat.reduceEqDiff, reduceCtorEq, Int.reduceLE, Int.reduceLT, Int.reduceEq, Int.reduceNe, Int.reduceBEq, Int.reduceBNe, Int.reduceAdd, Int.reduceSub]
    refine CO.intro (pname_ans σ nm hn) ?_
    simp -implicitDefEqProofs only [go_sem, List.reduceReplicate, Nat.reduceAdd, Nat.reduceSub, Nat.reduceLT, Nat.reduceLeDiff, Nat.reduceMul, Nat.reduceEqDiff, reduceCtorEq, Int.reduceLE, Int.reduceLT, Int.reduceEq, Int.reduceNe, Int.reduceBEq, Int.reduceBNe, Int.reduceAdd, Int.reduceSub]
    refine CO.intro (like_ans σ 3 nm _) ?_
    simp -implicitDefEqProofs only [go_sem, List.reduceReplicate, Nat.reduceAdd, Nat.reduceSub, Nat.reduceLT, Nat.reduceLeDiff, Nat.reduceMul, Nat.reduceEqDiff, reduceCtorEq, Int.reduceLE, Int.reduceLT, Int.reduceEq, Int.reduceNe, Int.reduceBEq, Int.reduceBNe, Int.reduceAdd, Int.reduceSub, Bool.true_or, Bool.or_true]
    refine CO.intro (hp σ) ?_
    simp -implicitDefEqProofs only [go_sem, List.reduceReplicate, Nat.reduceAdd, Nat.reduceSub, Nat.reduceLT, Nat.reduceLeDiff, Nat.reduceMul, Nat.reduceEqDiff, reduceCtorEq, Int.reduceLE, Int.reduceLT, Int.reduceEq, Int.reduceNe, Int.reduceBEq, Int.reduceBNe, Int.reduceAdd, Int.reduceSub]
    exact Fini.ret rfl
  · refine Ans.of_run t16 ?_
    simp -implicitDefEqProofs only [c16, r16, go_sem, List.reduceReplicate, Nat.reduceAdd, Nat.reduceSub, Nat.reduceLT, Nat.reduceLeDiff, Nat.reduceMul, Nat.reduceEqDiff, reduceCtorEq, Int.reduceLE, Int.reduceLT, Int.reduceEq, Int.reduceNe, Int.reduceBEq, Int.reduceBNe, Int.reduceAdd, Int.reduceSub]
    refine CO.intro (pname_ans σ nm hn) ?_
    simp -implicitDefEqProofs only [go_sem, List.reduceReplicate, Nat.reduceAdd, Nat.reduceSub, Nat.reduceLT, Nat.reduceLeDiff, Nat.reduceMul, Nat.reduceEqDiff, reduceCtorEq, Int.reduceLE, Int.reduceLT, Int.reduceEq, Int.reduceNe, Int.reduceBEq, Int.reduceBNe, Int.reduceAdd, Int.reduceSub]
    refine CO.intro (like_ans σ 4 nm _) ?_
    simp -implicitDefEqProofs only [go_sem, List.reduceReplicate, Nat.reduceAdd, Nat.reduceSub, Nat.reduceLT, Nat.reduceLeDiff, Nat.reduceMul, Nat.reduceEqDiff, reduceCtorEq, Int.reduceLE, Int.reduceLT, Int.reduceEq, Int.reduceNe, Int.reduceBEq, Int.reduceBNe, Int.reduceAdd, Int.reduceSub, Bool.true_or, Bool.or_true]
    refine CO.intro (hp σ) ?_
    simp -implicitDefEqProofs only [go_sem, List.reduceReplicate, Nat.reduceAdd, Nat.reduceSub, Nat.reduceLT, Nat.reduceLeDiff, Nat.reduceMul, Nat.reduceEqDiff, reduceCtorEq, Int.reduceLE, Int.reduceLT, Int.reduceEq, Int.reduceNe, Int.reduceBEq, Int.reduceBNe, Int.reduceAdd, Int.reduceSub]
    exact Fini.ret rfl
  · simp only [vals8, values, List.cons_append, List.nil_append, List.mem_cons, List.not_mem_nil, or_false] at hv
    rcases hv with rfl | rfl | rfl | rfl | rfl | rfl | rfl | rfl
    · exact ⟨_, fun σ => sm5_0_ok.frame (bel_all rfl) σ⟩
    · exact ⟨_, fun σ => sm5_1_ok.frame (bel_all rfl) σ⟩
    · exact ⟨_, fun σ => sm5_2_ok.frame (bel_all rfl) σ⟩
    · exact ⟨_, fun σ => sm5_3_ok.frame (bel_all rfl) σ⟩
    · exact ⟨_, fun σ => sm5_4_ok.frame (bel_all rfl) σ⟩
    · exact ⟨_, fun σ => sm5_5_ok.frame (bel_all rfl) σ⟩
    · exact ⟨_, fun σ => sm5_6_ok.frame (bel_all rfl) σ⟩
    · exact ⟨_, fun σ => sm5_7_ok.frame (bel_all rfl) σ⟩

abbrev px6 : AV := .agg [.pl (.int .i64 2), .pl (.int .u64 0), .pl (.int .u64 0), .pl (.int .u64 0), .pl (.int .u64 0), .sl 6 [.agg [.pl (.int .i64 6), .pl (.int .u64 0), .pl (.int .u64 0), .pl (.int .u64 0), .pl (.int .u64 0), .sl 6 [.agg [.pl (.int .i64 1), .pl (.int .u64 0), .pl (.int .u64 8589934592), .pl (.int .u64 0), .pl (.int .u64 0), .nils]]], .agg [.pl (.int .i64 6), .pl (.int .u64 0), .pl (.int .u64 0), .pl (.int .u64 0), .pl (.int .u64 0), .sl 6 [.agg [.pl (.int .i64 1), .pl (.int .u64 0), .pl (.int .u64 17179869184), .pl (.int .u64 0), .pl (.int .u64 0), .nils]]]]]
abbrev st6 : AV := .sl 7 [.agg [.pl (.int .i64 2), .pl (.int .u64 0), .pl (.int .u64 0), .pl (.int .u64 0), .pl (.int .u64 0), .pl (.int .i64 1), .pl (.int .i64 2)], .agg [.pl (.int .i64 1), .pl (.int .u64 0), .pl (.int .u64 8589934592), .pl (.int .u64 0), .pl (.int .u64 0), .pl (.int .i64 0), .pl (.int .i64 0)], .agg [.pl (.int .i64 2), .pl (.int .u64 0), .pl (.int .u64 0), .pl (.int .u64 0), .pl (.int .u64 0), .pl (.int .i64 3), .pl (.int .i64 4)], .agg [.pl (.int .i64 1), .pl (.int .u64 0), .pl (.int .u64 17179869184), .pl (.int .u64 0), .pl (.int .u64 0), .pl (.int .i64 0), .pl (.int .i64 0)], .agg [.pl (.int .i64 4), .pl (.int .u64 0), .pl (.int .u64 0), .pl (.int .u64 0), .pl (.int .u64 0), .pl (.int .i64 0), .pl (.int .i64 0)]]
theorem pat6 : PatOK ⟨#[97, 63, 98, 63]⟩ st6 true := by
  have hp : ∀ σ, Ans Try.prog 53 [Sx ⟨#[97, 63, 98, 63]⟩] σ (.tup [px6, Bo true]) σ := fun σ => pp6_ok.frame (bel_all rfl) σ
  have hm : ∀ σ, Ans Try.prog 90 [px6] σ (.tup [st6, Bo true]) σ := fun σ => mk6_ok.frame (bel_all rfl) σ
  refine ⟨fun σ k nm => ?_, fun σ nm hn => ?_, fun σ nm hn => ?_, fun hok v hv => ?_⟩
  · refine Ans.of_run t49 ?_
    simp -implicitDefEqProofs only [c49, r49, go_sem, List.reduceReplicate, Nat.reduceAdd, Nat.reduceSub, Nat.reduceLT, Nat.reduceLeDiff, Nat.reduceMul, Nat.reduceEqDiff, reduceCtorEq, Int.reduceLE, Int.reduceLT, Int.reduceEq, Int.reduceNe, Int.reduceBEq, Int.reduceBNe, Int.reduceAdd, Int.reduceSub]
    refine CO.intro (hp σ) ?_
    simp -implicitDefEqProofs only [go_sem, List.reduceReplicate, Nat.reduceAdd, Nat.reduceSub, Nat.reduceLT, Nat.reduceLeDiff, Nat.reduceMul, Nat.reduceEqDiff, reduceCtorEq, Int.reduceLE, Int.reduceLT, Int.reduceEq, Int.reduceNe, Int.reduceBEq, Int.reduceBNe, Int.reduceAdd, Int.reduceSub]
    refine CO.intro (hm σ) ?_
    simp -implicitDefEqProofs only [go_sem, List.reduceReplicate, Nat.reduceAdd, Nat.reduceSub, Nat.reduceLT, Nat.reduceLeDiff, Nat.reduceMul, Nat.reduceEqDiff, reduceCtorEq, Int.reduceLE, Int.reduceLT, Int.reduceEq, Int.reduceNe, Int.reduceBEq, Int.reduceBNe, Int.reduceAdd, Int.reduceSub]
    exact Fini.ret rfl
  · refine Ans.of_run t16 ?_
    simp -implicitDefEqProofs only [c16, r16, go_sem, List.reduceReplicate, Nat.reduceAdd, Nat.reduceSub, Nat.reduceLT, Nat.reduceLeDiff, Nat.reduceMul, Nat.reduceEqDiff, reduceCtorEq, Int.reduceLE, Int.reduceLT, Int.reduceEq, Int.reduceNe, Int.reduceBEq, Int.reduceBNe, Int.reduceAdd, Int.reduceSub]
    refine CO.intro (pname_ans σ nm hn) ?_
    simp -implicitDefEqProofs only [go_sem, List.reduceReplicate, Nat.reduceAdd, Nat.reduceSub, Nat.reduceLT, Nat.reduceLeDiff, Nat.reduceMul, Nat.reduceEqDiff, reduceCtorEq, Int.reduceLE, Int.reduceLT, Int.reduceEq, Int.reduceNe, Int.reduceBEq, Int.reduceBNe, Int.reduceAdd, Int.reduceSub]
    refine CO.intro (like_ans σ 3 nm _) ?_
    simp -implicitDefEqProofs only [go_sem, List.reduceReplicate, Nat.reduceAdd, Nat.reduceSub, Nat.reduceLT, Nat.reduceLeDiff, Nat.reduceMul, Nat.reduceEqDiff, reduceCtorEq, Int.reduceLE, Int.reduceLT, Int.reduceEq, Int.reduceNe, Int.reduceBEq, Int.reduceBNe, Int.reduceAdd, Int.reduceSub, Bool.true_or, Bool.or_true]
    refine CO.intro (hp σ) ?_
    simp -implicitDefEqProofs only [go_sem, List.reduceReplicate, Nat.reduceAdd, Nat.reduceSub, Nat.reduceLT, Nat.reduceLeDiff, Nat.reduceMul, Nat.reduceEqDiff, reduceCtorEq, Int.reduceLE, Int.reduceLT, Int.reduceEq, Int.reduceNe, Int.reduceBEq, Int.reduceBNe, Int.reduceAdd, Int.reduceSub]
    exact Fini.ret rfl
  · refine Ans.of_run t16 ?_
    simp -implicitDefEqProofs only [c16, r16, go_sem, List.reduceReplicate, Nat.reduceAdd, Nat.reduceSub, Nat.reduceLT, Nat.reduceLeDiff, Nat.reduceMul, Nat.reduceEqDiff, reduceCtorEq, Int.reduceLE, Int.reduceLT, Int.reduceEq, Int.reduceNe, Int.reduceBEq, Int.reduceBNe, Int.reduceAdd, Int.reduceSub]
    refine CO.intro (pname_ans σ nm hn) ?_
    simp -implicitDefEqProofs only [go_sem, List.reduceReplicate, Nat.reduceAdd, Nat.reduceSub, Nat.reduceLT, Nat.reduceLeDiff, Nat.reduceMul, Nat.reduceEqDiff, reduceCtorEq, Int.reduceLE, Int.reduceLT, Int.reduceEq, Int.reduceNe, Int.reduceBEq, Int.reduceBNe, Int.reduceAdd, Int.reduceSub]
    refine CO.intro (like_ans σ 4 nm _) ?_
    simp -implicitDefEqProofs only [go_sem, List.reduceReplicate, Nat.reduceAdd, Nat.reduceSub, Nat.reduceLT, Nat.reduceLeDiff, Nat.reduceMul, Nat.reduceEqDiff, reduceCtorEq, Int.reduceLE, Int.reduceLT, Int.reduceEq, Int.reduceNe, Int.reduceBEq, Int.reduceBNe, Int.reduceAdd, Int.reduceSub, Bool.true_or, Bool.or_true]
    refine CO.intro (hp σ) ?_
    simp -implicitDefEqProofs only [go_sem, List.reduceReplicate, Nat.reduceAdd, Nat.reduceSub, Nat.reduceLT, Nat.reduceLeDiff, Nat.reduceMul, Nat.reduceEqDiff, reduceCtorEq, Int.reduceLE, Int.reduceLT, Int.reduceEq, Int.reduceNe, Int.reduceBEq, Int.reduceBNe, Int.reduceAdd, Int.reduceSub]
    exact Fini.ret rfl
  · simp only [vals8, values, List.cons_append, List.nil_append, List.mem_cons, List.not_mem_nil, or_false] at hv
    rcases hv with rfl | rfl | rfl | rfl | rfl | rfl | rfl | rfl
    · exact ⟨_, fun σ => sm6_0_ok.frame (bel_all rfl) σ⟩
    · exact ⟨_, fun σ => sm6_1_ok.frame (bel_all rfl) σ⟩
    · exact ⟨_, fun σ => sm6_2_ok.frame (bel_all rfl) σ⟩
    · exact ⟨_, fun σ => sm6_3_ok.frame (bel_all rfl) σ⟩
    · exact ⟨_, fun σ => sm6_4_ok.frame (bel_all rfl) σ⟩
    · exact ⟨_, fun σ => sm6_5_ok.frame (bel_all rfl) σ⟩
    · exact ⟨_, fun σ => sm6_6_ok.frame (bel_all rfl) σ⟩
    · exact ⟨_, fun σ => sm6_7_ok.frame (bel_all rfl) σ⟩

abbrev px7 : AV := .agg [.pl (.int .i64 4), .pl (.int .u64 0), .pl (.int .u64 0), .pl (.int .u64 0), .pl (.int .u64 0), .sl 6 [.agg [.pl (.int .i64 1), .pl (.int .u64 18446744073709551615), .pl (.int .u64 18446744065119617023), .pl (.int .u64 18446744073709551615), .pl (.int .u64 18446744073709551615), .nils]]]
abbrev st7 : AV := .sl 7 [.agg [.pl (.int .i64 2), .pl (.int .u64 0), .pl (.int .u64 0), .pl (.int .u64 0), .pl (.int .u64 0), .pl (.int .i64 1), .pl (.int .i64 3)], .agg [.pl (.int .i64 1), .pl (.int .u64 18446744073709551615), .pl (.int .u64 18446744065119617023), .pl (.int .u64 18446744073709551615), .pl (.int .u64 18446744073709551615), .pl (.int .i64 0), .pl (.int .i64 0)], .agg [.pl (.int .i64 3), .pl (.int .u64 0), .pl (.int .u64 0), .pl (.int .u64 0), .pl (.int .u64 0), .pl (.int .i64 0), .pl (.int .i64 0)], .agg [.pl (.int .i64 4), .pl (.int .u64 0), .pl (.int .u64 0), .pl (.int .u64 0), .pl (.int .u64 0), .pl (.int .i64 0), .pl (.int .i64 0)]]
theorem pat7 : PatOK ⟨#[91, 94, 97, 93, 42]⟩ st7 true := by
  have hp : ∀ σ, Ans Try.prog 53 [Sx ⟨#[91, 94, 97, 93, 42]⟩] σ (.tup [px7, Bo true]) σ := fun σ => pp7_ok.frame (bel_all rfl) σ
  have hm : ∀ σ, Ans Try.prog 90 [px7] σ (.tup [st7, Bo true]) σ := fun σ => mk7_ok.frame (bel_all rfl) σ
  refine ⟨fun σ k nm => ?_, fun σ nm hn => ?_, fun σ nm hn => ?_, fun hok v hv => ?_⟩
  · refine Ans.of_run t49 ?_
    simp -implicitDefEqProofs only [c49, r49, go_sem, List.reduceReplicate, Nat.reduceAdd, Nat.reduceSub, Nat.reduceLT, Nat.reduceLeDiff, Nat.reduceMul, Nat.reduceEqDiff, reduceCtorEq, Int.reduceLE, Int.reduceLT, Int.reduceEq, Int.reduceNe, Int.reduceBEq, Int.reduceBNe, Int.reduceAdd, Int.reduceSub]
    refine CO.intro (hp σ) ?_
    simp -implicitDefEqProofs only [go_sem, List.reduceReplicate, Nat.reduceAdd, Nat.reduceSub, Nat.reduceLT, Nat.reduceLeDiff, Nat.reduceMul, Nat.reduceEqDiff, reduceCtorEq, Int.reduceLE, Int.reduceLT, Int.reduceEq, Int.reduceNe, Int.reduceBEq, Int.reduceBNe, Int.reduceAdd, Int.reduceSub]
    refine CO.intro (hm σ) ?_
    simp -implicitDefEqProofs only [go_sem, List.reduceReplicate, Nat.reduceAdd, Nat.reduceSub, Nat.reduceLT, Nat.reduceLeDiff, Nat.reduceMul, Nat.reduceEqDiff, reduceCtorEq, Int.reduceLE, Int.reduceLT, Int.reduceEq, Int.reduceNe, Int.reduceBEq, Int.reduceBNe, Int.reduceAdd, Int.reduceSub]
    exact Fini.ret rfl
  · refine Ans.of_run t16 ?_
    simp -implicitDefEqProofs only [c16, r16, go_sem, List.reduceReplicate, Nat.reduceAdd, Nat.reduceSub, Nat.reduceLT, Nat.reduceLeDiff, Nat.reduceMul, Nat.reduceEqDiff, reduceCtorEq, Int.reduceLE, Int.reduceLT, Int.reduceEq, Int.reduceNe, Int.reduceBEq, Int.reduceBNe, Int.reduceAdd, Int.reduceSub]
    refine CO.intro (pname_ans σ nm hn) ?_
    simp -implicitDefEqProofs only [go_sem, List.reduceReplicate, Nat.reduceAdd, Nat.reduceSub, Nat.reduceLT, Nat.reduceLeDiff, Nat.reduceMul, Nat.reduceEqDiff, reduceCtorEq, Int.reduceLE, Int.reduceLT, Int.reduceEq, Int.reduceNe, Int.reduceBEq, Int.reduceBNe, Int.reduceAdd, Int.reduceSub]
    refine CO.intro (like_ans σ 3 nm _) ?_
    simp -implicitDefEqProofs only [go_sem, List.reduceReplicate, Nat.reduceAdd, Nat.reduceSub, Nat.reduceLT, Nat.reduceLeDiff, Nat.reduceMul, Nat.reduceEqDiff, reduceCtorEq, Int.reduceLE, Int.reduceLT, Int.reduceEq, Int.reduceNe, Int.reduceBEq, Int.reduceBNe, Int.reduceAdd, Int.reduceSub, Bool.true_or, Bool.or_true]
    refine CO.intro (hp σ) ?_
    simp -implicitDefEqProofs only [go_sem, List.reduceReplicate, Nat.reduceAdd, Nat.reduceSub, Nat.reduceLT, Nat.reduceLeDiff, Nat.reduceMul, Nat.reduceEqDiff, reduceCtorEq, Int.reduceLE, Int.reduceLT, Int.reduceEq, Int.reduceNe, Int.reduceBEq, Int.reduceBNe, Int.reduceAdd, Int.reduceSub]
    exact Fini.ret rfl
  · refine Ans.of_run t16 ?_
    simp -implicitDefEqProofs only [c16, r16, go_sem, List.reduceReplicate, Nat.reduceAdd, Nat.reduceSub, Nat.reduceLT, Nat.reduceLeDiff, Nat.reduceMul, Nat.reduceEqDiff, reduceCtorEq, Int.reduceLE, Int.reduceLT, Int.reduceEq, Int.reduceNe, Int.reduceBEq, Int.reduceBNe, Int.reduceAdd, Int.reduceSub]
    refine CO.intro (pname_ans σ nm hn) ?_
    simp -implicitDefEqProofs only [go_sem, List.reduceReplicate, Nat.reduceAdd, Nat.reduceSub, Nat.reduceLT, Nat.reduceLeDiff, Nat.reduceMul, Nat.reduceEqDiff, reduceCtorEq, Int.reduceLE, Int.reduceLT, Int.reduceEq, Int.reduceNe, Int.reduceBEq, Int.reduceBNe, Int.reduceAdd, Int.reduceSub]
    refine CO.intro (like_ans σ 4 nm _) ?_
    simp -implicitDefEqProofs only [go_sem, List.reduceReplicate, Nat.reduceAdd, Nat.reduceSub, Nat.reduceLT, Nat.reduceLeDiff, Nat.reduceMul, Nat.reduceEqDiff, reduceCtorEq, Int.reduceLE, Int.reduceLT, Int.reduceEq, Int.reduceNe, Int.reduceBEq, Int.reduceBNe, Int.reduceAdd, Int.reduceSub, Bool.true_or, Bool.or_true]
    refine CO.intro (hp σ) ?_
    simp -implicitDefEqProofs only [go_sem, List.reduceReplicate, Nat.reduceAdd, Nat.reduceSub, Nat.reduceLT, Nat.reduceLeDiff, Nat.reduceMul, Nat.reduceEqDiff, reduceCtorEq, Int.reduceLE, Int.reduceLT, Int.reduceEq, Int.reduceNe, Int.reduceBEq, Int.reduceBNe, Int.reduceAdd, Int.reduceSub]
    exact Fini.ret rfl
  · simp only [vals8, values, List.cons_append, List.nil_append, List.mem_cons, List.not_mem_nil, or_false] at hv
    rcases hv with rfl | rfl | rfl | rfl | rfl | rfl | rfl | rfl
    · exact ⟨_, fun σ => sm7_0_ok.frame (bel_all rfl) σ⟩
    · exact ⟨_, fun σ => sm7_1_ok.frame (bel_all rfl) σ⟩
    · exact ⟨_, fun σ => sm7_2_ok.frame (bel_all rfl) σ⟩
    · exact ⟨_, fun σ => sm7_3_ok.frame (bel_all rfl) σ⟩
    · exact ⟨_, fun σ => sm7_4_ok.frame (bel_all rfl) σ⟩
    · exact ⟨_, fun σ => sm7_5_ok.frame (bel_all rfl) σ⟩
    · exact ⟨_, fun σ => sm7_6_ok.frame (bel_all rfl) σ⟩
    · exact ⟨_, fun σ => sm7_7_ok.frame (bel_all rfl) σ⟩

abbrev px8 : AV := .agg [.pl (.int .i64 2), .pl (.int .u64 0), .pl (.int .u64 0), .pl (.int .u64 0), .pl (.int .u64 0), .sl 6 [.agg [.pl (.int .i64 4), .pl (.int .u64 0), .pl (.int .u64 0), .pl (.int .u64 0), .pl (.int .u64 0), .sl 6 [.agg [.pl (.int .i64 1), .pl (.int .u64 0), .pl (.int .u64 8589934592), .pl (.int .u64 0), .pl (.int .u64 0), .nils]]], .agg [.pl (.int .i64 4), .pl (.int .u64 0), .pl (.int .u64 0), .pl (.int .u64 0), .pl (.int .u64 0), .sl 6 [.agg [.pl (.int .i64 1), .pl (.int .u64 0), .pl (.int .u64 8589934592), .pl (.int .u64 0), .pl (.int .u64 0), .nils]]], .agg [.pl (.int .i64 4), .pl (.int .u64 0), .pl (.int .u64 0), .pl (.int .u64 0), .pl (.int .u64 0), .sl 6 [.agg [.pl (.int .i64 1), .pl (.int .u64 0), .pl (.int .u64 8589934592), .pl (.int .u64 0), .pl (.int .u64 0), .nils]]], .agg [.pl (.int .i64 4), .pl (.int .u64 0), .pl (.int .u64 0), .pl (.int .u64 0), .pl (.int .u64 0), .sl 6 [.agg [.pl (.int .i64 1), .pl (.int .u64 0), .pl (.int .u64 8589934592), .pl (.int .u64 0), .pl (.int .u64 0), .nils]]], .agg [.pl (.int .i64 4), .pl (.int .u64 0), .pl (.int .u64 0), .pl (.int .u64 0), .pl (.int .u64 0), .sl 6 [.agg [.pl (.int .i64 1), .pl (.int .u64 0), .pl (.int .u64 8589934592), .pl (.int .u64 0), .pl (.int .u64 0), .nils]]], .agg [.pl (.int .i64 4), .pl (.int .u64 0), .pl (.int .u64 0), .pl (.int .u64 0), .pl (.int .u64 0), .sl 6 [.agg [.pl (.int .i64 1), .pl (.int .u64 0), .pl (.int .u64 8589934592), .pl (.int .u64 0), .pl (.int .u64 0), .nils]]], .agg [.pl (.int .i64 4), .pl (.int .u64 0), .pl (.int .u64 0), .pl (.int .u64 0), .pl (.int .u64 0), .sl 6 [.agg [.pl (.int .i64 1), .pl (.int .u64 0), .pl (.int .u64 8589934592), .pl (.int .u64 0), .pl (.int .u64 0), .nils]]], .agg [.pl (.int .i64 4), .pl (.int .u64 0), .pl (.int .u64 0), .pl (.int .u64 0), .pl (.int .u64 0), .sl 6 [.agg [.pl (.int .i64 1), .pl (.int .u64 0), .pl (.int .u64 8589934592), .pl (.int .u64 0), .pl (.int .u64 0), .nils]]], .agg [.pl (.int .i64 4), .pl (.int .u64 0), .pl (.int .u64 0), .pl (.int .u64 0), .pl (.int .u64 0), .sl 6 [.agg [.pl (.int .i64 1), .pl (.int .u64 0), .pl (.int .u64 8589934592), .pl (.int .u64 0), .pl (.int .u64 0), .nils]]], .agg [.pl (.int .i64 4), .pl (.int .u64 0), .pl (.int .u64 0), .pl (.int .u64 0), .pl (.int .u64 0), .sl 6 [.agg [.pl (.int .i64 1), .pl (.int .u64 0), .pl (.int .u64 8589934592), .pl (.int .u64 0), .pl (.int .u64 0), .nils]]], .agg [.pl (.int .i64 4), .pl (.int .u64 0), .pl (.int .u64 0), .pl (.int .u64 0), .pl (.int .u64 0), .sl 6 [.agg [.pl (.int .i64 1), .pl (.int .u64 0), .pl (.int .u64 8589934592), .pl (.int .u64 0), .pl (.int .u64 0), .nils]]], .agg [.pl (.int .i64 4), .pl (.int .u64 0), .pl (.int .u64 0), .pl (.int .u64 0), .pl (.int .u64 0), .sl 6 [.agg [.pl (.int .i64 1), .pl (.int .u64 0), .pl (.int .u64 8589934592), .pl (.int .u64 0), .pl (.int .u64 0), .nils]]], .agg [.pl (.int .i64 4), .pl (.int .u64 0), .pl (.int .u64 0), .pl (.int .u64 0), .pl (.int .u64 0), .sl 6 [.agg [.pl (.int .i64 1), .pl (.int .u64 0), .pl (.int .u64 8589934592), .pl (.int .u64 0), .pl (.int .u64 0), .nils]]], .agg [.pl (.int .i64 4), .pl (.int .u64 0), .pl (.int .u64 0), .pl (.int .u64 0), .pl (.int .u64 0), .sl 6 [.agg [.pl (.int .i64 1), .pl (.int .u64 0), .pl (.int .u64 8589934592), .pl (.int .u64 0), .pl (.int .u64 0), .nils]]]]]
abbrev st8 : AV := .nils
theorem pat8 : PatOK ⟨#[97, 42, 97, 42, 97, 42, 97, 42, 97, 42, 97, 42, 97, 42, 97, 42, 97, 42, 97, 42, 97, 42, 97, 42, 97, 42, 97, 42]⟩ st8 false := by
  have hp : ∀ σ, Ans Try.prog 53 [Sx ⟨#[97, 42, 97, 42, 97, 42, 97, 42, 97, 42, 97, 42, 97, 42, 97, 42, 97, 42, 97, 42, 97, 42, 97, 42, 97, 42, 97, 42]⟩] σ (.tup [px8, Bo true]) σ := fun σ => pp8_ok.frame (bel_all rfl) σ
  have hm : ∀ σ, Ans Try.prog 90 [px8] σ (.tup [st8, Bo false]) σ := fun σ => mk8_ok.frame (bel_all rfl) σ
  refine ⟨fun σ k nm => ?_, fun σ nm hn => ?_, fun σ nm hn => ?_, fun hok v hv => ?_⟩
  · refine Ans.of_run t49 ?_
    simp -implicitDefEqProofs only [c49, r49, go_sem, List.reduceReplicate, Nat.reduceAdd, Nat.reduceSub, Nat.reduceLT, Nat.reduceLeDiff, Nat.reduceMul, Nat.reduceEqDiff, reduceCtorEq, Int.reduceLE, Int.reduceLT, Int.reduceEq, Int.reduceNe, Int.reduceBEq, Int.reduceBNe, Int.reduceAdd, Int.reduceSub]
    refine CO.intro (hp σ) ?_
    simp -implicitDefEqProofs only [go_sem, List.reduceReplicate, Nat.reduceAdd, Nat.reduceSub, Nat.reduceLT, Nat.reduceLeDiff, Nat.reduceMul, Nat.reduceEqDiff, reduceCtorEq, Int.reduceLE, Int.reduceLT, Int.reduceEq, Int.reduceNe, Int.reduceBEq, Int.reduceBNe, Int.reduceAdd, Int.reduceSub]
    refine CO.intro (hm σ) ?_
    simp -implicitDefEqProofs only [go_sem, List.reduceReplicate, Nat.reduceAdd, Nat.reduceSub, Nat.reduceLT, Nat.reduceLeDiff, Nat.reduceMul, Nat.reduceEqDiff, reduceCtorEq, Int.reduceLE, Int.reduceLT, Int.reduceEq, Int.reduceNe, Int.reduceBEq, Int.reduceBNe, Int.reduceAdd, Int.reduceSub]
    exact Fini.ret rfl
  · refine Ans.of_run t16 ?_
    simp -implicitDefEqProofs only [c16, r16, go_sem, List.reduceReplicate, Nat.reduceAdd, Nat.reduceSub, Nat.reduceLT, Nat.reduceLeDiff, Nat.reduceMul, Nat.reduceEqDiff, reduceCtorEq, Int.reduceLE, Int.reduceLT, Int.reduceEq, Int.reduceNe, Int.reduceBEq, Int.reduceBNe, Int.reduceAdd, Int.reduceSub]
    refine CO.intro (pname_ans σ nm hn) ?_
    simp -implicitDefEqProofs only [go_sem, List.reduceReplicate, Nat.reduceAdd, Nat.reduceSub, Nat.reduceLT, Nat.reduceLeDiff, Nat.reduceMul, Nat.reduceEqDiff, reduceCtorEq, Int.reduceLE, Int.reduceLT, Int.reduceEq, Int.reduceNe, Int.reduceBEq, Int.reduceBNe, Int.reduceAdd, Int.reduceSub]
    refine CO.intro (like_ans σ 3 nm _) ?_
    simp -implicitDefEqProofs only [go_sem, List.reduceReplicate, Nat.reduceAdd, Nat.reduceSub, Nat.reduceLT, Nat.reduceLeDiff, Nat.reduceMul, Nat.reduceEqDiff, reduceCtorEq, Int.reduceLE, Int.reduceLT, Int.reduceEq, Int.reduceNe, Int.reduceBEq, Int.reduceBNe, Int.reduceAdd, Int.reduceSub, Bool.true_or, Bool.or_true]
    refine CO.intro (hp σ) ?_
    simp -implicitDefEqProofs only [go_sem, List.reduceReplicate, Nat.reduceAdd, Nat.reduceSub, Nat.reduceLT, Nat.reduceLeDiff, Nat.reduceMul, Nat.reduceEqDiff, reduceCtorEq, Int.reduceLE, Int.reduceLT, Int.reduceEq, Int.reduceNe, Int.reduceBEq, Int.reduceBNe, Int.reduceAdd, Int.reduceSub]
    exact Fini.ret rfl
  · refine Ans.of_run t16 ?_
    simp -implicitDefEqProofs only [c16, r16, go_sem, List.reduceReplicate, Nat.reduceAdd, Nat.reduceSub, Nat.reduceLT, Nat.reduceLeDiff, Nat.reduceMul, Nat.reduceEqDiff, reduceCtorEq, Int.reduceLE, Int.reduceLT, Int.reduceEq, Int.reduceNe, Int.reduceBEq, Int.reduceBNe, Int.reduceAdd, Int.reduceSub]
    refine CO.intro (pname_ans σ nm hn) ?_
    simp -implicitDefEqProofs only [go_sem, List.reduceReplicate, Nat.reduceAdd, Nat.reduceSub, Nat.reduceLT, Nat.reduceLeDiff, Nat.reduceMul, Nat.reduceEqDiff, reduceCtorEq, Int.reduceLE, Int.reduceLT, Int.reduceEq, Int.reduceNe, Int.reduceBEq, Int.reduceBNe, Int.reduceAdd, Int.reduceSub]
    refine CO.intro (like_ans σ 4 nm _) ?_
    simp -implicitDefEqProofs only [go_sem, List.reduceReplicate, Nat.reduceAdd, Nat.reduceSub, Nat.reduceLT, Nat.reduceLeDiff, Nat.reduceMul, Nat.reduceEqDiff, reduceCtorEq, Int.reduceLE, Int.reduceLT, Int.reduceEq, Int.reduceNe, Int.reduceBEq, Int.reduceBNe, Int.reduceAdd, Int.reduceSub, Bool.true_or, Bool.or_true]
    refine CO.intro (hp σ) ?_
    simp -implicitDefEqProofs only [go_sem, List.reduceReplicate, Nat.reduceAdd, Nat.reduceSub, Nat.reduceLT, Nat.reduceLeDiff, Nat.reduceMul, Nat.reduceEqDiff, reduceCtorEq, Int.reduceLE, Int.reduceLT, Int.reduceEq, Int.reduceNe, Int.reduceBEq, Int.reduceBNe, Int.reduceAdd, Int.reduceSub]
    exact Fini.ret rfl
  · cases hok

theorem pat_ok (p : ByteArray) (h : p ∈ pats) : ∃ st ok, PatOK p st ok := by
  simp only [pats, List.mem_cons, List.not_mem_nil, or_false] at h
  rcases h with rfl | rfl | rfl | rfl | rfl | rfl | rfl | rfl | rfl
  · exact ⟨_, _, pat0⟩
  · exact ⟨_, _, pat1⟩
  · exact ⟨_, _, pat2⟩
  · exact ⟨_, _, pat3⟩
  · exact ⟨_, _, pat4⟩
  · exact ⟨_, _, pat5⟩
  · exact ⟨_, _, pat6⟩
  · exact ⟨_, _, pat7⟩
  · exact ⟨_, _, pat8⟩

theorem vals8_size (v : ByteArray) (h : v ∈ vals8) : v.size ≤ 24 := by
  rcases List.mem_append.1 h with h | h
  · exact (values_size v h).2
  · simp only [List.mem_cons, List.not_mem_nil, or_false] at h
    subst h; decide
section
variable (σ : St) (nm v : ByteArray)
theorem is1_ans (hn : nm ∈ names) (hv : v ∈ vals8) : Ans Try.prog 16 [mat 1 nm v] σ (Bo true) σ := by
  have d1 : decide (((v.size : Nat) : Int) ≤ 24) = true := by have := vals8_size v hv; simp; omega
  refine Ans.of_run t16 ?_
  simp -implicitDefEqProofs only [c16, r16, go_sem, List.reduceReplicate, Nat.reduceAdd, Nat.reduceSub, Nat.reduceLT, Nat.reduceLeDiff, Nat.reduceMul, Nat.reduceEqDiff, reduceCtorEq, Int.reduceLE, Int.reduceLT, Int.reduceEq, Int.reduceNe, Int.reduceBEq, Int.reduceBNe, Int.reduceAdd, Int.reduceSub]
  refine CO.intro (pname_ans σ nm hn) ?_
  simp -implicitDefEqProofs only [go_sem, List.reduceReplicate, Nat.reduceAdd, Nat.reduceSub, Nat.reduceLT, Nat.reduceLeDiff, Nat.reduceMul, Nat.reduceEqDiff, reduceCtorEq, Int.reduceLE, Int.reduceLT, Int.reduceEq, Int.reduceNe, Int.reduceBEq, Int.reduceBNe, Int.reduceAdd, Int.reduceSub]
  refine CO.intro (like_ans σ 1 nm _) ?_
  simp -implicitDefEqProofs only [go_sem, List.reduceReplicate, Nat.reduceAdd, Nat.reduceSub, Nat.reduceLT, Nat.reduceLeDiff, Nat.reduceMul, Nat.reduceEqDiff, reduceCtorEq, Int.reduceLE, Int.reduceLT, Int.reduceEq, Int.reduceNe, Int.reduceBEq, Int.reduceBNe, Int.reduceAdd, Int.reduceSub, d1, Bool.or_self]
  exact Fini.ret rfl
theorem is2_ans (hn : nm ∈ names) (hv : v ∈ vals8) : Ans Try.prog 16 [mat 2 nm v] σ (Bo true) σ := by
  have d1 : decide (((v.size : Nat) : Int) ≤ 24) = true := by have := vals8_size v hv; simp; omega
  refine Ans.of_run t16 ?_
  simp -implicitDefEqProofs only [c16, r16, go_sem, List.reduceReplicate, Nat.reduceAdd, Nat.reduceSub, Nat.reduceLT, Nat.reduceLeDiff, Nat.reduceMul, Nat.reduceEqDiff, reduceCtorEq, Int.reduceLE, Int.reduceLT, Int.reduceEq, Int.reduceNe, Int.reduceBEq, Int.reduceBNe, Int.reduceAdd, Int.reduceSub]
  refine CO.intro (pname_ans σ nm hn) ?_
  simp -implicitDefEqProofs only [go_sem, List.reduceReplicate, Nat.reduceAdd, Nat.reduceSub, Nat.reduceLT, Nat.reduceLeDiff, Nat.reduceMul, Nat.reduceEqDiff, reduceCtorEq, Int.reduceLE, Int.reduceLT, Int.reduceEq, Int.reduceNe, Int.reduceBEq, Int.reduceBNe, Int.reduceAdd, Int.reduceSub]
  refine CO.intro (like_ans σ 2 nm _) ?_
  simp -implicitDefEqProofs only [go_sem, List.reduceReplicate, Nat.reduceAdd, Nat.reduceSub, Nat.reduceLT, Nat.reduceLeDiff, Nat.reduceMul, Nat.reduceEqDiff, reduceCtorEq, Int.reduceLE, Int.reduceLT, Int.reduceEq, Int.reduceNe, Int.reduceBEq, Int.reduceBNe, Int.reduceAdd, Int.reduceSub, d1, Bool.or_self]
  exact Fini.ret rfl
theorem large1_ans : Ans Try.prog 18 [mat 1 nm v] σ (Bo false) σ := by
  refine Ans.of_run t18 ?_
  simp -implicitDefEqProofs only [c18, r18, go_sem, List.reduceReplicate, Nat.reduceAdd, Nat.reduceSub, Nat.reduceLT, Nat.reduceLeDiff, Nat.reduceMul, Nat.reduceEqDiff, reduceCtorEq, Int.reduceLE, Int.reduceLT, Int.reduceEq, Int.reduceNe, Int.reduceBEq, Int.reduceBNe, Int.reduceAdd, Int.reduceSub]
  refine CO.intro (like_ans σ 1 nm _) ?_
  simp -implicitDefEqProofs only [go_sem, List.reduceReplicate, Nat.reduceAdd, Nat.reduceSub, Nat.reduceLT, Nat.reduceLeDiff, Nat.reduceMul, Nat.reduceEqDiff, reduceCtorEq, Int.reduceLE, Int.reduceLT, Int.reduceEq, Int.reduceNe, Int.reduceBEq, Int.reduceBNe, Int.reduceAdd, Int.reduceSub, Bool.or_self]
  exact Fini.ret rfl
theorem large2_ans : Ans Try.prog 18 [mat 2 nm v] σ (Bo false) σ := by
  refine Ans.of_run t18 ?_
  simp -implicitDefEqProofs only [c18, r18, go_sem, List.reduceReplicate, Nat.reduceAdd, Nat.reduceSub, Nat.reduceLT, Nat.reduceLeDiff, Nat.reduceMul, Nat.reduceEqDiff, reduceCtorEq, Int.reduceLE, Int.reduceLT, Int.reduceEq, Int.reduceNe, Int.reduceBEq, Int.reduceBNe, Int.reduceAdd, Int.reduceSub]
  refine CO.intro (like_ans σ 2 nm _) ?_
  simp -implicitDefEqProofs only [go_sem, List.reduceReplicate, Nat.reduceAdd, Nat.reduceSub, Nat.reduceLT, Nat.reduceLeDiff, Nat.reduceMul, Nat.reduceEqDiff, reduceCtorEq, Int.reduceLE, Int.reduceLT, Int.reduceEq, Int.reduceNe, Int.reduceBEq, Int.reduceBNe, Int.reduceAdd, Int.reduceSub, Bool.or_self]
  exact Fini.ret rfl
theorem large3_ans {st : AV} {ok : Bool} (h : PatOK v st ok) (hn : nm ∈ names) : Ans Try.prog 18 [mat 3 nm v] σ (Bo (!ok)) σ := by
  refine Ans.of_run t18 ?_
  simp -implicitDefEqProofs only [c18, r18, go_sem, List.reduceReplicate, Nat.reduceAdd, Nat.reduceSub, Nat.reduceLT, Nat.reduceLeDiff, Nat.reduceMul, Nat.reduceEqDiff, reduceCtorEq, Int.reduceLE, Int.reduceLT, Int.reduceEq, Int.reduceNe, Int.reduceBEq, Int.reduceBNe, Int.reduceAdd, Int.reduceSub]
  refine CO.intro (like_ans σ 3 nm _) ?_
  simp -implicitDefEqProofs only [go_sem, List.reduceReplicate, Nat.reduceAdd, Nat.reduceSub, Nat.reduceLT, Nat.reduceLeDiff, Nat.reduceMul, Nat.reduceEqDiff, reduceCtorEq, Int.reduceLE, Int.reduceLT, Int.reduceEq, Int.reduceNe, Int.reduceBEq, Int.reduceBNe, Int.reduceAdd, Int.reduceSub, Bool.true_or, Bool.or_true]
  refine CO.intro (h.is3 σ nm hn) ?_
  simp -implicitDefEqProofs only [go_sem, List.reduceReplicate, Nat.reduceAdd, Nat.reduceSub, Nat.reduceLT, Nat.reduceLeDiff, Nat.reduceMul, Nat.reduceEqDiff, reduceCtorEq, Int.reduceLE, Int.reduceLT, Int.reduceEq, Int.reduceNe, Int.reduceBEq, Int.reduceBNe, Int.reduceAdd, Int.reduceSub]
  refine CO.intro (h.prog σ 3 nm) ?_
  simp -implicitDefEqProofs only [go_sem, List.reduceReplicate, Nat.reduceAdd, Nat.reduceSub, Nat.reduceLT, Nat.reduceLeDiff, Nat.reduceMul, Nat.reduceEqDiff, reduceCtorEq, Int.reduceLE, Int.reduceLT, Int.reduceEq, Int.reduceNe, Int.reduceBEq, Int.reduceBNe, Int.reduceAdd, Int.reduceSub]
  exact Fini.ret rfl
theorem large4_ans {st : AV} {ok : Bool} (h : PatOK v st ok) (hn : nm ∈ names) : Ans Try.prog 18 [mat 4 nm v] σ (Bo (!ok)) σ := by
  refine Ans.of_run t18 ?_
  simp -implicitDefEqProofs only [c18, r18, go_sem, List.reduceReplicate, Nat.reduceAdd, Nat.reduceSub, Nat.reduceLT, Nat.reduceLeDiff, Nat.reduceMul, Nat.reduceEqDiff, reduceCtorEq, Int.reduceLE, Int.reduceLT, Int.reduceEq, Int.reduceNe, Int.reduceBEq, Int.reduceBNe, Int.reduceAdd, Int.reduceSub]
  refine CO.intro (like_ans σ 4 nm _) ?_
  simp -implicitDefEqProofs only [go_sem, List.reduceReplicate, Nat.reduceAdd, Nat.reduceSub, Nat.reduceLT, Nat.reduceLeDiff, Nat.reduceMul, Nat.reduceEqDiff, reduceCtorEq, Int.reduceLE, Int.reduceLT, Int.reduceEq, Int.reduceNe, Int.reduceBEq, Int.reduceBNe, Int.reduceAdd, Int.reduceSub, Bool.true_or, Bool.or_true]
  refine CO.intro (h.is4 σ nm hn) ?_
  simp -implicitDefEqProofs only [go_sem, List.reduceReplicate, Nat.reduceAdd, Nat.reduceSub, Nat.reduceLT, Nat.reduceLeDiff, Nat.reduceMul, Nat.reduceEqDiff, reduceCtorEq, Int.reduceLE, Int.reduceLT, Int.reduceEq, Int.reduceNe, Int.reduceBEq, Int.reduceBNe, Int.reduceAdd, Int.reduceSub]
  refine CO.intro (h.prog σ 4 nm) ?_
  simp -implicitDefEqProofs only [go_sem, List.reduceReplicate, Nat.reduceAdd, Nat.reduceSub, Nat.reduceLT, Nat.reduceLeDiff, Nat.reduceMul, Nat.reduceEqDiff, reduceCtorEq, Int.reduceLE, Int.reduceLT, Int.reduceEq, Int.reduceNe, Int.reduceBEq, Int.reduceBNe, Int.reduceAdd, Int.reduceSub]
  exact Fini.ret rfl
theorem holds1_ans (x : AV) (w : ByteArray) (hg : ∀ σ, Ans Try.prog 48 [x, Sx nm] σ (Sx w) σ) (hn : nm ∈ names) (hv : v ∈ vals8) : Ans Try.prog 15 [mat 1 nm v, x] σ (Bo (w.toList == v.toList)) σ := by
  refine Ans.of_run t15 ?_
  simp -implicitDefEqProofs only [c15, r15, go_sem, List.reduceReplicate, Nat.reduceAdd, Nat.reduceSub, Nat.reduceLT, Nat.reduceLeDiff, Nat.reduceMul, Nat.reduceEqDiff, reduceCtorEq, Int.reduceLE, Int.reduceLT, Int.reduceEq, Int.reduceNe, Int.reduceBEq, Int.reduceBNe, Int.reduceAdd, Int.reduceSub]
  refine CO.intro (is1_ans σ nm v hn hv) ?_
  simp -implicitDefEqProofs only [go_sem, List.reduceReplicate, Nat.reduceAdd, Nat.reduceSub, Nat.reduceLT, Nat.reduceLeDiff, Nat.reduceMul, Nat.reduceEqDiff, reduceCtorEq, Int.reduceLE, Int.reduceLT, Int.reduceEq, Int.reduceNe, Int.reduceBEq, Int.reduceBNe, Int.reduceAdd, Int.reduceSub]
  refine CO.intro (hg σ) ?_
  simp -implicitDefEqProofs only [go_sem, List.reduceReplicate, Nat.reduceAdd, Nat.reduceSub, Nat.reduceLT, Nat.reduceLeDiff, Nat.reduceMul, Nat.reduceEqDiff, reduceCtorEq, Int.reduceLE, Int.reduceLT, Int.reduceEq, Int.reduceNe, Int.reduceBEq, Int.reduceBNe, Int.reduceAdd, Int.reduceSub]
  exact Fini.ret rfl
theorem holds2_ans (x : AV) (w : ByteArray) (hg : ∀ σ, Ans Try.prog 48 [x, Sx nm] σ (Sx w) σ) (hn : nm ∈ names) (hv : v ∈ vals8) : Ans Try.prog 15 [mat 2 nm v, x] σ (Bo (!(w.toList == v.toList))) σ := by
  refine Ans.of_run t15 ?_
  simp -implicitDefEqProofs only [c15, r15, go_sem, List.reduceReplicate, Nat.reduceAdd, Nat.reduceSub, Nat.reduceLT, Nat.reduceLeDiff, Nat.reduceMul, Nat.reduceEqDiff, reduceCtorEq, Int.reduceLE, Int.reduceLT, Int.reduceEq, Int.reduceNe, Int.reduceBEq, Int.reduceBNe, Int.reduceAdd, Int.reduceSub]
  refine CO.intro (is2_ans σ nm v hn hv) ?_
  simp -implicitDefEqProofs only [go_sem, List.reduceReplicate, Nat.reduceAdd, Nat.reduceSub, Nat.reduceLT, Nat.reduceLeDiff, Nat.reduceMul, Nat.reduceEqDiff, reduceCtorEq, Int.reduceLE, Int.reduceLT, Int.reduceEq, Int.reduceNe, Int.reduceBEq, Int.reduceBNe, Int.reduceAdd, Int.reduceSub]
  refine CO.intro (hg σ) ?_
  simp -implicitDefEqProofs only [go_sem, List.reduceReplicate, Nat.reduceAdd, Nat.reduceSub, Nat.reduceLT, Nat.reduceLeDiff, Nat.reduceMul, Nat.reduceEqDiff, reduceCtorEq, Int.reduceLE, Int.reduceLT, Int.reduceEq, Int.reduceNe, Int.reduceBEq, Int.reduceBNe, Int.reduceAdd, Int.reduceSub]
  exact Fini.ret rfl
theorem holds3_ans {st : AV} {ok b : Bool} (h : PatOK v st ok) (x : AV) (w : ByteArray) (hg : ∀ σ, Ans Try.prog 48 [x, Sx nm] σ (Sx w) σ) (hn : nm ∈ names) (hb : ok = true → ∀ σ, Ans Try.prog 50 [st, Sx w] σ (Bo b) σ) : Ans Try.prog 15 [mat 3 nm v, x] σ (Bo (ok && b)) σ := by
  refine Ans.of_run t15 ?_
  simp -implicitDefEqProofs only [c15, r15, go_sem, List.reduceReplicate, Nat.reduceAdd, Nat.reduceSub, Nat.reduceLT, Nat.reduceLeDiff, Nat.reduceMul, Nat.reduceEqDiff, reduceCtorEq, Int.reduceLE, Int.reduceLT, Int.reduceEq, Int.reduceNe, Int.reduceBEq, Int.reduceBNe, Int.reduceAdd, Int.reduceSub]
  refine CO.intro (h.is3 σ nm hn) ?_
  simp -implicitDefEqProofs only [go_sem, List.reduceReplicate, Nat.reduceAdd, Nat.reduceSub, Nat.reduceLT, Nat.reduceLeDiff, Nat.reduceMul, Nat.reduceEqDiff, reduceCtorEq, Int.reduceLE, Int.reduceLT, Int.reduceEq, Int.reduceNe, Int.reduceBEq, Int.reduceBNe, Int.reduceAdd, Int.reduceSub]
  refine CO.intro (hg σ) ?_
  simp -implicitDefEqProofs only [go_sem, List.reduceReplicate, Nat.reduceAdd, Nat.reduceSub, Nat.reduceLT, Nat.reduceLeDiff, Nat.reduceMul, Nat.reduceEqDiff, reduceCtorEq, Int.reduceLE, Int.reduceLT, Int.reduceEq, Int.reduceNe, Int.reduceBEq, Int.reduceBNe, Int.reduceAdd, Int.reduceSub]
  refine CO.intro (h.prog σ 3 nm) ?_
  cases ok
  · simp -implicitDefEqProofs only [go_sem, List.reduceReplicate, Nat.reduceAdd, Nat.reduceSub, Nat.reduceLT, Nat.reduceLeDiff, Nat.reduceMul, Nat.reduceEqDiff, reduceCtorEq, Int.reduceLE, Int.reduceLT, Int.reduceEq, Int.reduceNe, Int.reduceBEq, Int.reduceBNe, Int.reduceAdd, Int.reduceSub]
    exact Fini.ret rfl
  · simp -implicitDefEqProofs only [go_sem, List.reduceReplicate, Nat.reduceAdd, Nat.reduceSub, Nat.reduceLT, Nat.reduceLeDiff, Nat.reduceMul, Nat.reduceEqDiff, reduceCtorEq, Int.reduceLE, Int.reduceLT, Int.reduceEq, Int.reduceNe, Int.reduceBEq, Int.reduceBNe, Int.reduceAdd, Int.reduceSub]
    first
    | refine CD.intro (hb rfl σ) ?_
    | refine CO.intro (hb rfl σ) ?_
    simp -implicitDefEqProofs only [go_sem, List.reduceReplicate, Nat.reduceAdd, Nat.reduceSub, Nat.reduceLT, Nat.reduceLeDiff, Nat.reduceMul, Nat.reduceEqDiff, reduceCtorEq, Int.reduceLE, Int.reduceLT, Int.reduceEq, Int.reduceNe, Int.reduceBEq, Int.reduceBNe, Int.reduceAdd, Int.reduceSub]
    exact Fini.ret rfl
theorem holds4_ans {st : AV} {ok b : Bool} (h : PatOK v st ok) (x : AV) (w : ByteArray) (hg : ∀ σ, Ans Try.prog 48 [x, Sx nm] σ (Sx w) σ) (hn : nm ∈ names) (hb : ok = true → ∀ σ, Ans Try.prog 50 [st, Sx w] σ (Bo b) σ) : Ans Try.prog 15 [mat 4 nm v, x] σ (Bo (ok && !b)) σ := by
  refine Ans.of_run t15 ?_
  simp -implicitDefEqProofs only [c15, r15, go_sem, List.reduceReplicate, Nat.reduceAdd, Nat.reduceSub, Nat.reduceLT, Nat.reduceLeDiff, Nat.reduceMul, Nat.reduceEqDiff, reduceCtorEq, Int.reduceLE, Int.reduceLT, Int.reduceEq, Int.reduceNe, Int.reduceBEq, Int.reduceBNe, Int.reduceAdd, Int.reduceSub]
  refine CO.intro (h.is4 σ nm hn) ?_
  simp -implicitDefEqProofs only [go_sem, List.reduceReplicate, Nat.reduceAdd, Nat.reduceSub, Nat.reduceLT, Nat.reduceLeDiff, Nat.reduceMul, Nat.reduceEqDiff, reduceCtorEq, Int.reduceLE, Int.reduceLT, Int.reduceEq, Int.reduceNe, Int.reduceBEq, Int.reduceBNe, Int.reduceAdd, Int.reduceSub]
  refine CO.intro (hg σ) ?_
  simp -implicitDefEqProofs only [go_sem, List.reduceReplicate, Nat.reduceAdd, Nat.reduceSub, Nat.reduceLT, Nat.reduceLeDiff, Nat.reduceMul, Nat.reduceEqDiff, reduceCtorEq, Int.reduceLE, Int.reduceLT, Int.reduceEq, Int.reduceNe, Int.reduceBEq, Int.reduceBNe, Int.reduceAdd, Int.reduceSub]
  refine CO.intro (h.prog σ 4 nm) ?_
  cases ok
  · simp -implicitDefEqProofs only [go_sem, List.reduceReplicate, Nat.reduceAdd, Nat.reduceSub, Nat.reduceLT, Nat.reduceLeDiff, Nat.reduceMul, Nat.reduceEqDiff, reduceCtorEq, Int.reduceLE, Int.reduceLT, Int.reduceEq, Int.reduceNe, Int.reduceBEq, Int.reduceBNe, Int.reduceAdd, Int.reduceSub]
    exact Fini.ret rfl
  · simp -implicitDefEqProofs only [go_sem, List.reduceReplicate, Nat.reduceAdd, Nat.reduceSub, Nat.reduceLT, Nat.reduceLeDiff, Nat.reduceMul, Nat.reduceEqDiff, reduceCtorEq, Int.reduceLE, Int.reduceLT, Int.reduceEq, Int.reduceNe, Int.reduceBEq, Int.reduceBNe, Int.reduceAdd, Int.reduceSub]
    first
    | refine CD.intro (hb rfl σ) ?_
    | refine CO.intro (hb rfl σ) ?_
    simp -implicitDefEqProofs only [go_sem, List.reduceReplicate, Nat.reduceAdd, Nat.reduceSub, Nat.reduceLT, Nat.reduceLeDiff, Nat.reduceMul, Nat.reduceEqDiff, reduceCtorEq, Int.reduceLE, Int.reduceLT, Int.reduceEq, Int.reduceNe, Int.reduceBEq, Int.reduceBNe, Int.reduceAdd, Int.reduceSub]
    cases b <;> exact Fini.ret rfl
end
end Go.Proofs.Ytoadgajhkhejiaa
