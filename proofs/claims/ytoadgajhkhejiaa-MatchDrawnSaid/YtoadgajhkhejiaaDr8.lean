/- Drawn matchers as the document has them. No condition. -/
import Derived.Test.YtoadgajhkhejiaaDr7
import Derived.Test.YtoadgajhkhejiaaMDr4
import Derived.Test.YtoadgajhkhejiaaMDr5
import Derived.Test.YtoadgajhkhejiaaMDr6
import Derived.Test.YtoadgajhkhejiaaMDr7
import Derived.Test.YtoadgajhkhejiaaMDr8
import Derived.Test.YtoadgajhkhejiaaMDr9
set_option linter.unusedSimpArgs false
set_option linter.unusedVariables false
namespace Go.Proofs.Ytoadgajhkhejiaa
open Go Go.Ab
set_option maxRecDepth 100000

theorem rlike_ans (σ : St) (k : Int) (nm v : ByteArray) : Ans Try.prog 55 [mat k nm v] σ (Bo (k == 3 || k == 4)) σ := by
  refine Ans.of_run t55 ?_
  simp -implicitDefEqProofs only [c55, r55, go_sem, List.reduceReplicate, Nat.reduceAdd, Nat.reduceSub, Nat.reduceLT, Nat.reduceLeDiff, Nat.reduceMul, Nat.reduceEqDiff, reduceCtorEq, Int.reduceLE, Int.reduceLT, Int.reduceEq, Int.reduceNe, Int.reduceBEq, Int.reduceBNe, Int.reduceAdd, Int.reduceSub]
  cases h : k == 3
  · simp -implicitDefEqProofs only [go_sem, List.reduceReplicate, Nat.reduceAdd, Nat.reduceSub, Nat.reduceLT, Nat.reduceLeDiff, Nat.reduceMul, Nat.reduceEqDiff, reduceCtorEq, Int.reduceLE, Int.reduceLT, Int.reduceEq, Int.reduceNe, Int.reduceBEq, Int.reduceBNe, Int.reduceAdd, Int.reduceSub]
    exact Fini.ret rfl
  · simp -implicitDefEqProofs only [go_sem, List.reduceReplicate, Nat.reduceAdd, Nat.reduceSub, Nat.reduceLT, Nat.reduceLeDiff, Nat.reduceMul, Nat.reduceEqDiff, reduceCtorEq, Int.reduceLE, Int.reduceLT, Int.reduceEq, Int.reduceNe, Int.reduceBEq, Int.reduceBNe, Int.reduceAdd, Int.reduceSub]
    exact Fini.ret rfl
theorem getlabel_sl (σ : St) (L : List Lab) (nm : ByteArray) (hl : L.length ≤ 1000) : Ans Try.prog 35 [.sl 2 (lvs L), Sx nm] σ (Sx (getL L nm)) σ := by
  refine Ans.of_run t35 ?_
  simp -implicitDefEqProofs only [c35, r35, go_sem, List.reduceReplicate, Nat.reduceAdd, Nat.reduceSub, Nat.reduceLT, Nat.reduceLeDiff, Nat.reduceMul, Nat.reduceEqDiff, reduceCtorEq, Int.reduceLE, Int.reduceLT, Int.reduceEq, Int.reduceNe, Int.reduceBEq, Int.reduceBNe, Int.reduceAdd, Int.reduceSub]
  generalize hres : getL L nm = res
  refine Go.Ab.L.intro (α := { i : Nat // i ≤ L.length ∧ getL (L.drop i) nm = res }) (fun x => L.length - x.1)
    (fun x => mkE 24 [(0, .sl 2 (lvs L)), (1, Sx nm), (5, I x.1)]) (fun _ => σ) (fun x J hJ => ?_) ⟨0, Nat.zero_le _, hres⟩ rfl rfl
  obtain ⟨i, hi, hg⟩ := x
  simp only at hJ ⊢
  by_cases hlt : i < L.length
  · rw [List.drop_eq_getElem_cons hlt, getL] at hg
    have hx := lvs_get L i hlt
    cases he : L[i].1.toList == nm.toList
    · rw [he, if_neg Bool.false_ne_true] at hg
      have hJ' := hJ ⟨i + 1, hlt, hg⟩ (by simp only; omega)
      simp only at hJ'
      simp -implicitDefEqProofs only [mkE, List.foldl_cons, List.foldl_nil, go_sem, List.reduceReplicate, Nat.reduceAdd, Nat.reduceSub, Nat.reduceLT, Nat.reduceLeDiff, Nat.reduceMul, Nat.reduceEqDiff, reduceCtorEq, Int.reduceLE, Int.reduceLT, Int.reduceEq, Int.reduceNe, Int.reduceBEq, Int.reduceBNe, Int.reduceAdd, Int.reduceSub, nat_lt hlt, dec_lt hlt, hx, lvs_len, he, wrap_succ (show i ≤ 100000 by omega)]
      exact hJ'
    · rw [he, if_pos rfl] at hg
      simp -implicitDefEqProofs only [mkE, List.foldl_cons, List.foldl_nil, go_sem, List.reduceReplicate, Nat.reduceAdd, Nat.reduceSub, Nat.reduceLT, Nat.reduceLeDiff, Nat.reduceMul, Nat.reduceEqDiff, reduceCtorEq, Int.reduceLE, Int.reduceLT, Int.reduceEq, Int.reduceNe, Int.reduceBEq, Int.reduceBNe, Int.reduceAdd, Int.reduceSub, nat_lt hlt, dec_lt hlt, hx, lvs_len, he]
      rw [hg]
      exact Fini.ret rfl
  · have : i = L.length := by omega
    subst this
    rw [List.drop_length, getL] at hg
    simp -implicitDefEqProofs only [mkE, List.foldl_cons, List.foldl_nil, go_sem, List.reduceReplicate, Nat.reduceAdd, Nat.reduceSub, Nat.reduceLT, Nat.reduceLeDiff, Nat.reduceMul, Nat.reduceEqDiff, reduceCtorEq, Int.reduceLE, Int.reduceLT, Int.reduceEq, Int.reduceNe, Int.reduceBEq, Int.reduceBNe, Int.reduceAdd, Int.reduceSub, nat_nlt hlt, dec_nlt hlt, lvs_len]
    rw [← hg]
    exact Fini.ret rfl
theorem getlabel_nil (σ : St) (nm : ByteArray) : Ans Try.prog 35 [.nils, Sx nm] σ (Sx ⟨#[]⟩) σ := by
  refine Ans.of_run t35 ?_
  simp -implicitDefEqProofs only [c35, r35, go_sem, List.reduceReplicate, Nat.reduceAdd, Nat.reduceSub, Nat.reduceLT, Nat.reduceLeDiff, Nat.reduceMul, Nat.reduceEqDiff, reduceCtorEq, Int.reduceLE, Int.reduceLT, Int.reduceEq, Int.reduceNe, Int.reduceBEq, Int.reduceBNe, Int.reduceAdd, Int.reduceSub]
  refine Go.Ab.L.count 0 (fun _ => mkE 24 [(0, .nils), (1, Sx nm), (5, I 0)]) (fun _ => σ) (fun i hi => absurd hi (Nat.not_lt_zero _)) ?_ rfl rfl
  intro Q
  simp -implicitDefEqProofs only [mkE, List.foldl_cons, List.foldl_nil, go_sem, List.reduceReplicate, Nat.reduceAdd, Nat.reduceSub, Nat.reduceLT, Nat.reduceLeDiff, Nat.reduceMul, Nat.reduceEqDiff, reduceCtorEq, Int.reduceLE, Int.reduceLT, Int.reduceEq, Int.reduceNe, Int.reduceBEq, Int.reduceBNe, Int.reduceAdd, Int.reduceSub]
  exact Fini.ret rfl
theorem getv2 (ns : List Int) (nm : ByteArray) : ∃ v ∈ vals8, (∀ σ, Ans Try.prog 48 [setV (labs ns), Sx nm] σ (Sx v) σ) ∧ (∀ σ, Ans Try.prog 35 [setV (labs ns), Sx nm] σ (Sx v) σ) := by
  unfold setV
  cases hs : isSetL (setL (labs ns))
  · exact ⟨⟨#[]⟩, by simp [vals8], fun σ => get_nil σ nm, fun σ => getlabel_nil σ nm⟩
  · have hlen : (setL (labs ns)).length ≤ 1000 := by rw [setL_len]; have := labs_len ns; omega
    refine ⟨getL (setL (labs ns)) nm, ?_, fun σ => get_ans σ _ nm hlen, fun σ => getlabel_sl σ _ nm hlen⟩
    rcases getL_mem (setL (labs ns)) nm with h | ⟨x, hx, h⟩
    · rw [h]; simp [vals8]
    · rw [h]
      have := (labs_drawn ns x (setL_mem _ x hx)).2
      simp [vals8, this]

structure PatR (p st : AV) (v : ByteArray) (ok : Bool) : Prop where
  base : PatOK v st ok
  both : ∀ nm w (x : AV), nm ∈ names → w ∈ vals8 → (∀ σ, Ans Try.prog 48 [x, Sx nm] σ (Sx w) σ) → (∀ σ, Ans Try.prog 35 [x, Sx nm] σ (Sx w) σ) →
    ∃ b, ((∀ σ, Ans Try.prog 15 [mat 3 nm v, x] σ (Bo b) σ) ∧ (∀ σ, Ans Try.prog 20 [mat 3 nm v, x] σ (Bo b) σ)) ∧
      ∃ c, (∀ σ, Ans Try.prog 15 [mat 4 nm v, x] σ (Bo c) σ) ∧ (∀ σ, Ans Try.prog 20 [mat 4 nm v, x] σ (Bo c) σ)

theorem rp0_a (σ : St) : Ans Try.prog 56 [Sx ⟨#[97, 124, 98]⟩] σ (.tup [px0, Bo true]) σ := rp0_ok.frame (bel_all rfl) σ
theorem rs0_a (σ : St) : Ans Try.prog 57 [px0] σ (.pl (.int .i64 5)) σ := rs0_ok.frame (bel_all rfl) σ
theorem ri0 (k : Int) (hk : k = 3 ∨ k = 4) (σ : St) (nm : ByteArray) (hn : nm ∈ names) : Ans Try.prog 17 [mat k nm ⟨#[97, 124, 98]⟩] σ (Bo true) σ := by
  rcases hk with rfl | rfl
  all_goals (
    refine Ans.of_run t17 ?_
    simp -implicitDefEqProofs only [c17, r17, go_sem, List.reduceReplicate, Nat.reduceAdd, Nat.reduceSub, Nat.reduceLT, Nat.reduceLeDiff, Nat.reduceMul, Nat.reduceEqDiff, reduceCtorEq, Int.reduceLE, Int.reduceLT, Int.reduceEq, Int.reduceNe, Int.reduceBEq, Int.reduceBNe, Int.reduceAdd, Int.reduceSub]
    refine CO.intro (rname_ans σ nm hn) ?_
    simp -implicitDefEqProofs only [go_sem, List.reduceReplicate, Nat.reduceAdd, Nat.reduceSub, Nat.reduceLT, Nat.reduceLeDiff, Nat.reduceMul, Nat.reduceEqDiff, reduceCtorEq, Int.reduceLE, Int.reduceLT, Int.reduceEq, Int.reduceNe, Int.reduceBEq, Int.reduceBNe, Int.reduceAdd, Int.reduceSub]
    refine CO.intro (rlike_ans σ _ nm _) ?_
    simp -implicitDefEqProofs only [go_sem, List.reduceReplicate, Nat.reduceAdd, Nat.reduceSub, Nat.reduceLT, Nat.reduceLeDiff, Nat.reduceMul, Nat.reduceEqDiff, reduceCtorEq, Int.reduceLE, Int.reduceLT, Int.reduceEq, Int.reduceNe, Int.reduceBEq, Int.reduceBNe, Int.reduceAdd, Int.reduceSub, Bool.true_or, Bool.or_true]
    refine CO.intro (rp0_a σ) ?_
    simp -implicitDefEqProofs only [go_sem, List.reduceReplicate, Nat.reduceAdd, Nat.reduceSub, Nat.reduceLT, Nat.reduceLeDiff, Nat.reduceMul, Nat.reduceEqDiff, reduceCtorEq, Int.reduceLE, Int.reduceLT, Int.reduceEq, Int.reduceNe, Int.reduceBEq, Int.reduceBNe, Int.reduceAdd, Int.reduceSub]
    exact Fini.ret rfl)
theorem rl0 (k : Int) (hk : k = 3 ∨ k = 4) (σ : St) (nm : ByteArray) (hn : nm ∈ names) : Ans Try.prog 19 [mat k nm ⟨#[97, 124, 98]⟩] σ (Bo false) σ := by
  have hi := ri0 k hk σ nm hn
  rcases hk with rfl | rfl
  all_goals (
    refine Ans.of_run t19 ?_
    simp -implicitDefEqProofs only [c19, r19, go_sem, List.reduceReplicate, Nat.reduceAdd, Nat.reduceSub, Nat.reduceLT, Nat.reduceLeDiff, Nat.reduceMul, Nat.reduceEqDiff, reduceCtorEq, Int.reduceLE, Int.reduceLT, Int.reduceEq, Int.reduceNe, Int.reduceBEq, Int.reduceBNe, Int.reduceAdd, Int.reduceSub]
    refine CO.intro hi ?_
    simp -implicitDefEqProofs only [go_sem, List.reduceReplicate, Nat.reduceAdd, Nat.reduceSub, Nat.reduceLT, Nat.reduceLeDiff, Nat.reduceMul, Nat.reduceEqDiff, reduceCtorEq, Int.reduceLE, Int.reduceLT, Int.reduceEq, Int.reduceNe, Int.reduceBEq, Int.reduceBNe, Int.reduceAdd, Int.reduceSub]
    refine CO.intro (rlike_ans σ _ nm _) ?_
    simp -implicitDefEqProofs only [go_sem, List.reduceReplicate, Nat.reduceAdd, Nat.reduceSub, Nat.reduceLT, Nat.reduceLeDiff, Nat.reduceMul, Nat.reduceEqDiff, reduceCtorEq, Int.reduceLE, Int.reduceLT, Int.reduceEq, Int.reduceNe, Int.reduceBEq, Int.reduceBNe, Int.reduceAdd, Int.reduceSub, Bool.true_or, Bool.or_true]
    refine CO.intro (rp0_a σ) ?_
    simp -implicitDefEqProofs only [go_sem, List.reduceReplicate, Nat.reduceAdd, Nat.reduceSub, Nat.reduceLT, Nat.reduceLeDiff, Nat.reduceMul, Nat.reduceEqDiff, reduceCtorEq, Int.reduceLE, Int.reduceLT, Int.reduceEq, Int.reduceNe, Int.reduceBEq, Int.reduceBNe, Int.reduceAdd, Int.reduceSub]
    refine CO.intro (rs0_a σ) ?_
    simp -implicitDefEqProofs only [go_sem, List.reduceReplicate, Nat.reduceAdd, Nat.reduceSub, Nat.reduceLT, Nat.reduceLeDiff, Nat.reduceMul, Nat.reduceEqDiff, reduceCtorEq, Int.reduceLE, Int.reduceLT, Int.reduceEq, Int.reduceNe, Int.reduceBEq, Int.reduceBNe, Int.reduceAdd, Int.reduceSub]
    exact Fini.ret rfl)
theorem rh0 (k : Int) (hk : k = 3 ∨ k = 4) (nm w : ByteArray) (x : AV) (b : Bool) (hn : nm ∈ names) (hg : ∀ σ, Ans Try.prog 35 [x, Sx nm] σ (Sx w) σ) (hb : ∀ σ, Ans Try.prog 58 [px0, Sx w] σ (Bo b) σ) (σ : St) :
    Ans Try.prog 20 [mat k nm ⟨#[97, 124, 98]⟩, x] σ (Bo (b == (k == 3))) σ := by
  have hi := ri0 k hk
  have hl := rl0 k hk
  rcases hk with rfl | rfl
  all_goals (
    refine Ans.of_run t20 ?_
    simp -implicitDefEqProofs only [c20, r20, go_sem, List.reduceReplicate, Nat.reduceAdd, Nat.reduceSub, Nat.reduceLT, Nat.reduceLeDiff, Nat.reduceMul, Nat.reduceEqDiff, reduceCtorEq, Int.reduceLE, Int.reduceLT, Int.reduceEq, Int.reduceNe, Int.reduceBEq, Int.reduceBNe, Int.reduceAdd, Int.reduceSub]
    refine CO.intro (hi σ nm hn) ?_
    simp -implicitDefEqProofs only [go_sem, List.reduceReplicate, Nat.reduceAdd, Nat.reduceSub, Nat.reduceLT, Nat.reduceLeDiff, Nat.reduceMul, Nat.reduceEqDiff, reduceCtorEq, Int.reduceLE, Int.reduceLT, Int.reduceEq, Int.reduceNe, Int.reduceBEq, Int.reduceBNe, Int.reduceAdd, Int.reduceSub]
    refine CO.intro (hl σ nm hn) ?_
    simp -implicitDefEqProofs only [go_sem, List.reduceReplicate, Nat.reduceAdd, Nat.reduceSub, Nat.reduceLT, Nat.reduceLeDiff, Nat.reduceMul, Nat.reduceEqDiff, reduceCtorEq, Int.reduceLE, Int.reduceLT, Int.reduceEq, Int.reduceNe, Int.reduceBEq, Int.reduceBNe, Int.reduceAdd, Int.reduceSub]
    refine CO.intro (hg σ) ?_
    simp -implicitDefEqProofs only [go_sem, List.reduceReplicate, Nat.reduceAdd, Nat.reduceSub, Nat.reduceLT, Nat.reduceLeDiff, Nat.reduceMul, Nat.reduceEqDiff, reduceCtorEq, Int.reduceLE, Int.reduceLT, Int.reduceEq, Int.reduceNe, Int.reduceBEq, Int.reduceBNe, Int.reduceAdd, Int.reduceSub]
    refine CO.intro (rp0_a σ) ?_
    simp -implicitDefEqProofs only [go_sem, List.reduceReplicate, Nat.reduceAdd, Nat.reduceSub, Nat.reduceLT, Nat.reduceLeDiff, Nat.reduceMul, Nat.reduceEqDiff, reduceCtorEq, Int.reduceLE, Int.reduceLT, Int.reduceEq, Int.reduceNe, Int.reduceBEq, Int.reduceBNe, Int.reduceAdd, Int.reduceSub, D_callS]
    first | refine CO.intro (hb _) ?_ | refine CD.intro (hb _) ?_ | refine CS.intro hb ?_
    simp -implicitDefEqProofs only [go_sem, List.reduceReplicate, Nat.reduceAdd, Nat.reduceSub, Nat.reduceLT, Nat.reduceLeDiff, Nat.reduceMul, Nat.reduceEqDiff, reduceCtorEq, Int.reduceLE, Int.reduceLT, Int.reduceEq, Int.reduceNe, Int.reduceBEq, Int.reduceBNe, Int.reduceAdd, Int.reduceSub]
    exact Fini.ret rfl)
theorem pr0 : PatR px0 st0 ⟨#[97, 124, 98]⟩ true := by
  refine ⟨pat0, fun nm w x hn hw h48 h35 => ?_⟩
  have hex : ∃ b, (∀ σ, Ans Try.prog 50 [st0, Sx w] σ (Bo b) σ) ∧ (∀ σ, Ans Try.prog 58 [px0, Sx w] σ (Bo b) σ) := by
    simp only [vals8, values, List.cons_append, List.nil_append, List.mem_cons, List.not_mem_nil, or_false] at hw
    rcases hw with rfl | rfl | rfl | rfl | rfl | rfl | rfl | rfl
    · exact ⟨_, fun σ => sm0_0_ok.frame (bel_all rfl) σ, fun σ => tk0_0_ok.frame (bel_all rfl) σ⟩
    · exact ⟨_, fun σ => sm0_1_ok.frame (bel_all rfl) σ, fun σ => tk0_1_ok.frame (bel_all rfl) σ⟩
    · exact ⟨_, fun σ => sm0_2_ok.frame (bel_all rfl) σ, fun σ => tk0_2_ok.frame (bel_all rfl) σ⟩
    · exact ⟨_, fun σ => sm0_3_ok.frame (bel_all rfl) σ, fun σ => tk0_3_ok.frame (bel_all rfl) σ⟩
    · exact ⟨_, fun σ => sm0_4_ok.frame (bel_all rfl) σ, fun σ => tk0_4_ok.frame (bel_all rfl) σ⟩
    · exact ⟨_, fun σ => sm0_5_ok.frame (bel_all rfl) σ, fun σ => tk0_5_ok.frame (bel_all rfl) σ⟩
    · exact ⟨_, fun σ => sm0_6_ok.frame (bel_all rfl) σ, fun σ => tk0_6_ok.frame (bel_all rfl) σ⟩
    · exact ⟨_, fun σ => sm0_7_ok.frame (bel_all rfl) σ, fun σ => tk0_7_ok.frame (bel_all rfl) σ⟩
  obtain ⟨b, hb1, hb2⟩ := hex
  refine ⟨b, ⟨fun σ => ?_, fun σ => ?_⟩, !b, fun σ => ?_, fun σ => ?_⟩
  · have := holds3_ans σ nm _ pat0 x w h48 hn (b := b) (fun _ => hb1)
    simpa using this
  · have := rh0 3 (.inl rfl) nm w x b hn h35 hb2 σ
    simpa using this
  · have := holds4_ans σ nm _ pat0 x w h48 hn (b := b) (fun _ => hb1)
    simpa using this
  · have := rh0 4 (.inr rfl) nm w x b hn h35 hb2 σ
    simpa using this

theorem rp1_a (σ : St) : Ans Try.prog 56 [Sx ⟨#[]⟩] σ (.tup [px1, Bo true]) σ := rp1_ok.frame (bel_all rfl) σ
theorem rs1_a (σ : St) : Ans Try.prog 57 [px1] σ (.pl (.int .i64 1)) σ := rs1_ok.frame (bel_all rfl) σ
theorem ri1 (k : Int) (hk : k = 3 ∨ k = 4) (σ : St) (nm : ByteArray) (hn : nm ∈ names) : Ans Try.prog 17 [mat k nm ⟨#[]⟩] σ (Bo true) σ := by
  rcases hk with rfl | rfl
  all_goals (
    refine Ans.of_run t17 ?_
    simp -implicitDefEqProofs only [c17, r17, go_sem, List.reduceReplicate, Nat.reduceAdd, Nat.reduceSub, Nat.reduceLT, Nat.reduceLeDiff, Nat.reduceMul, Nat.reduceEqDiff, reduceCtorEq, Int.reduceLE, Int.reduceLT, Int.reduceEq, Int.reduceNe, Int.reduceBEq, Int.reduceBNe, Int.reduceAdd, Int.reduceSub]
    refine CO.intro (rname_ans σ nm hn) ?_
    simp -implicitDefEqProofs only [go_sem, List.reduceReplicate, Nat.reduceAdd, Nat.reduceSub, Nat.reduceLT, Nat.reduceLeDiff, Nat.reduceMul, Nat.reduceEqDiff, reduceCtorEq, Int.reduceLE, Int.reduceLT, Int.reduceEq, Int.reduceNe, Int.reduceBEq, Int.reduceBNe, Int.reduceAdd, Int.reduceSub]
    refine CO.intro (rlike_ans σ _ nm _) ?_
    simp -implicitDefEqProofs only [go_sem, List.reduceReplicate, Nat.reduceAdd, Nat.reduceSub, Nat.reduceLT, Nat.reduceLeDiff, Nat.reduceMul, Nat.reduceEqDiff, reduceCtorEq, Int.reduceLE, Int.reduceLT, Int.reduceEq, Int.reduceNe, Int.reduceBEq, Int.reduceBNe, Int.reduceAdd, Int.reduceSub, Bool.true_or, Bool.or_true]
    refine CO.intro (rp1_a σ) ?_
    simp -implicitDefEqProofs only [go_sem, List.reduceReplicate, Nat.reduceAdd, Nat.reduceSub, Nat.reduceLT, Nat.reduceLeDiff, Nat.reduceMul, Nat.reduceEqDiff, reduceCtorEq, Int.reduceLE, Int.reduceLT, Int.reduceEq, Int.reduceNe, Int.reduceBEq, Int.reduceBNe, Int.reduceAdd, Int.reduceSub]
    exact Fini.ret rfl)
theorem rl1 (k : Int) (hk : k = 3 ∨ k = 4) (σ : St) (nm : ByteArray) (hn : nm ∈ names) : Ans Try.prog 19 [mat k nm ⟨#[]⟩] σ (Bo false) σ := by
  have hi := ri1 k hk σ nm hn
  rcases hk with rfl | rfl
  all_goals (
    refine Ans.of_run t19 ?_
    simp -implicitDefEqProofs only [c19, r19, go_sem, List.reduceReplicate, Nat.reduceAdd, Nat.reduceSub, Nat.reduceLT, Nat.reduceLeDiff, Nat.reduceMul, Nat.reduceEqDiff, reduceCtorEq, Int.reduceLE, Int.reduceLT, Int.reduceEq, Int.reduceNe, Int.reduceBEq, Int.reduceBNe, Int.reduceAdd, Int.reduceSub]
    refine CO.intro hi ?_
    simp -implicitDefEqProofs only [go_sem, List.reduceReplicate, Nat.reduceAdd, Nat.reduceSub, Nat.reduceLT, Nat.reduceLeDiff, Nat.reduceMul, Nat.reduceEqDiff, reduceCtorEq, Int.reduceLE, Int.reduceLT, Int.reduceEq, Int.reduceNe, Int.reduceBEq, Int.reduceBNe, Int.reduceAdd, Int.reduceSub]
    refine CO.intro (rlike_ans σ _ nm _) ?_
    simp -implicitDefEqProofs only [go_sem, List.reduceReplicate, Nat.reduceAdd, Nat.reduceSub, Nat.reduceLT, Nat.reduceLeDiff, Nat.reduceMul, Nat.reduceEqDiff, reduceCtorEq, Int.reduceLE, Int.reduceLT, Int.reduceEq, Int.reduceNe, Int.reduceBEq, Int.reduceBNe, Int.reduceAdd, Int.reduceSub, Bool.true_or, Bool.or_true]
    refine CO.intro (rp1_a σ) ?_
    simp -implicitDefEqProofs only [go_sem, List.reduceReplicate, Nat.reduceAdd, Nat.reduceSub, Nat.reduceLT, Nat.reduceLeDiff, Nat.reduceMul, Nat.reduceEqDiff, reduceCtorEq, Int.reduceLE, Int.reduceLT, Int.reduceEq, Int.reduceNe, Int.reduceBEq, Int.reduceBNe, Int.reduceAdd, Int.reduceSub]
    refine CO.intro (rs1_a σ) ?_
    simp -implicitDefEqProofs only [go_sem, List.reduceReplicate, Nat.reduceAdd, Nat.reduceSub, Nat.reduceLT, Nat.reduceLeDiff, Nat.reduceMul, Nat.reduceEqDiff, reduceCtorEq, Int.reduceLE, Int.reduceLT, Int.reduceEq, Int.reduceNe, Int.reduceBEq, Int.reduceBNe, Int.reduceAdd, Int.reduceSub]
    exact Fini.ret rfl)
theorem rh1 (k : Int) (hk : k = 3 ∨ k = 4) (nm w : ByteArray) (x : AV) (b : Bool) (hn : nm ∈ names) (hg : ∀ σ, Ans Try.prog 35 [x, Sx nm] σ (Sx w) σ) (hb : ∀ σ, Ans Try.prog 58 [px1, Sx w] σ (Bo b) σ) (σ : St) :
    Ans Try.prog 20 [mat k nm ⟨#[]⟩, x] σ (Bo (b == (k == 3))) σ := by
  have hi := ri1 k hk
  have hl := rl1 k hk
  rcases hk with rfl | rfl
  all_goals (
    refine Ans.of_run t20 ?_
    simp -implicitDefEqProofs only [c20, r20, go_sem, List.reduceReplicate, Nat.reduceAdd, Nat.reduceSub, Nat.reduceLT, Nat.reduceLeDiff, Nat.reduceMul, Nat.reduceEqDiff, reduceCtorEq, Int.reduceLE, Int.reduceLT, Int.reduceEq, Int.reduceNe, Int.reduceBEq, Int.reduceBNe, Int.reduceAdd, Int.reduceSub]
    refine CO.intro (hi σ nm hn) ?_
    simp -implicitDefEqProofs only [go_sem, List.reduceReplicate, Nat.reduceAdd, Nat.reduceSub, Nat.reduceLT, Nat.reduceLeDiff, Nat.reduceMul, Nat.reduceEqDiff, reduceCtorEq, Int.reduceLE, Int.reduceLT, Int.reduceEq, Int.reduceNe, Int.reduceBEq, Int.reduceBNe, Int.reduceAdd, Int.reduceSub]
    refine CO.intro (hl σ nm hn) ?_
    simp -implicitDefEqProofs only [go_sem, List.reduceReplicate, Nat.reduceAdd, Nat.reduceSub, Nat.reduceLT, Nat.reduceLeDiff, Nat.reduceMul, Nat.reduceEqDiff, reduceCtorEq, Int.reduceLE, Int.reduceLT, Int.reduceEq, Int.reduceNe, Int.reduceBEq, Int.reduceBNe, Int.reduceAdd, Int.reduceSub]
    refine CO.intro (hg σ) ?_
    simp -implicitDefEqProofs only [go_sem, List.reduceReplicate, Nat.reduceAdd, Nat.reduceSub, Nat.reduceLT, Nat.reduceLeDiff, Nat.reduceMul, Nat.reduceEqDiff, reduceCtorEq, Int.reduceLE, Int.reduceLT, Int.reduceEq, Int.reduceNe, Int.reduceBEq, Int.reduceBNe, Int.reduceAdd, Int.reduceSub]
    refine CO.intro (rp1_a σ) ?_
    simp -implicitDefEqProofs only [go_sem, List.reduceReplicate, Nat.reduceAdd, Nat.reduceSub, Nat.reduceLT, Nat.reduceLeDiff, Nat.reduceMul, Nat.reduceEqDiff, reduceCtorEq, Int.reduceLE, Int.reduceLT, Int.reduceEq, Int.reduceNe, Int.reduceBEq, Int.reduceBNe, Int.reduceAdd, Int.reduceSub, D_callS]
    first | refine CO.intro (hb _) ?_ | refine CD.intro (hb _) ?_ | refine CS.intro hb ?_
    simp -implicitDefEqProofs only [go_sem, List.reduceReplicate, Nat.reduceAdd, Nat.reduceSub, Nat.reduceLT, Nat.reduceLeDiff, Nat.reduceMul, Nat.reduceEqDiff, reduceCtorEq, Int.reduceLE, Int.reduceLT, Int.reduceEq, Int.reduceNe, Int.reduceBEq, Int.reduceBNe, Int.reduceAdd, Int.reduceSub]
    exact Fini.ret rfl)
theorem pr1 : PatR px1 st1 ⟨#[]⟩ true := by
  refine ⟨pat1, fun nm w x hn hw h48 h35 => ?_⟩
  have hex : ∃ b, (∀ σ, Ans Try.prog 50 [st1, Sx w] σ (Bo b) σ) ∧ (∀ σ, Ans Try.prog 58 [px1, Sx w] σ (Bo b) σ) := by
    simp only [vals8, values, List.cons_append, List.nil_append, List.mem_cons, List.not_mem_nil, or_false] at hw
    rcases hw with rfl | rfl | rfl | rfl | rfl | rfl | rfl | rfl
    · exact ⟨_, fun σ => sm1_0_ok.frame (bel_all rfl) σ, fun σ => tk1_0_ok.frame (bel_all rfl) σ⟩
    · exact ⟨_, fun σ => sm1_1_ok.frame (bel_all rfl) σ, fun σ => tk1_1_ok.frame (bel_all rfl) σ⟩
    · exact ⟨_, fun σ => sm1_2_ok.frame (bel_all rfl) σ, fun σ => tk1_2_ok.frame (bel_all rfl) σ⟩
    · exact ⟨_, fun σ => sm1_3_ok.frame (bel_all rfl) σ, fun σ => tk1_3_ok.frame (bel_all rfl) σ⟩
    · exact ⟨_, fun σ => sm1_4_ok.frame (bel_all rfl) σ, fun σ => tk1_4_ok.frame (bel_all rfl) σ⟩
    · exact ⟨_, fun σ => sm1_5_ok.frame (bel_all rfl) σ, fun σ => tk1_5_ok.frame (bel_all rfl) σ⟩
    · exact ⟨_, fun σ => sm1_6_ok.frame (bel_all rfl) σ, fun σ => tk1_6_ok.frame (bel_all rfl) σ⟩
    · exact ⟨_, fun σ => sm1_7_ok.frame (bel_all rfl) σ, fun σ => tk1_7_ok.frame (bel_all rfl) σ⟩
  obtain ⟨b, hb1, hb2⟩ := hex
  refine ⟨b, ⟨fun σ => ?_, fun σ => ?_⟩, !b, fun σ => ?_, fun σ => ?_⟩
  · have := holds3_ans σ nm _ pat1 x w h48 hn (b := b) (fun _ => hb1)
    simpa using this
  · have := rh1 3 (.inl rfl) nm w x b hn h35 hb2 σ
    simpa using this
  · have := holds4_ans σ nm _ pat1 x w h48 hn (b := b) (fun _ => hb1)
    simpa using this
  · have := rh1 4 (.inr rfl) nm w x b hn h35 hb2 σ
    simpa using this

theorem rp2_a (σ : St) : Ans Try.prog 56 [Sx ⟨#[40, 99, 114, 105, 116, 124, 119, 97, 114, 110, 41]⟩] σ (.tup [px2, Bo true]) σ := rp2_ok.frame (bel_all rfl) σ
theorem rs2_a (σ : St) : Ans Try.prog 57 [px2] σ (.pl (.int .i64 11)) σ := rs2_ok.frame (bel_all rfl) σ
theorem ri2 (k : Int) (hk : k = 3 ∨ k = 4) (σ : St) (nm : ByteArray) (hn : nm ∈ names) : Ans Try.prog 17 [mat k nm ⟨#[40, 99, 114, 105, 116, 124, 119, 97, 114, 110, 41]⟩] σ (Bo true) σ := by
  rcases hk with rfl | rfl
  all_goals (
    refine Ans.of_run t17 ?_
    simp -implicitDefEqProofs only [c17, r17, go_sem, List.reduceReplicate, Nat.reduceAdd, Nat.reduceSub, Nat.reduceLT, Nat.reduceLeDiff, Nat.reduceMul, Nat.reduceEqDiff, reduceCtorEq, Int.reduceLE, Int.reduceLT, Int.reduceEq, Int.reduceNe, Int.reduceBEq, Int.reduceBNe, Int.reduceAdd, Int.reduceSub]
    refine CO.intro (rname_ans σ nm hn) ?_
    simp -implicitDefEqProofs only [go_sem, List.reduceReplicate, Nat.reduceAdd, Nat.reduceSub, Nat.reduceLT, Nat.reduceLeDiff, Nat.reduceMul, Nat.reduceEqDiff, reduceCtorEq, Int.reduceLE, Int.reduceLT, Int.reduceEq, Int.reduceNe, Int.reduceBEq, Int.reduceBNe, Int.reduceAdd, Int.reduceSub]
    refine CO.intro (rlike_ans σ _ nm _) ?_
    simp -implicitDefEqProofs only [go_sem, List.reduceReplicate, Nat.reduceAdd, Nat.reduceSub, Nat.reduceLT, Nat.reduceLeDiff, Nat.reduceMul, Nat.reduceEqDiff, reduceCtorEq, Int.reduceLE, Int.reduceLT, Int.reduceEq, Int.reduceNe, Int.reduceBEq, Int.reduceBNe, Int.reduceAdd, Int.reduceSub, Bool.true_or, Bool.or_true]
    refine CO.intro (rp2_a σ) ?_
    simp -implicitDefEqProofs only [go_sem, List.reduceReplicate, Nat.reduceAdd, Nat.reduceSub, Nat.reduceLT, Nat.reduceLeDiff, Nat.reduceMul, Nat.reduceEqDiff, reduceCtorEq, Int.reduceLE, Int.reduceLT, Int.reduceEq, Int.reduceNe, Int.reduceBEq, Int.reduceBNe, Int.reduceAdd, Int.reduceSub]
    exact Fini.ret rfl)
theorem rl2 (k : Int) (hk : k = 3 ∨ k = 4) (σ : St) (nm : ByteArray) (hn : nm ∈ names) : Ans Try.prog 19 [mat k nm ⟨#[40, 99, 114, 105, 116, 124, 119, 97, 114, 110, 41]⟩] σ (Bo false) σ := by
  have hi := ri2 k hk σ nm hn
  rcases hk with rfl | rfl
  all_goals (
    refine Ans.of_run t19 ?_
    simp -implicitDefEqProofs only [c19, r19, go_sem, List.reduceReplicate, Nat.reduceAdd, Nat.reduceSub, Nat.reduceLT, Nat.reduceLeDiff, Nat.reduceMul, Nat.reduceEqDiff, reduceCtorEq, Int.reduceLE, Int.reduceLT, Int.reduceEq, Int.reduceNe, Int.reduceBEq, Int.reduceBNe, Int.reduceAdd, Int.reduceSub]
    refine CO.intro hi ?_
    simp -implicitDefEqProofs only [go_sem, List.reduceReplicate, Nat.reduceAdd, Nat.reduceSub, Nat.reduceLT, Nat.reduceLeDiff, Nat.reduceMul, Nat.reduceEqDiff, reduceCtorEq, Int.reduceLE, Int.reduceLT, Int.reduceEq, Int.reduceNe, Int.reduceBEq, Int.reduceBNe, Int.reduceAdd, Int.reduceSub]
    refine CO.intro (rlike_ans σ _ nm _) ?_
    simp -implicitDefEqProofs only [go_sem, List.reduceReplicate, Nat.reduceAdd, Nat.reduceSub, Nat.reduceLT, Nat.reduceLeDiff, Nat.reduceMul, Nat.reduceEqDiff, reduceCtorEq, Int.reduceLE, Int.reduceLT, Int.reduceEq, Int.reduceNe, Int.reduceBEq, Int.reduceBNe, Int.reduceAdd, Int.reduceSub, Bool.true_or, Bool.or_true]
    refine CO.intro (rp2_a σ) ?_
    simp -implicitDefEqProofs only [go_sem, List.reduceReplicate, Nat.reduceAdd, Nat.reduceSub, Nat.reduceLT, Nat.reduceLeDiff, Nat.reduceMul, Nat.reduceEqDiff, reduceCtorEq, Int.reduceLE, Int.reduceLT, Int.reduceEq, Int.reduceNe, Int.reduceBEq, Int.reduceBNe, Int.reduceAdd, Int.reduceSub]
    refine CO.intro (rs2_a σ) ?_
    simp -implicitDefEqProofs only [go_sem, List.reduceReplicate, Nat.reduceAdd, Nat.reduceSub, Nat.reduceLT, Nat.reduceLeDiff, Nat.reduceMul, Nat.reduceEqDiff, reduceCtorEq, Int.reduceLE, Int.reduceLT, Int.reduceEq, Int.reduceNe, Int.reduceBEq, Int.reduceBNe, Int.reduceAdd, Int.reduceSub]
    exact Fini.ret rfl)
theorem rh2 (k : Int) (hk : k = 3 ∨ k = 4) (nm w : ByteArray) (x : AV) (b : Bool) (hn : nm ∈ names) (hg : ∀ σ, Ans Try.prog 35 [x, Sx nm] σ (Sx w) σ) (hb : ∀ σ, Ans Try.prog 58 [px2, Sx w] σ (Bo b) σ) (σ : St) :
    Ans Try.prog 20 [mat k nm ⟨#[40, 99, 114, 105, 116, 124, 119, 97, 114, 110, 41]⟩, x] σ (Bo (b == (k == 3))) σ := by
  have hi := ri2 k hk
  have hl := rl2 k hk
  rcases hk with rfl | rfl
  all_goals (
    refine Ans.of_run t20 ?_
    simp -implicitDefEqProofs only [c20, r20, go_sem, List.reduceReplicate, Nat.reduceAdd, Nat.reduceSub, Nat.reduceLT, Nat.reduceLeDiff, Nat.reduceMul, Nat.reduceEqDiff, reduceCtorEq, Int.reduceLE, Int.reduceLT, Int.reduceEq, Int.reduceNe, Int.reduceBEq, Int.reduceBNe, Int.reduceAdd, Int.reduceSub]
    refine CO.intro (hi σ nm hn) ?_
    simp -implicitDefEqProofs only [go_sem, List.reduceReplicate, Nat.reduceAdd, Nat.reduceSub, Nat.reduceLT, Nat.reduceLeDiff, Nat.reduceMul, Nat.reduceEqDiff, reduceCtorEq, Int.reduceLE, Int.reduceLT, Int.reduceEq, Int.reduceNe, Int.reduceBEq, Int.reduceBNe, Int.reduceAdd, Int.reduceSub]
    refine CO.intro (hl σ nm hn) ?_
    simp -implicitDefEqProofs only [go_sem, List.reduceReplicate, Nat.reduceAdd, Nat.reduceSub, Nat.reduceLT, Nat.reduceLeDiff, Nat.reduceMul, Nat.reduceEqDiff, reduceCtorEq, Int.reduceLE, Int.reduceLT, Int.reduceEq, Int.reduceNe, Int.reduceBEq, Int.reduceBNe, Int.reduceAdd, Int.reduceSub]
    refine CO.intro (hg σ) ?_
    simp -implicitDefEqProofs only [go_sem, List.reduceReplicate, Nat.reduceAdd, Nat.reduceSub, Nat.reduceLT, Nat.reduceLeDiff, Nat.reduceMul, Nat.reduceEqDiff, reduceCtorEq, Int.reduceLE, Int.reduceLT, Int.reduceEq, Int.reduceNe, Int.reduceBEq, Int.reduceBNe, Int.reduceAdd, Int.reduceSub]
    refine CO.intro (rp2_a σ) ?_
    simp -implicitDefEqProofs only [go_sem, List.reduceReplicate, Nat.reduceAdd, Nat.reduceSub, Nat.reduceLT, Nat.reduceLeDiff, Nat.reduceMul, Nat.reduceEqDiff, reduceCtorEq, Int.reduceLE, Int.reduceLT, Int.reduceEq, Int.reduceNe, Int.reduceBEq, Int.reduceBNe, Int.reduceAdd, Int.reduceSub, D_callS]
    first | refine CO.intro (hb _) ?_ | refine CD.intro (hb _) ?_ | refine CS.intro hb ?_
    simp -implicitDefEqProofs only [go_sem, List.reduceReplicate, Nat.reduceAdd, Nat.reduceSub, Nat.reduceLT, Nat.reduceLeDiff, Nat.reduceMul, Nat.reduceEqDiff, reduceCtorEq, Int.reduceLE, Int.reduceLT, Int.reduceEq, Int.reduceNe, Int.reduceBEq, Int.reduceBNe, Int.reduceAdd, Int.reduceSub]
    exact Fini.ret rfl)
theorem pr2 : PatR px2 st2 ⟨#[40, 99, 114, 105, 116, 124, 119, 97, 114, 110, 41]⟩ true := by
  refine ⟨pat2, fun nm w x hn hw h48 h35 => ?_⟩
  have hex : ∃ b, (∀ σ, Ans Try.prog 50 [st2, Sx w] σ (Bo b) σ) ∧ (∀ σ, Ans Try.prog 58 [px2, Sx w] σ (Bo b) σ) := by
    simp only [vals8, values, List.cons_append, List.nil_append, List.mem_cons, List.not_mem_nil, or_false] at hw
    rcases hw with rfl | rfl | rfl | rfl | rfl | rfl | rfl | rfl
    · exact ⟨_, fun σ => sm2_0_ok.frame (bel_all rfl) σ, fun σ => tk2_0_ok.frame (bel_all rfl) σ⟩
    · exact ⟨_, fun σ => sm2_1_ok.frame (bel_all rfl) σ, fun σ => tk2_1_ok.frame (bel_all rfl) σ⟩
    · exact ⟨_, fun σ => sm2_2_ok.frame (bel_all rfl) σ, fun σ => tk2_2_ok.frame (bel_all rfl) σ⟩
    · exact ⟨_, fun σ => sm2_3_ok.frame (bel_all rfl) σ, fun σ => tk2_3_ok.frame (bel_all rfl) σ⟩
    · exact ⟨_, fun σ => sm2_4_ok.frame (bel_all rfl) σ, fun σ => tk2_4_ok.frame (bel_all rfl) σ⟩
    · exact ⟨_, fun σ => sm2_5_ok.frame (bel_all rfl) σ, fun σ => tk2_5_ok.frame (bel_all rfl) σ⟩
    · exact ⟨_, fun σ => sm2_6_ok.frame (bel_all rfl) σ, fun σ => tk2_6_ok.frame (bel_all rfl) σ⟩
    · exact ⟨_, fun σ => sm2_7_ok.frame (bel_all rfl) σ, fun σ => tk2_7_ok.frame (bel_all rfl) σ⟩
  obtain ⟨b, hb1, hb2⟩ := hex
  refine ⟨b, ⟨fun σ => ?_, fun σ => ?_⟩, !b, fun σ => ?_, fun σ => ?_⟩
  · have := holds3_ans σ nm _ pat2 x w h48 hn (b := b) (fun _ => hb1)
    simpa using this
  · have := rh2 3 (.inl rfl) nm w x b hn h35 hb2 σ
    simpa using this
  · have := holds4_ans σ nm _ pat2 x w h48 hn (b := b) (fun _ => hb1)
    simpa using this
  · have := rh2 4 (.inr rfl) nm w x b hn h35 hb2 σ
    simpa using this

theorem rp3_a (σ : St) : Ans Try.prog 56 [Sx ⟨#[91, 97, 45, 99, 93, 43, 46, 42]⟩] σ (.tup [px3, Bo true]) σ := rp3_ok.frame (bel_all rfl) σ
theorem rs3_a (σ : St) : Ans Try.prog 57 [px3] σ (.pl (.int .i64 6)) σ := rs3_ok.frame (bel_all rfl) σ
theorem ri3 (k : Int) (hk : k = 3 ∨ k = 4) (σ : St) (nm : ByteArray) (hn : nm ∈ names) : Ans Try.prog 17 [mat k nm ⟨#[91, 97, 45, 99, 93, 43, 46, 42]⟩] σ (Bo true) σ := by
  rcases hk with rfl | rfl
  all_goals (
    refine Ans.of_run t17 ?_
    simp -implicitDefEqProofs only [c17, r17, go_sem, List.reduceReplicate, Nat.reduceAdd, Nat.reduceSub, Nat.reduceLT, Nat.reduceLeDiff, Nat.reduceMul, Nat.reduceEqDiff, reduceCtorEq, Int.reduceLE, Int.reduceLT, Int.reduceEq, Int.reduceNe, Int.reduceBEq, Int.reduceBNe, Int.reduceAdd, Int.reduceSub]
    refine CO.intro (rname_ans σ nm hn) ?_
    simp -implicitDefEqProofs only [go_sem, List.reduceReplicate, Nat.reduceAdd, Nat.reduceSub, Nat.reduceLT, Nat.reduceLeDiff, Nat.reduceMul, Nat.reduceEqDiff, reduceCtorEq, Int.reduceLE, Int.reduceLT, Int.reduceEq, Int.reduceNe, Int.reduceBEq, Int.reduceBNe, Int.reduceAdd, Int.reduceSub]
    refine CO.intro (rlike_ans σ _ nm _) ?_
    simp -implicitDefEqProofs only [go_sem, List.reduceReplicate, Nat.reduceAdd, Nat.reduceSub, Nat.reduceLT, Nat.reduceLeDiff, Nat.reduceMul, Nat.reduceEqDiff, reduceCtorEq, Int.reduceLE, Int.reduceLT, Int.reduceEq, Int.reduceNe, Int.reduceBEq, Int.reduceBNe, Int.reduceAdd, Int.reduceSub, Bool.true_or, Bool.or_true]
    refine CO.intro (rp3_a σ) ?_
    simp -implicitDefEqProofs only [go_sem, List.reduceReplicate, Nat.reduceAdd, Nat.reduceSub, Nat.reduceLT, Nat.reduceLeDiff, Nat.reduceMul, Nat.reduceEqDiff, reduceCtorEq, Int.reduceLE, Int.reduceLT, Int.reduceEq, Int.reduceNe, Int.reduceBEq, Int.reduceBNe, Int.reduceAdd, Int.reduceSub]
    exact Fini.ret rfl)
theorem rl3 (k : Int) (hk : k = 3 ∨ k = 4) (σ : St) (nm : ByteArray) (hn : nm ∈ names) : Ans Try.prog 19 [mat k nm ⟨#[91, 97, 45, 99, 93, 43, 46, 42]⟩] σ (Bo false) σ := by
  have hi := ri3 k hk σ nm hn
  rcases hk with rfl | rfl
  all_goals (
    refine Ans.of_run t19 ?_
    simp -implicitDefEqProofs only [c19, r19, go_sem, List.reduceReplicate, Nat.reduceAdd, Nat.reduceSub, Nat.reduceLT, Nat.reduceLeDiff, Nat.reduceMul, Nat.reduceEqDiff, reduceCtorEq, Int.reduceLE, Int.reduceLT, Int.reduceEq, Int.reduceNe, Int.reduceBEq, Int.reduceBNe, Int.reduceAdd, Int.reduceSub]
    refine CO.intro hi ?_
    simp -implicitDefEqProofs only [go_sem, List.reduceReplicate, Nat.reduceAdd, Nat.reduceSub, Nat.reduceLT, Nat.reduceLeDiff, Nat.reduceMul, Nat.reduceEqDiff, reduceCtorEq, Int.reduceLE, Int.reduceLT, Int.reduceEq, Int.reduceNe, Int.reduceBEq, Int.reduceBNe, Int.reduceAdd, Int.reduceSub]
    refine CO.intro (rlike_ans σ _ nm _) ?_
    simp -implicitDefEqProofs only [go_sem, List.reduceReplicate, Nat.reduceAdd, Nat.reduceSub, Nat.reduceLT, Nat.reduceLeDiff, Nat.reduceMul, Nat.reduceEqDiff, reduceCtorEq, Int.reduceLE, Int.reduceLT, Int.reduceEq, Int.reduceNe, Int.reduceBEq, Int.reduceBNe, Int.reduceAdd, Int.reduceSub, Bool.true_or, Bool.or_true]
    refine CO.intro (rp3_a σ) ?_
    simp -implicitDefEqProofs only [go_sem, List.reduceReplicate, Nat.reduceAdd, Nat.reduceSub, Nat.reduceLT, Nat.reduceLeDiff, Nat.reduceMul, Nat.reduceEqDiff, reduceCtorEq, Int.reduceLE, Int.reduceLT, Int.reduceEq, Int.reduceNe, Int.reduceBEq, Int.reduceBNe, Int.reduceAdd, Int.reduceSub]
    refine CO.intro (rs3_a σ) ?_
    simp -implicitDefEqProofs only [go_sem, List.reduceReplicate, Nat.reduceAdd, Nat.reduceSub, Nat.reduceLT, Nat.reduceLeDiff, Nat.reduceMul, Nat.reduceEqDiff, reduceCtorEq, Int.reduceLE, Int.reduceLT, Int.reduceEq, Int.reduceNe, Int.reduceBEq, Int.reduceBNe, Int.reduceAdd, Int.reduceSub]
    exact Fini.ret rfl)
theorem rh3 (k : Int) (hk : k = 3 ∨ k = 4) (nm w : ByteArray) (x : AV) (b : Bool) (hn : nm ∈ names) (hg : ∀ σ, Ans Try.prog 35 [x, Sx nm] σ (Sx w) σ) (hb : ∀ σ, Ans Try.prog 58 [px3, Sx w] σ (Bo b) σ) (σ : St) :
    Ans Try.prog 20 [mat k nm ⟨#[91, 97, 45, 99, 93, 43, 46, 42]⟩, x] σ (Bo (b == (k == 3))) σ := by
  have hi := ri3 k hk
  have hl := rl3 k hk
  rcases hk with rfl | rfl
  all_goals (
    refine Ans.of_run t20 ?_
    simp -implicitDefEqProofs only [c20, r20, go_sem, List.reduceReplicate, Nat.reduceAdd, Nat.reduceSub, Nat.reduceLT, Nat.reduceLeDiff, Nat.reduceMul, Nat.reduceEqDiff, reduceCtorEq, Int.reduceLE, Int.reduceLT, Int.reduceEq, Int.reduceNe, Int.reduceBEq, Int.reduceBNe, Int.reduceAdd, Int.reduceSub]
    refine CO.intro (hi σ nm hn) ?_
    simp -implicitDefEqProofs only [go_sem, List.reduceReplicate, Nat.reduceAdd, Nat.reduceSub, Nat.reduceLT, Nat.reduceLeDiff, Nat.reduceMul, Nat.reduceEqDiff, reduceCtorEq, Int.reduceLE, Int.reduceLT, Int.reduceEq, Int.reduceNe, Int.reduceBEq, Int.reduceBNe, Int.reduceAdd, Int.reduceSub]
    refine CO.intro (hl σ nm hn) ?_
    simp -implicitDefEqProofs only [go_sem, List.reduceReplicate, Nat.reduceAdd, Nat.reduceSub, Nat.reduceLT, Nat.reduceLeDiff, Nat.reduceMul, Nat.reduceEqDiff, reduceCtorEq, Int.reduceLE, Int.reduceLT, Int.reduceEq, Int.reduceNe, Int.reduceBEq, Int.reduceBNe, Int.reduceAdd, Int.reduceSub]
    refine CO.intro (hg σ) ?_
    simp -implicitDefEqProofs only [go_sem, List.reduceReplicate, Nat.reduceAdd, Nat.reduceSub, Nat.reduceLT, Nat.reduceLeDiff, Nat.reduceMul, Nat.reduceEqDiff, reduceCtorEq, Int.reduceLE, Int.reduceLT, Int.reduceEq, Int.reduceNe, Int.reduceBEq, Int.reduceBNe, Int.reduceAdd, Int.reduceSub]
    refine CO.intro (rp3_a σ) ?_
    simp -implicitDefEqProofs only [go_sem, List.reduceReplicate, Nat.reduceAdd, Nat.reduceSub, Nat.reduceLT, Nat.reduceLeDiff, Nat.reduceMul, Nat.reduceEqDiff, reduceCtorEq, Int.reduceLE, Int.reduceLT, Int.reduceEq, Int.reduceNe, Int.reduceBEq, Int.reduceBNe, Int.reduceAdd, Int.reduceSub, D_callS]
    first | refine CO.intro (hb _) ?_ | refine CD.intro (hb _) ?_ | refine CS.intro hb ?_
    simp -implicitDefEqProofs only [go_sem, List.reduceReplicate, Nat.reduceAdd, Nat.reduceSub, Nat.reduceLT, Nat.reduceLeDiff, Nat.reduceMul, Nat.reduceEqDiff, reduceCtorEq, Int.reduceLE, Int.reduceLT, Int.reduceEq, Int.reduceNe, Int.reduceBEq, Int.reduceBNe, Int.reduceAdd, Int.reduceSub]
    exact Fini.ret rfl)
theorem pr3 : PatR px3 st3 ⟨#[91, 97, 45, 99, 93, 43, 46, 42]⟩ true := by
  refine ⟨pat3, fun nm w x hn hw h48 h35 => ?_⟩
  have hex : ∃ b, (∀ σ, Ans Try.prog 50 [st3, Sx w] σ (Bo b) σ) ∧ (∀ σ, Ans Try.prog 58 [px3, Sx w] σ (Bo b) σ) := by
    simp only [vals8, values, List.cons_append, List.nil_append, List.mem_cons, List.not_mem_nil, or_false] at hw
    rcases hw with rfl | rfl | rfl | rfl | rfl | rfl | rfl | rfl
    · exact ⟨_, fun σ => sm3_0_ok.frame (bel_all rfl) σ, fun σ => tk3_0_ok.frame (bel_all rfl) σ⟩
    · exact ⟨_, fun σ => sm3_1_ok.frame (bel_all rfl) σ, fun σ => tk3_1_ok.frame (bel_all rfl) σ⟩
    · exact ⟨_, fun σ => sm3_2_ok.frame (bel_all rfl) σ, fun σ => tk3_2_ok.frame (bel_all rfl) σ⟩
    · exact ⟨_, fun σ => sm3_3_ok.frame (bel_all rfl) σ, fun σ => tk3_3_ok.frame (bel_all rfl) σ⟩
    · exact ⟨_, fun σ => sm3_4_ok.frame (bel_all rfl) σ, fun σ => tk3_4_ok.frame (bel_all rfl) σ⟩
    · exact ⟨_, fun σ => sm3_5_ok.frame (bel_all rfl) σ, fun σ => tk3_5_ok.frame (bel_all rfl) σ⟩
    · exact ⟨_, fun σ => sm3_6_ok.frame (bel_all rfl) σ, fun σ => tk3_6_ok.frame (bel_all rfl) σ⟩
    · exact ⟨_, fun σ => sm3_7_ok.frame (bel_all rfl) σ, fun σ => tk3_7_ok.frame (bel_all rfl) σ⟩
  obtain ⟨b, hb1, hb2⟩ := hex
  refine ⟨b, ⟨fun σ => ?_, fun σ => ?_⟩, !b, fun σ => ?_, fun σ => ?_⟩
  · have := holds3_ans σ nm _ pat3 x w h48 hn (b := b) (fun _ => hb1)
    simpa using this
  · have := rh3 3 (.inl rfl) nm w x b hn h35 hb2 σ
    simpa using this
  · have := holds4_ans σ nm _ pat3 x w h48 hn (b := b) (fun _ => hb1)
    simpa using this
  · have := rh3 4 (.inr rfl) nm w x b hn h35 hb2 σ
    simpa using this

theorem rp4_a (σ : St) : Ans Try.prog 56 [Sx ⟨#[46, 43]⟩] σ (.tup [px4, Bo true]) σ := rp4_ok.frame (bel_all rfl) σ
theorem rs4_a (σ : St) : Ans Try.prog 57 [px4] σ (.pl (.int .i64 3)) σ := rs4_ok.frame (bel_all rfl) σ
theorem ri4 (k : Int) (hk : k = 3 ∨ k = 4) (σ : St) (nm : ByteArray) (hn : nm ∈ names) : Ans Try.prog 17 [mat k nm ⟨#[46, 43]⟩] σ (Bo true) σ := by
  rcases hk with rfl | rfl
  all_goals (
    refine Ans.of_run t17 ?_
    simp -implicitDefEqProofs only [c17, r17, go_sem, List.reduceReplicate, Nat.reduceAdd, Nat.reduceSub, Nat.reduceLT, Nat.reduceLeDiff, Nat.reduceMul, Nat.reduceEqDiff, reduceCtorEq, Int.reduceLE, Int.reduceLT, Int.reduceEq, Int.reduceNe, Int.reduceBEq, Int.reduceBNe, Int.reduceAdd, Int.reduceSub]
    refine CO.intro (rname_ans σ nm hn) ?_
    simp -implicitDefEqProofs only [go_sem, List.reduceReplicate, Nat.reduceAdd, Nat.reduceSub, Nat.reduceLT, Nat.reduceLeDiff, Nat.reduceMul, Nat.reduceEqDiff, reduceCtorEq, Int.reduceLE, Int.reduceLT, Int.reduceEq, Int.reduceNe, Int.reduceBEq, Int.reduceBNe, Int.reduceAdd, Int.reduceSub]
    refine CO.intro (rlike_ans σ _ nm _) ?_
    simp -implicitDefEqProofs only [go_sem, List.reduceReplicate, Nat.reduceAdd, Nat.reduceSub, Nat.reduceLT, Nat.reduceLeDiff, Nat.reduceMul, Nat.reduceEqDiff, reduceCtorEq, Int.reduceLE, Int.reduceLT, Int.reduceEq, Int.reduceNe, Int.reduceBEq, Int.reduceBNe, Int.reduceAdd, Int.reduceSub, Bool.true_or, Bool.or_true]
    refine CO.intro (rp4_a σ) ?_
    simp -implicitDefEqProofs only [go_sem, List.reduceReplicate, Nat.reduceAdd, Nat.reduceSub, Nat.reduceLT, Nat.reduceLeDiff, Nat.reduceMul, Nat.reduceEqDiff, reduceCtorEq, Int.reduceLE, Int.reduceLT, Int.reduceEq, Int.reduceNe, Int.reduceBEq, Int.reduceBNe, Int.reduceAdd, Int.reduceSub]
    exact Fini.ret rfl)
theorem rl4 (k : Int) (hk : k = 3 ∨ k = 4) (σ : St) (nm : ByteArray) (hn : nm ∈ names) : Ans Try.prog 19 [mat k nm ⟨#[46, 43]⟩] σ (Bo false) σ := by
  have hi := ri4 k hk σ nm hn
  rcases hk with rfl | rfl
  all_goals (
    refine Ans.of_run t19 ?_
    simp -implicitDefEqProofs only [c19, r19, go_sem, List.reduceReplicate, Nat.reduceAdd, Nat.reduceSub, Nat.reduceLT, Nat.reduceLeDiff, Nat.reduceMul, Nat.reduceEqDiff, reduceCtorEq, Int.reduceLE, Int.reduceLT, Int.reduceEq, Int.reduceNe, Int.reduceBEq, Int.reduceBNe, Int.reduceAdd, Int.reduceSub]
    refine CO.intro hi ?_
    simp -implicitDefEqProofs only [go_sem, List.reduceReplicate, Nat.reduceAdd, Nat.reduceSub, Nat.reduceLT, Nat.reduceLeDiff, Nat.reduceMul, Nat.reduceEqDiff, reduceCtorEq, Int.reduceLE, Int.reduceLT, Int.reduceEq, Int.reduceNe, Int.reduceBEq, Int.reduceBNe, Int.reduceAdd, Int.reduceSub]
    refine CO.intro (rlike_ans σ _ nm _) ?_
    simp -implicitDefEqProofs only [go_sem, List.reduceReplicate, Nat.reduceAdd, Nat.reduceSub, Nat.reduceLT, Nat.reduceLeDiff, Nat.reduceMul, Nat.reduceEqDiff, reduceCtorEq, Int.reduceLE, Int.reduceLT, Int.reduceEq, Int.reduceNe, Int.reduceBEq, Int.reduceBNe, Int.reduceAdd, Int.reduceSub, Bool.true_or, Bool.or_true]
    refine CO.intro (rp4_a σ) ?_
    simp -implicitDefEqProofs only [go_sem, List.reduceReplicate, Nat.reduceAdd, Nat.reduceSub, Nat.reduceLT, Nat.reduceLeDiff, Nat.reduceMul, Nat.reduceEqDiff, reduceCtorEq, Int.reduceLE, Int.reduceLT, Int.reduceEq, Int.reduceNe, Int.reduceBEq, Int.reduceBNe, Int.reduceAdd, Int.reduceSub]
    refine CO.intro (rs4_a σ) ?_
    simp -implicitDefEqProofs only [go_sem, List.reduceReplicate, Nat.reduceAdd, Nat.reduceSub, Nat.reduceLT, Nat.reduceLeDiff, Nat.reduceMul, Nat.reduceEqDiff, reduceCtorEq, Int.reduceLE, Int.reduceLT, Int.reduceEq, Int.reduceNe, Int.reduceBEq, Int.reduceBNe, Int.reduceAdd, Int.reduceSub]
    exact Fini.ret rfl)
theorem rh4 (k : Int) (hk : k = 3 ∨ k = 4) (nm w : ByteArray) (x : AV) (b : Bool) (hn : nm ∈ names) (hg : ∀ σ, Ans Try.prog 35 [x, Sx nm] σ (Sx w) σ) (hb : ∀ σ, Ans Try.prog 58 [px4, Sx w] σ (Bo b) σ) (σ : St) :
    Ans Try.prog 20 [mat k nm ⟨#[46, 43]⟩, x] σ (Bo (b == (k == 3))) σ := by
  have hi := ri4 k hk
  have hl := rl4 k hk
  rcases hk with rfl | rfl
  all_goals (
    refine Ans.of_run t20 ?_
    simp -implicitDefEqProofs only [c20, r20, go_sem, List.reduceReplicate, Nat.reduceAdd, Nat.reduceSub, Nat.reduceLT, Nat.reduceLeDiff, Nat.reduceMul, Nat.reduceEqDiff, reduceCtorEq, Int.reduceLE, Int.reduceLT, Int.reduceEq, Int.reduceNe, Int.reduceBEq, Int.reduceBNe, Int.reduceAdd, Int.reduceSub]
    refine CO.intro (hi σ nm hn) ?_
    simp -implicitDefEqProofs only [go_sem, List.reduceReplicate, Nat.reduceAdd, Nat.reduceSub, Nat.reduceLT, Nat.reduceLeDiff, Nat.reduceMul, Nat.reduceEqDiff, reduceCtorEq, Int.reduceLE, Int.reduceLT, Int.reduceEq, Int.reduceNe, Int.reduceBEq, Int.reduceBNe, Int.reduceAdd, Int.reduceSub]
    refine CO.intro (hl σ nm hn) ?_
    simp -implicitDefEqProofs only [go_sem, List.reduceReplicate, Nat.reduceAdd, Nat.reduceSub, Nat.reduceLT, Nat.reduceLeDiff, Nat.reduceMul, Nat.reduceEqDiff, reduceCtorEq, Int.reduceLE, Int.reduceLT, Int.reduceEq, Int.reduceNe, Int.reduceBEq, Int.reduceBNe, Int.reduceAdd, Int.reduceSub]
    refine CO.intro (hg σ) ?_
    simp -implicitDefEqProofs only [go_sem, List.reduceReplicate, Nat.reduceAdd, Nat.reduceSub, Nat.reduceLT, Nat.reduceLeDiff, Nat.reduceMul, Nat.reduceEqDiff, reduceCtorEq, Int.reduceLE, Int.reduceLT, Int.reduceEq, Int.reduceNe, Int.reduceBEq, Int.reduceBNe, Int.reduceAdd, Int.reduceSub]
    refine CO.intro (rp4_a σ) ?_
    simp -implicitDefEqProofs only [go_sem, List.reduceReplicate, Nat.reduceAdd, Nat.reduceSub, Nat.reduceLT, Nat.reduceLeDiff, Nat.reduceMul, Nat.reduceEqDiff, reduceCtorEq, Int.reduceLE, Int.reduceLT, Int.reduceEq, Int.reduceNe, Int.reduceBEq, Int.reduceBNe, Int.reduceAdd, Int.reduceSub, D_callS]
    first | refine CO.intro (hb _) ?_ | refine CD.intro (hb _) ?_ | refine CS.intro hb ?_
    simp -implicitDefEqProofs only [go_sem, List.reduceReplicate, Nat.reduceAdd, Nat.reduceSub, Nat.reduceLT, Nat.reduceLeDiff, Nat.reduceMul, Nat.reduceEqDiff, reduceCtorEq, Int.reduceLE, Int.reduceLT, Int.reduceEq, Int.reduceNe, Int.reduceBEq, Int.reduceBNe, Int.reduceAdd, Int.reduceSub]
    exact Fini.ret rfl)
theorem pr4 : PatR px4 st4 ⟨#[46, 43]⟩ true := by
  refine ⟨pat4, fun nm w x hn hw h48 h35 => ?_⟩
  have hex : ∃ b, (∀ σ, Ans Try.prog 50 [st4, Sx w] σ (Bo b) σ) ∧ (∀ σ, Ans Try.prog 58 [px4, Sx w] σ (Bo b) σ) := by
    simp only [vals8, values, List.cons_append, List.nil_append, List.mem_cons, List.not_mem_nil, or_false] at hw
    rcases hw with rfl | rfl | rfl | rfl | rfl | rfl | rfl | rfl
    · exact ⟨_, fun σ => sm4_0_ok.frame (bel_all rfl) σ, fun σ => tk4_0_ok.frame (bel_all rfl) σ⟩
    · exact ⟨_, fun σ => sm4_1_ok.frame (bel_all rfl) σ, fun σ => tk4_1_ok.frame (bel_all rfl) σ⟩
    · exact ⟨_, fun σ => sm4_2_ok.frame (bel_all rfl) σ, fun σ => tk4_2_ok.frame (bel_all rfl) σ⟩
    · exact ⟨_, fun σ => sm4_3_ok.frame (bel_all rfl) σ, fun σ => tk4_3_ok.frame (bel_all rfl) σ⟩
    · exact ⟨_, fun σ => sm4_4_ok.frame (bel_all rfl) σ, fun σ => tk4_4_ok.frame (bel_all rfl) σ⟩
    · exact ⟨_, fun σ => sm4_5_ok.frame (bel_all rfl) σ, fun σ => tk4_5_ok.frame (bel_all rfl) σ⟩
    · exact ⟨_, fun σ => sm4_6_ok.frame (bel_all rfl) σ, fun σ => tk4_6_ok.frame (bel_all rfl) σ⟩
    · exact ⟨_, fun σ => sm4_7_ok.frame (bel_all rfl) σ, fun σ => tk4_7_ok.frame (bel_all rfl) σ⟩
  obtain ⟨b, hb1, hb2⟩ := hex
  refine ⟨b, ⟨fun σ => ?_, fun σ => ?_⟩, !b, fun σ => ?_, fun σ => ?_⟩
  · have := holds3_ans σ nm _ pat4 x w h48 hn (b := b) (fun _ => hb1)
    simpa using this
  · have := rh4 3 (.inl rfl) nm w x b hn h35 hb2 σ
    simpa using this
  · have := holds4_ans σ nm _ pat4 x w h48 hn (b := b) (fun _ => hb1)
    simpa using this
  · have := rh4 4 (.inr rfl) nm w x b hn h35 hb2 σ
    simpa using this

theorem rp5_a (σ : St) : Ans Try.prog 56 [Sx ⟨#[40, 97, 98, 41, 42]⟩] σ (.tup [px5, Bo true]) σ := rp5_ok.frame (bel_all rfl) σ
theorem rs5_a (σ : St) : Ans Try.prog 57 [px5] σ (.pl (.int .i64 5)) σ := rs5_ok.frame (bel_all rfl) σ
theorem ri5 (k : Int) (hk : k = 3 ∨ k = 4) (σ : St) (nm : ByteArray) (hn : nm ∈ names) : Ans Try.prog 17 [mat k nm ⟨#[40, 97, 98, 41, 42]⟩] σ (Bo true) σ := by
  rcases hk with rfl | rfl
  all_goals (
    refine Ans.of_run t17 ?_
    simp -implicitDefEqProofs only [c17, r17, go_sem, List.reduceReplicate, Nat.reduceAdd, Nat.reduceSub, Nat.reduceLT, Nat.reduceLeDiff, Nat.reduceMul, Nat.reduceEqDiff, reduceCtorEq, Int.reduceLE, Int.reduceLT, Int.reduceEq, Int.reduceNe, Int.reduceBEq, Int.reduceBNe, Int.reduceAdd, Int.reduceSub]
    refine CO.intro (rname_ans σ nm hn) ?_
    simp -implicitDefEqProofs only [go_sem, List.reduceReplicate, Nat.reduceAdd, Nat.reduceSub, Nat.reduceLT, Nat.reduceLeDiff, Nat.reduceMul, Nat.reduceEqDiff, reduceCtorEq, Int.reduceLE, Int.reduceLT, Int.reduceEq, Int.reduceNe, Int.reduceBEq, Int.reduceBNe, Int.reduceAdd, Int.reduceSub]
    refine CO.intro (rlike_ans σ _ nm _) ?_
    simp -implicitDefEqProofs only [go_sem, List.reduceReplicate, Nat.reduceAdd, Nat.reduceSub, Nat.reduceLT, Nat.reduceLeDiff, Nat.reduceMul, Nat.reduceEqDiff, reduceCtorEq, Int.reduceLE, Int.reduceLT, Int.reduceEq, Int.reduceNe, Int.reduceBEq, Int.reduceBNe, Int.reduceAdd, Int.reduceSub, Bool.true_or, Bool.or_true]
    refine CO.intro (rp5_a σ) ?_
    simp -implicitDefEqProofs only [go_sem, List.reduceReplicate, Nat.reduceAdd, Nat.reduceSub, Nat.reduceLT, Nat.reduceLeDiff, Nat.reduceMul, Nat.reduceEqDiff, reduceCtorEq, Int.reduceLE, Int.reduceLT, Int.reduceEq, Int.reduceNe, Int.reduceBEq, Int.reduceBNe, Int.reduceAdd, Int.reduceSub]
    exact Fini.ret rfl)
theorem rl5 (k : Int) (hk : k = 3 ∨ k = 4) (σ : St) (nm : ByteArray) (hn : nm ∈ names) : Ans Try.prog 19 [mat k nm ⟨#[40, 97, 98, 41, 42]⟩] σ (Bo false) σ := by
  have hi := ri5 k hk σ nm hn
  rcases hk with rfl | rfl
  all_goals (
    refine Ans.of_run t19 ?_
    simp -implicitDefEqProofs only [c19, r19, go_sem, List.reduceReplicate, Nat.reduceAdd, Nat.reduceSub, Nat.reduceLT, Nat.reduceLeDiff, Nat.reduceMul, Nat.reduceEqDiff, reduceCtorEq, Int.reduceLE, Int.reduceLT, Int.reduceEq, Int.reduceNe, Int.reduceBEq, Int.reduceBNe, Int.reduceAdd, Int.reduceSub]
    refine CO.intro hi ?_
    simp -implicitDefEqProofs only [go_sem, List.reduceReplicate, Nat.reduceAdd, Nat.reduceSub, Nat.reduceLT, Nat.reduceLeDiff, Nat.reduceMul, Nat.reduceEqDiff, reduceCtorEq, Int.reduceLE, Int.reduceLT, Int.reduceEq, Int.reduceNe, Int.reduceBEq, Int.reduceBNe, Int.reduceAdd, Int.reduceSub]
    refine CO.intro (rlike_ans σ _ nm _) ?_
    simp -implicitDefEqProofs only [go_sem, List.reduceReplicate, Nat.reduceAdd, Nat.reduceSub, Nat.reduceLT, Nat.reduceLeDiff, Nat.reduceMul, Nat.reduceEqDiff, reduceCtorEq, Int.reduceLE, Int.reduceLT, Int.reduceEq, Int.reduceNe, Int.reduceBEq, Int.reduceBNe, Int.reduceAdd, Int.reduceSub, Bool.true_or, Bool.or_true]
    refine CO.intro (rp5_a σ) ?_
    simp -implicitDefEqProofs only [go_sem, List.reduceReplicate, Nat.reduceAdd, Nat.reduceSub, Nat.reduceLT, Nat.reduceLeDiff, Nat.reduceMul, Nat.reduceEqDiff, reduceCtorEq, Int.reduceLE, Int.reduceLT, Int.reduceEq, Int.reduceNe, Int.reduceBEq, Int.reduceBNe, Int.reduceAdd, Int.reduceSub]
    refine CO.intro (rs5_a σ) ?_
    simp -implicitDefEqProofs only [go_sem, List.reduceReplicate, Nat.reduceAdd, Nat.reduceSub, Nat.reduceLT, Nat.reduceLeDiff, Nat.reduceMul, Nat.reduceEqDiff, reduceCtorEq, Int.reduceLE, Int.reduceLT, Int.reduceEq, Int.reduceNe, Int.reduceBEq, Int.reduceBNe, Int.reduceAdd, Int.reduceSub]
    exact Fini.ret rfl)
theorem rh5 (k : Int) (hk : k = 3 ∨ k = 4) (nm w : ByteArray) (x : AV) (b : Bool) (hn : nm ∈ names) (hg : ∀ σ, Ans Try.prog 35 [x, Sx nm] σ (Sx w) σ) (hb : ∀ σ, Ans Try.prog 58 [px5, Sx w] σ (Bo b) σ) (σ : St) :
    Ans Try.prog 20 [mat k nm ⟨#[40, 97, 98, 41, 42]⟩, x] σ (Bo (b == (k == 3))) σ := by
  have hi := ri5 k hk
  have hl := rl5 k hk
  rcases hk with rfl | rfl
  all_goals (
    refine Ans.of_run t20 ?_
    simp -implicitDefEqProofs only [c20, r20, go_sem, List.reduceReplicate, Nat.reduceAdd, Nat.reduceSub, Nat.reduceLT, Nat.reduceLeDiff, Nat.reduceMul, Nat.reduceEqDiff, reduceCtorEq, Int.reduceLE, Int.reduceLT, Int.reduceEq, Int.reduceNe, Int.reduceBEq, Int.reduceBNe, Int.reduceAdd, Int.reduceSub]
    refine CO.intro (hi σ nm hn) ?_
    simp -implicitDefEqProofs only [go_sem, List.reduceReplicate, Nat.reduceAdd, Nat.reduceSub, Nat.reduceLT, Nat.reduceLeDiff, Nat.reduceMul, Nat.reduceEqDiff, reduceCtorEq, Int.reduceLE, Int.reduceLT, Int.reduceEq, Int.reduceNe, Int.reduceBEq, Int.reduceBNe, Int.reduceAdd, Int.reduceSub]
    refine CO.intro (hl σ nm hn) ?_
    simp -implicitDefEqProofs only [go_sem, List.reduceReplicate, Nat.reduceAdd, Nat.reduceSub, Nat.reduceLT, Nat.reduceLeDiff, Nat.reduceMul, Nat.reduceEqDiff, reduceCtorEq, Int.reduceLE, Int.reduceLT, Int.reduceEq, Int.reduceNe, Int.reduceBEq, Int.reduceBNe, Int.reduceAdd, Int.reduceSub]
    refine CO.intro (hg σ) ?_
    simp -implicitDefEqProofs only [go_sem, List.reduceReplicate, Nat.reduceAdd, Nat.reduceSub, Nat.reduceLT, Nat.reduceLeDiff, Nat.reduceMul, Nat.reduceEqDiff, reduceCtorEq, Int.reduceLE, Int.reduceLT, Int.reduceEq, Int.reduceNe, Int.reduceBEq, Int.reduceBNe, Int.reduceAdd, Int.reduceSub]
    refine CO.intro (rp5_a σ) ?_
    simp -implicitDefEqProofs only [go_sem, List.reduceReplicate, Nat.reduceAdd, Nat.reduceSub, Nat.reduceLT, Nat.reduceLeDiff, Nat.reduceMul, Nat.reduceEqDiff, reduceCtorEq, Int.reduceLE, Int.reduceLT, Int.reduceEq, Int.reduceNe, Int.reduceBEq, Int.reduceBNe, Int.reduceAdd, Int.reduceSub, D_callS]
    first | refine CO.intro (hb _) ?_ | refine CD.intro (hb _) ?_ | refine CS.intro hb ?_
    simp -implicitDefEqProofs only [go_sem, List.reduceReplicate, Nat.reduceAdd, Nat.reduceSub, Nat.reduceLT, Nat.reduceLeDiff, Nat.reduceMul, Nat.reduceEqDiff, reduceCtorEq, Int.reduceLE, Int.reduceLT, Int.reduceEq, Int.reduceNe, Int.reduceBEq, Int.reduceBNe, Int.reduceAdd, Int.reduceSub]
    exact Fini.ret rfl)
theorem pr5 : PatR px5 st5 ⟨#[40, 97, 98, 41, 42]⟩ true := by
  refine ⟨pat5, fun nm w x hn hw h48 h35 => ?_⟩
  have hex : ∃ b, (∀ σ, Ans Try.prog 50 [st5, Sx w] σ (Bo b) σ) ∧ (∀ σ, Ans Try.prog 58 [px5, Sx w] σ (Bo b) σ) := by
    simp only [vals8, values, List.cons_append, List.nil_append, List.mem_cons, List.not_mem_nil, or_false] at hw
    rcases hw with rfl | rfl | rfl | rfl | rfl | rfl | rfl | rfl
    · exact ⟨_, fun σ => sm5_0_ok.frame (bel_all rfl) σ, fun σ => tk5_0_ok.frame (bel_all rfl) σ⟩
    · exact ⟨_, fun σ => sm5_1_ok.frame (bel_all rfl) σ, fun σ => tk5_1_ok.frame (bel_all rfl) σ⟩
    · exact ⟨_, fun σ => sm5_2_ok.frame (bel_all rfl) σ, fun σ => tk5_2_ok.frame (bel_all rfl) σ⟩
    · exact ⟨_, fun σ => sm5_3_ok.frame (bel_all rfl) σ, fun σ => tk5_3_ok.frame (bel_all rfl) σ⟩
    · exact ⟨_, fun σ => sm5_4_ok.frame (bel_all rfl) σ, fun σ => tk5_4_ok.frame (bel_all rfl) σ⟩
    · exact ⟨_, fun σ => sm5_5_ok.frame (bel_all rfl) σ, fun σ => tk5_5_ok.frame (bel_all rfl) σ⟩
    · exact ⟨_, fun σ => sm5_6_ok.frame (bel_all rfl) σ, fun σ => tk5_6_ok.frame (bel_all rfl) σ⟩
    · exact ⟨_, fun σ => sm5_7_ok.frame (bel_all rfl) σ, fun σ => tk5_7_ok.frame (bel_all rfl) σ⟩
  obtain ⟨b, hb1, hb2⟩ := hex
  refine ⟨b, ⟨fun σ => ?_, fun σ => ?_⟩, !b, fun σ => ?_, fun σ => ?_⟩
  · have := holds3_ans σ nm _ pat5 x w h48 hn (b := b) (fun _ => hb1)
    simpa using this
  · have := rh5 3 (.inl rfl) nm w x b hn h35 hb2 σ
    simpa using this
  · have := holds4_ans σ nm _ pat5 x w h48 hn (b := b) (fun _ => hb1)
    simpa using this
  · have := rh5 4 (.inr rfl) nm w x b hn h35 hb2 σ
    simpa using this

theorem rp6_a (σ : St) : Ans Try.prog 56 [Sx ⟨#[97, 63, 98, 63]⟩] σ (.tup [px6, Bo true]) σ := rp6_ok.frame (bel_all rfl) σ
theorem rs6_a (σ : St) : Ans Try.prog 57 [px6] σ (.pl (.int .i64 5)) σ := rs6_ok.frame (bel_all rfl) σ
theorem ri6 (k : Int) (hk : k = 3 ∨ k = 4) (σ : St) (nm : ByteArray) (hn : nm ∈ names) : Ans Try.prog 17 [mat k nm ⟨#[97, 63, 98, 63]⟩] σ (Bo true) σ := by
  rcases hk with rfl | rfl
  all_goals (
    refine Ans.of_run t17 ?_
    simp -implicitDefEqProofs only [c17, r17, go_sem, List.reduceReplicate, Nat.reduceAdd, Nat.reduceSub, Nat.reduceLT, Nat.reduceLeDiff, Nat.reduceMul, Nat.reduceEqDiff, reduceCtorEq, Int.reduceLE, Int.reduceLT, Int.reduceEq, Int.reduceNe, Int.reduceBEq, Int.reduceBNe, Int.reduceAdd, Int.reduceSub]
    refine CO.intro (rname_ans σ nm hn) ?_
    simp -implicitDefEqProofs only [go_sem, List.reduceReplicate, Nat.reduceAdd, Nat.reduceSub, Nat.reduceLT, Nat.reduceLeDiff, Nat.reduceMul, Nat.reduceEqDiff, reduceCtorEq, Int.reduceLE, Int.reduceLT, Int.reduceEq, Int.reduceNe, Int.reduceBEq, Int.reduceBNe, Int.reduceAdd, Int.reduceSub]
    refine CO.intro (rlike_ans σ _ nm _) ?_
    simp -implicitDefEqProofs only [go_sem, List.reduceReplicate, Nat.reduceAdd, Nat.reduceSub, Nat.reduceLT, Nat.reduceLeDiff, Nat.reduceMul, Nat.reduceEqDiff, reduceCtorEq, Int.reduceLE, Int.reduceLT, Int.reduceEq, Int.reduceNe, Int.reduceBEq, Int.reduceBNe, Int.reduceAdd, Int.reduceSub, Bool.true_or, Bool.or_true]
    refine CO.intro (rp6_a σ) ?_
    simp -implicitDefEqProofs only [go_sem, List.reduceReplicate, Nat.reduceAdd, Nat.reduceSub, Nat.reduceLT, Nat.reduceLeDiff, Nat.reduceMul, Nat.reduceEqDiff, reduceCtorEq, Int.reduceLE, Int.reduceLT, Int.reduceEq, Int.reduceNe, Int.reduceBEq, Int.reduceBNe, Int.reduceAdd, Int.reduceSub]
    exact Fini.ret rfl)
theorem rl6 (k : Int) (hk : k = 3 ∨ k = 4) (σ : St) (nm : ByteArray) (hn : nm ∈ names) : Ans Try.prog 19 [mat k nm ⟨#[97, 63, 98, 63]⟩] σ (Bo false) σ := by
  have hi := ri6 k hk σ nm hn
  rcases hk with rfl | rfl
  all_goals (
    refine Ans.of_run t19 ?_
    simp -implicitDefEqProofs only [c19, r19, go_sem, List.reduceReplicate, Nat.reduceAdd, Nat.reduceSub, Nat.reduceLT, Nat.reduceLeDiff, Nat.reduceMul, Nat.reduceEqDiff, reduceCtorEq, Int.reduceLE, Int.reduceLT, Int.reduceEq, Int.reduceNe, Int.reduceBEq, Int.reduceBNe, Int.reduceAdd, Int.reduceSub]
    refine CO.intro hi ?_
    simp -implicitDefEqProofs only [go_sem, List.reduceReplicate, Nat.reduceAdd, Nat.reduceSub, Nat.reduceLT, Nat.reduceLeDiff, Nat.reduceMul, Nat.reduceEqDiff, reduceCtorEq, Int.reduceLE, Int.reduceLT, Int.reduceEq, Int.reduceNe, Int.reduceBEq, Int.reduceBNe, Int.reduceAdd, Int.reduceSub]
    refine CO.intro (rlike_ans σ _ nm _) ?_
    simp -implicitDefEqProofs only [go_sem, List.reduceReplicate, Nat.reduceAdd, Nat.reduceSub, Nat.reduceLT, Nat.reduceLeDiff, Nat.reduceMul, Nat.reduceEqDiff, reduceCtorEq, Int.reduceLE, Int.reduceLT, Int.reduceEq, Int.reduceNe, Int.reduceBEq, Int.reduceBNe, Int.reduceAdd, Int.reduceSub, Bool.true_or, Bool.or_true]
    refine CO.intro (rp6_a σ) ?_
    simp -implicitDefEqProofs only [go_sem, List.reduceReplicate, Nat.reduceAdd, Nat.reduceSub, Nat.reduceLT, Nat.reduceLeDiff, Nat.reduceMul, Nat.reduceEqDiff, reduceCtorEq, Int.reduceLE, Int.reduceLT, Int.reduceEq, Int.reduceNe, Int.reduceBEq, Int.reduceBNe, Int.reduceAdd, Int.reduceSub]
    refine CO.intro (rs6_a σ) ?_
    simp -implicitDefEqProofs only [go_sem, List.reduceReplicate, Nat.reduceAdd, Nat.reduceSub, Nat.reduceLT, Nat.reduceLeDiff, Nat.reduceMul, Nat.reduceEqDiff, reduceCtorEq, Int.reduceLE, Int.reduceLT, Int.reduceEq, Int.reduceNe, Int.reduceBEq, Int.reduceBNe, Int.reduceAdd, Int.reduceSub]
    exact Fini.ret rfl)
theorem rh6 (k : Int) (hk : k = 3 ∨ k = 4) (nm w : ByteArray) (x : AV) (b : Bool) (hn : nm ∈ names) (hg : ∀ σ, Ans Try.prog 35 [x, Sx nm] σ (Sx w) σ) (hb : ∀ σ, Ans Try.prog 58 [px6, Sx w] σ (Bo b) σ) (σ : St) :
    Ans Try.prog 20 [mat k nm ⟨#[97, 63, 98, 63]⟩, x] σ (Bo (b == (k == 3))) σ := by
  have hi := ri6 k hk
  have hl := rl6 k hk
  rcases hk with rfl | rfl
  all_goals (
    refine Ans.of_run t20 ?_
    simp -implicitDefEqProofs only [c20, r20, go_sem, List.reduceReplicate, Nat.reduceAdd, Nat.reduceSub, Nat.reduceLT, Nat.reduceLeDiff, Nat.reduceMul, Nat.reduceEqDiff, reduceCtorEq, Int.reduceLE, Int.reduceLT, Int.reduceEq, Int.reduceNe, Int.reduceBEq, Int.reduceBNe, Int.reduceAdd, Int.reduceSub]
    refine CO.intro (hi σ nm hn) ?_
    simp -implicitDefEqProofs only [go_sem, List.reduceReplicate, Nat.reduceAdd, Nat.reduceSub, Nat.reduceLT, Nat.reduceLeDiff, Nat.reduceMul, Nat.reduceEqDiff, reduceCtorEq, Int.reduceLE, Int.reduceLT, Int.reduceEq, Int.reduceNe, Int.reduceBEq, Int.reduceBNe, Int.reduceAdd, Int.reduceSub]
    refine CO.intro (hl σ nm hn) ?_
    simp -implicitDefEqProofs only [go_sem, List.reduceReplicate, Nat.reduceAdd, Nat.reduceSub, Nat.reduceLT, Nat.reduceLeDiff, Nat.reduceMul, Nat.reduceEqDiff, reduceCtorEq, Int.reduceLE, Int.reduceLT, Int.reduceEq, Int.reduceNe, Int.reduceBEq, Int.reduceBNe, Int.reduceAdd, Int.reduceSub]
    refine CO.intro (hg σ) ?_
    simp -implicitDefEqProofs only [go_sem, List.reduceReplicate, Nat.reduceAdd, Nat.reduceSub, Nat.reduceLT, Nat.reduceLeDiff, Nat.reduceMul, Nat.reduceEqDiff, reduceCtorEq, Int.reduceLE, Int.reduceLT, Int.reduceEq, Int.reduceNe, Int.reduceBEq, Int.reduceBNe, Int.reduceAdd, Int.reduceSub]
    refine CO.intro (rp6_a σ) ?_
    simp -implicitDefEqProofs only [go_sem, List.reduceReplicate, Nat.reduceAdd, Nat.reduceSub, Nat.reduceLT, Nat.reduceLeDiff, Nat.reduceMul, Nat.reduceEqDiff, reduceCtorEq, Int.reduceLE, Int.reduceLT, Int.reduceEq, Int.reduceNe, Int.reduceBEq, Int.reduceBNe, Int.reduceAdd, Int.reduceSub, D_callS]
    first | refine CO.intro (hb _) ?_ | refine CD.intro (hb _) ?_ | refine CS.intro hb ?_
    simp -implicitDefEqProofs only [go_sem, List.reduceReplicate, Nat.reduceAdd, Nat.reduceSub, Nat.reduceLT, Nat.reduceLeDiff, Nat.reduceMul, Nat.reduceEqDiff, reduceCtorEq, Int.reduceLE, Int.reduceLT, Int.reduceEq, Int.reduceNe, Int.reduceBEq, Int.reduceBNe, Int.reduceAdd, Int.reduceSub]
    exact Fini.ret rfl)
theorem pr6 : PatR px6 st6 ⟨#[97, 63, 98, 63]⟩ true := by
  refine ⟨pat6, fun nm w x hn hw h48 h35 => ?_⟩
  have hex : ∃ b, (∀ σ, Ans Try.prog 50 [st6, Sx w] σ (Bo b) σ) ∧ (∀ σ, Ans Try.prog 58 [px6, Sx w] σ (Bo b) σ) := by
    simp only [vals8, values, List.cons_append, List.nil_append, List.mem_cons, List.not_mem_nil, or_false] at hw
    rcases hw with rfl | rfl | rfl | rfl | rfl | rfl | rfl | rfl
    · exact ⟨_, fun σ => sm6_0_ok.frame (bel_all rfl) σ, fun σ => tk6_0_ok.frame (bel_all rfl) σ⟩
    · exact ⟨_, fun σ => sm6_1_ok.frame (bel_all rfl) σ, fun σ => tk6_1_ok.frame (bel_all rfl) σ⟩
    · exact ⟨_, fun σ => sm6_2_ok.frame (bel_all rfl) σ, fun σ => tk6_2_ok.frame (bel_all rfl) σ⟩
    · exact ⟨_, fun σ => sm6_3_ok.frame (bel_all rfl) σ, fun σ => tk6_3_ok.frame (bel_all rfl) σ⟩
    · exact ⟨_, fun σ => sm6_4_ok.frame (bel_all rfl) σ, fun σ => tk6_4_ok.frame (bel_all rfl) σ⟩
    · exact ⟨_, fun σ => sm6_5_ok.frame (bel_all rfl) σ, fun σ => tk6_5_ok.frame (bel_all rfl) σ⟩
    · exact ⟨_, fun σ => sm6_6_ok.frame (bel_all rfl) σ, fun σ => tk6_6_ok.frame (bel_all rfl) σ⟩
    · exact ⟨_, fun σ => sm6_7_ok.frame (bel_all rfl) σ, fun σ => tk6_7_ok.frame (bel_all rfl) σ⟩
  obtain ⟨b, hb1, hb2⟩ := hex
  refine ⟨b, ⟨fun σ => ?_, fun σ => ?_⟩, !b, fun σ => ?_, fun σ => ?_⟩
  · have := holds3_ans σ nm _ pat6 x w h48 hn (b := b) (fun _ => hb1)
    simpa using this
  · have := rh6 3 (.inl rfl) nm w x b hn h35 hb2 σ
    simpa using this
  · have := holds4_ans σ nm _ pat6 x w h48 hn (b := b) (fun _ => hb1)
    simpa using this
  · have := rh6 4 (.inr rfl) nm w x b hn h35 hb2 σ
    simpa using this

theorem rp7_a (σ : St) : Ans Try.prog 56 [Sx ⟨#[91, 94, 97, 93, 42]⟩] σ (.tup [px7, Bo true]) σ := rp7_ok.frame (bel_all rfl) σ
theorem rs7_a (σ : St) : Ans Try.prog 57 [px7] σ (.pl (.int .i64 4)) σ := rs7_ok.frame (bel_all rfl) σ
theorem ri7 (k : Int) (hk : k = 3 ∨ k = 4) (σ : St) (nm : ByteArray) (hn : nm ∈ names) : Ans Try.prog 17 [mat k nm ⟨#[91, 94, 97, 93, 42]⟩] σ (Bo true) σ := by
  rcases hk with rfl | rfl
  all_goals (
    refine Ans.of_run t17 ?_
    simp -implicitDefEqProofs only [c17, r17, go_sem, List.reduceReplicate, Nat.reduceAdd, Nat.reduceSub, Nat.reduceLT, Nat.reduceLeDiff, Nat.reduceMul, Nat.reduceEqDiff, reduceCtorEq, Int.reduceLE, Int.reduceLT, Int.reduceEq, Int.reduceNe, Int.reduceBEq, Int.reduceBNe, Int.reduceAdd, Int.reduceSub]
    refine CO.intro (rname_ans σ nm hn) ?_
    simp -implicitDefEqProofs only [go_sem, List.reduceReplicate, Nat.reduceAdd, Nat.reduceSub, Nat.reduceLT, Nat.reduceLeDiff, Nat.reduceMul, Nat.reduceEqDiff, reduceCtorEq, Int.reduceLE, Int.reduceLT, Int.reduceEq, Int.reduceNe, Int.reduceBEq, Int.reduceBNe, Int.reduceAdd, Int.reduceSub]
    refine CO.intro (rlike_ans σ _ nm _) ?_
    simp -implicitDefEqProofs only [go_sem, List.reduceReplicate, Nat.reduceAdd, Nat.reduceSub, Nat.reduceLT, Nat.reduceLeDiff, Nat.reduceMul, Nat.reduceEqDiff, reduceCtorEq, Int.reduceLE, Int.reduceLT, Int.reduceEq, Int.reduceNe, Int.reduceBEq, Int.reduceBNe, Int.reduceAdd, Int.reduceSub, Bool.true_or, Bool.or_true]
    refine CO.intro (rp7_a σ) ?_
    simp -implicitDefEqProofs only [go_sem, List.reduceReplicate, Nat.reduceAdd, Nat.reduceSub, Nat.reduceLT, Nat.reduceLeDiff, Nat.reduceMul, Nat.reduceEqDiff, reduceCtorEq, Int.reduceLE, Int.reduceLT, Int.reduceEq, Int.reduceNe, Int.reduceBEq, Int.reduceBNe, Int.reduceAdd, Int.reduceSub]
    exact Fini.ret rfl)
theorem rl7 (k : Int) (hk : k = 3 ∨ k = 4) (σ : St) (nm : ByteArray) (hn : nm ∈ names) : Ans Try.prog 19 [mat k nm ⟨#[91, 94, 97, 93, 42]⟩] σ (Bo false) σ := by
  have hi := ri7 k hk σ nm hn
  rcases hk with rfl | rfl
  all_goals (
    refine Ans.of_run t19 ?_
    simp -implicitDefEqProofs only [c19, r19, go_sem, List.reduceReplicate, Nat.reduceAdd, Nat.reduceSub, Nat.reduceLT, Nat.reduceLeDiff, Nat.reduceMul, Nat.reduceEqDiff, reduceCtorEq, Int.reduceLE, Int.reduceLT, Int.reduceEq, Int.reduceNe, Int.reduceBEq, Int.reduceBNe, Int.reduceAdd, Int.reduceSub]
    refine CO.intro hi ?_
    simp -implicitDefEqProofs only [go_sem, List.reduceReplicate, Nat.reduceAdd, Nat.reduceSub, Nat.reduceLT, Nat.reduceLeDiff, Nat.reduceMul, Nat.reduceEqDiff, reduceCtorEq, Int.reduceLE, Int.reduceLT, Int.reduceEq, Int.reduceNe, Int.reduceBEq, Int.reduceBNe, Int.reduceAdd, Int.reduceSub]
    refine CO.intro (rlike_ans σ _ nm _) ?_
    simp -implicitDefEqProofs only [go_sem, List.reduceReplicate, Nat.reduceAdd, Nat.reduceSub, Nat.reduceLT, Nat.reduceLeDiff, Nat.reduceMul, Nat.reduceEqDiff, reduceCtorEq, Int.reduceLE, Int.reduceLT, Int.reduceEq, Int.reduceNe, Int.reduceBEq, Int.reduceBNe, Int.reduceAdd, Int.reduceSub, Bool.true_or, Bool.or_true]
    refine CO.intro (rp7_a σ) ?_
    simp -implicitDefEqProofs only [go_sem, List.reduceReplicate, Nat.reduceAdd, Nat.reduceSub, Nat.reduceLT, Nat.reduceLeDiff, Nat.reduceMul, Nat.reduceEqDiff, reduceCtorEq, Int.reduceLE, Int.reduceLT, Int.reduceEq, Int.reduceNe, Int.reduceBEq, Int.reduceBNe, Int.reduceAdd, Int.reduceSub]
    refine CO.intro (rs7_a σ) ?_
    simp -implicitDefEqProofs only [go_sem, List.reduceReplicate, Nat.reduceAdd, Nat.reduceSub, Nat.reduceLT, Nat.reduceLeDiff, Nat.reduceMul, Nat.reduceEqDiff, reduceCtorEq, Int.reduceLE, Int.reduceLT, Int.reduceEq, Int.reduceNe, Int.reduceBEq, Int.reduceBNe, Int.reduceAdd, Int.reduceSub]
    exact Fini.ret rfl)
theorem rh7 (k : Int) (hk : k = 3 ∨ k = 4) (nm w : ByteArray) (x : AV) (b : Bool) (hn : nm ∈ names) (hg : ∀ σ, Ans Try.prog 35 [x, Sx nm] σ (Sx w) σ) (hb : ∀ σ, Ans Try.prog 58 [px7, Sx w] σ (Bo b) σ) (σ : St) :
    Ans Try.prog 20 [mat k nm ⟨#[91, 94, 97, 93, 42]⟩, x] σ (Bo (b == (k == 3))) σ := by
  have hi := ri7 k hk
  have hl := rl7 k hk
  rcases hk with rfl | rfl
  all_goals (
    refine Ans.of_run t20 ?_
    simp -implicitDefEqProofs only [c20, r20, go_sem, List.reduceReplicate, Nat.reduceAdd, Nat.reduceSub, Nat.reduceLT, Nat.reduceLeDiff, Nat.reduceMul, Nat.reduceEqDiff, reduceCtorEq, Int.reduceLE, Int.reduceLT, Int.reduceEq, Int.reduceNe, Int.reduceBEq, Int.reduceBNe, Int.reduceAdd, Int.reduceSub]
    refine CO.intro (hi σ nm hn) ?_
    simp -implicitDefEqProofs only [go_sem, List.reduceReplicate, Nat.reduceAdd, Nat.reduceSub, Nat.reduceLT, Nat.reduceLeDiff, Nat.reduceMul, Nat.reduceEqDiff, reduceCtorEq, Int.reduceLE, Int.reduceLT, Int.reduceEq, Int.reduceNe, Int.reduceBEq, Int.reduceBNe, Int.reduceAdd, Int.reduceSub]
    refine CO.intro (hl σ nm hn) ?_
    simp -implicitDefEqProofs only [go_sem, List.reduceReplicate, Nat.reduceAdd, Nat.reduceSub, Nat.reduceLT, Nat.reduceLeDiff, Nat.reduceMul, Nat.reduceEqDiff, reduceCtorEq, Int.reduceLE, Int.reduceLT, Int.reduceEq, Int.reduceNe, Int.reduceBEq, Int.reduceBNe, Int.reduceAdd, Int.reduceSub]
    refine CO.intro (hg σ) ?_
    simp -implicitDefEqProofs only [go_sem, List.reduceReplicate, Nat.reduceAdd, Nat.reduceSub, Nat.reduceLT, Nat.reduceLeDiff, Nat.reduceMul, Nat.reduceEqDiff, reduceCtorEq, Int.reduceLE, Int.reduceLT, Int.reduceEq, Int.reduceNe, Int.reduceBEq, Int.reduceBNe, Int.reduceAdd, Int.reduceSub]
    refine CO.intro (rp7_a σ) ?_
    simp -implicitDefEqProofs only [go_sem, List.reduceReplicate, Nat.reduceAdd, Nat.reduceSub, Nat.reduceLT, Nat.reduceLeDiff, Nat.reduceMul, Nat.reduceEqDiff, reduceCtorEq, Int.reduceLE, Int.reduceLT, Int.reduceEq, Int.reduceNe, Int.reduceBEq, Int.reduceBNe, Int.reduceAdd, Int.reduceSub, D_callS]
    first | refine CO.intro (hb _) ?_ | refine CD.intro (hb _) ?_ | refine CS.intro hb ?_
    simp -implicitDefEqProofs only [go_sem, List.reduceReplicate, Nat.reduceAdd, Nat.reduceSub, Nat.reduceLT, Nat.reduceLeDiff, Nat.reduceMul, Nat.reduceEqDiff, reduceCtorEq, Int.reduceLE, Int.reduceLT, Int.reduceEq, Int.reduceNe, Int.reduceBEq, Int.reduceBNe, Int.reduceAdd, Int.reduceSub]
    exact Fini.ret rfl)
theorem pr7 : PatR px7 st7 ⟨#[91, 94, 97, 93, 42]⟩ true := by
  refine ⟨pat7, fun nm w x hn hw h48 h35 => ?_⟩
  have hex : ∃ b, (∀ σ, Ans Try.prog 50 [st7, Sx w] σ (Bo b) σ) ∧ (∀ σ, Ans Try.prog 58 [px7, Sx w] σ (Bo b) σ) := by
    simp only [vals8, values, List.cons_append, List.nil_append, List.mem_cons, List.not_mem_nil, or_false] at hw
    rcases hw with rfl | rfl | rfl | rfl | rfl | rfl | rfl | rfl
    · exact ⟨_, fun σ => sm7_0_ok.frame (bel_all rfl) σ, fun σ => tk7_0_ok.frame (bel_all rfl) σ⟩
    · exact ⟨_, fun σ => sm7_1_ok.frame (bel_all rfl) σ, fun σ => tk7_1_ok.frame (bel_all rfl) σ⟩
    · exact ⟨_, fun σ => sm7_2_ok.frame (bel_all rfl) σ, fun σ => tk7_2_ok.frame (bel_all rfl) σ⟩
    · exact ⟨_, fun σ => sm7_3_ok.frame (bel_all rfl) σ, fun σ => tk7_3_ok.frame (bel_all rfl) σ⟩
    · exact ⟨_, fun σ => sm7_4_ok.frame (bel_all rfl) σ, fun σ => tk7_4_ok.frame (bel_all rfl) σ⟩
    · exact ⟨_, fun σ => sm7_5_ok.frame (bel_all rfl) σ, fun σ => tk7_5_ok.frame (bel_all rfl) σ⟩
    · exact ⟨_, fun σ => sm7_6_ok.frame (bel_all rfl) σ, fun σ => tk7_6_ok.frame (bel_all rfl) σ⟩
    · exact ⟨_, fun σ => sm7_7_ok.frame (bel_all rfl) σ, fun σ => tk7_7_ok.frame (bel_all rfl) σ⟩
  obtain ⟨b, hb1, hb2⟩ := hex
  refine ⟨b, ⟨fun σ => ?_, fun σ => ?_⟩, !b, fun σ => ?_, fun σ => ?_⟩
  · have := holds3_ans σ nm _ pat7 x w h48 hn (b := b) (fun _ => hb1)
    simpa using this
  · have := rh7 3 (.inl rfl) nm w x b hn h35 hb2 σ
    simpa using this
  · have := holds4_ans σ nm _ pat7 x w h48 hn (b := b) (fun _ => hb1)
    simpa using this
  · have := rh7 4 (.inr rfl) nm w x b hn h35 hb2 σ
    simpa using this

theorem rp8_a (σ : St) : Ans Try.prog 56 [Sx ⟨#[97, 42, 97, 42, 97, 42, 97, 42, 97, 42, 97, 42, 97, 42, 97, 42, 97, 42, 97, 42, 97, 42, 97, 42, 97, 42, 97, 42]⟩] σ (.tup [px8, Bo true]) σ := rp8_ok.frame (bel_all rfl) σ
theorem rs8_a (σ : St) : Ans Try.prog 57 [px8] σ (.pl (.int .i64 43)) σ := rs8_ok.frame (bel_all rfl) σ
theorem ri8 (k : Int) (hk : k = 3 ∨ k = 4) (σ : St) (nm : ByteArray) (hn : nm ∈ names) : Ans Try.prog 17 [mat k nm ⟨#[97, 42, 97, 42, 97, 42, 97, 42, 97, 42, 97, 42, 97, 42, 97, 42, 97, 42, 97, 42, 97, 42, 97, 42, 97, 42, 97, 42]⟩] σ (Bo true) σ := by
  rcases hk with rfl | rfl
  all_goals (
    refine Ans.of_run t17 ?_
    simp -implicitDefEqProofs only [c17, r17, go_sem, List.reduceReplicate, Nat.reduceAdd, Nat.reduceSub, Nat.reduceLT, Nat.reduceLeDiff, Nat.reduceMul, Nat.reduceEqDiff, reduceCtorEq, Int.reduceLE, Int.reduceLT, Int.reduceEq, Int.reduceNe, Int.reduceBEq, Int.reduceBNe, Int.reduceAdd, Int.reduceSub]
    refine CO.intro (rname_ans σ nm hn) ?_
    simp -implicitDefEqProofs only [go_sem, List.reduceReplicate, Nat.reduceAdd, Nat.reduceSub, Nat.reduceLT, Nat.reduceLeDiff, Nat.reduceMul, Nat.reduceEqDiff, reduceCtorEq, Int.reduceLE, Int.reduceLT, Int.reduceEq, Int.reduceNe, Int.reduceBEq, Int.reduceBNe, Int.reduceAdd, Int.reduceSub]
    refine CO.intro (rlike_ans σ _ nm _) ?_
    simp -implicitDefEqProofs only [go_sem, List.reduceReplicate, Nat.reduceAdd, Nat.reduceSub, Nat.reduceLT, Nat.reduceLeDiff, Nat.reduceMul, Nat.reduceEqDiff, reduceCtorEq, Int.reduceLE, Int.reduceLT, Int.reduceEq, Int.reduceNe, Int.reduceBEq, Int.reduceBNe, Int.reduceAdd, Int.reduceSub, Bool.true_or, Bool.or_true]
    refine CO.intro (rp8_a σ) ?_
    simp -implicitDefEqProofs only [go_sem, List.reduceReplicate, Nat.reduceAdd, Nat.reduceSub, Nat.reduceLT, Nat.reduceLeDiff, Nat.reduceMul, Nat.reduceEqDiff, reduceCtorEq, Int.reduceLE, Int.reduceLT, Int.reduceEq, Int.reduceNe, Int.reduceBEq, Int.reduceBNe, Int.reduceAdd, Int.reduceSub]
    exact Fini.ret rfl)
theorem rl8 (k : Int) (hk : k = 3 ∨ k = 4) (σ : St) (nm : ByteArray) (hn : nm ∈ names) : Ans Try.prog 19 [mat k nm ⟨#[97, 42, 97, 42, 97, 42, 97, 42, 97, 42, 97, 42, 97, 42, 97, 42, 97, 42, 97, 42, 97, 42, 97, 42, 97, 42, 97, 42]⟩] σ (Bo true) σ := by
  have hi := ri8 k hk σ nm hn
  rcases hk with rfl | rfl
  all_goals (
    refine Ans.of_run t19 ?_
    simp -implicitDefEqProofs only [c19, r19, go_sem, List.reduceReplicate, Nat.reduceAdd, Nat.reduceSub, Nat.reduceLT, Nat.reduceLeDiff, Nat.reduceMul, Nat.reduceEqDiff, reduceCtorEq, Int.reduceLE, Int.reduceLT, Int.reduceEq, Int.reduceNe, Int.reduceBEq, Int.reduceBNe, Int.reduceAdd, Int.reduceSub]
    refine CO.intro hi ?_
    simp -implicitDefEqProofs only [go_sem, List.reduceReplicate, Nat.reduceAdd, Nat.reduceSub, Nat.reduceLT, Nat.reduceLeDiff, Nat.reduceMul, Nat.reduceEqDiff, reduceCtorEq, Int.reduceLE, Int.reduceLT, Int.reduceEq, Int.reduceNe, Int.reduceBEq, Int.reduceBNe, Int.reduceAdd, Int.reduceSub]
    refine CO.intro (rlike_ans σ _ nm _) ?_
    simp -implicitDefEqProofs only [go_sem, List.reduceReplicate, Nat.reduceAdd, Nat.reduceSub, Nat.reduceLT, Nat.reduceLeDiff, Nat.reduceMul, Nat.reduceEqDiff, reduceCtorEq, Int.reduceLE, Int.reduceLT, Int.reduceEq, Int.reduceNe, Int.reduceBEq, Int.reduceBNe, Int.reduceAdd, Int.reduceSub, Bool.true_or, Bool.or_true]
    refine CO.intro (rp8_a σ) ?_
    simp -implicitDefEqProofs only [go_sem, List.reduceReplicate, Nat.reduceAdd, Nat.reduceSub, Nat.reduceLT, Nat.reduceLeDiff, Nat.reduceMul, Nat.reduceEqDiff, reduceCtorEq, Int.reduceLE, Int.reduceLT, Int.reduceEq, Int.reduceNe, Int.reduceBEq, Int.reduceBNe, Int.reduceAdd, Int.reduceSub]
    refine CO.intro (rs8_a σ) ?_
    simp -implicitDefEqProofs only [go_sem, List.reduceReplicate, Nat.reduceAdd, Nat.reduceSub, Nat.reduceLT, Nat.reduceLeDiff, Nat.reduceMul, Nat.reduceEqDiff, reduceCtorEq, Int.reduceLE, Int.reduceLT, Int.reduceEq, Int.reduceNe, Int.reduceBEq, Int.reduceBNe, Int.reduceAdd, Int.reduceSub]
    exact Fini.ret rfl)
theorem pr8 : PatR px8 st8 ⟨#[97, 42, 97, 42, 97, 42, 97, 42, 97, 42, 97, 42, 97, 42, 97, 42, 97, 42, 97, 42, 97, 42, 97, 42, 97, 42, 97, 42]⟩ false := by
  refine ⟨pat8, fun nm w x hn hw h48 h35 => ?_⟩
  have hr : ∀ (k : Int), (k = 3 ∨ k = 4) → ∀ σ, Ans Try.prog 20 [mat k nm ⟨#[97, 42, 97, 42, 97, 42, 97, 42, 97, 42, 97, 42, 97, 42, 97, 42, 97, 42, 97, 42, 97, 42, 97, 42, 97, 42, 97, 42]⟩, x] σ (Bo false) σ := by
    intro k hk σ
    have hi := ri8 k hk
    have hl := rl8 k hk
    refine Ans.of_run t20 ?_
    simp -implicitDefEqProofs only [c20, r20, go_sem, List.reduceReplicate, Nat.reduceAdd, Nat.reduceSub, Nat.reduceLT, Nat.reduceLeDiff, Nat.reduceMul, Nat.reduceEqDiff, reduceCtorEq, Int.reduceLE, Int.reduceLT, Int.reduceEq, Int.reduceNe, Int.reduceBEq, Int.reduceBNe, Int.reduceAdd, Int.reduceSub]
    refine CO.intro (hi σ nm hn) ?_
    simp -implicitDefEqProofs only [go_sem, List.reduceReplicate, Nat.reduceAdd, Nat.reduceSub, Nat.reduceLT, Nat.reduceLeDiff, Nat.reduceMul, Nat.reduceEqDiff, reduceCtorEq, Int.reduceLE, Int.reduceLT, Int.reduceEq, Int.reduceNe, Int.reduceBEq, Int.reduceBNe, Int.reduceAdd, Int.reduceSub]
    refine CO.intro (hl σ nm hn) ?_
    simp -implicitDefEqProofs only [go_sem, List.reduceReplicate, Nat.reduceAdd, Nat.reduceSub, Nat.reduceLT, Nat.reduceLeDiff, Nat.reduceMul, Nat.reduceEqDiff, reduceCtorEq, Int.reduceLE, Int.reduceLT, Int.reduceEq, Int.reduceNe, Int.reduceBEq, Int.reduceBNe, Int.reduceAdd, Int.reduceSub]
    exact Fini.ret rfl
  exact ⟨false, ⟨fun σ => holds3_ans σ nm _ pat8 x w h48 hn (b := false) (fun h => absurd h Bool.false_ne_true), hr 3 (.inl rfl)⟩, false, fun σ => holds4_ans σ nm _ pat8 x w h48 hn (b := false) (fun h => absurd h Bool.false_ne_true), hr 4 (.inr rfl)⟩

theorem patr_ok (p : ByteArray) (h : p ∈ pats) : ∃ rx st ok, PatR rx st p ok := by
  simp only [pats, List.mem_cons, List.not_mem_nil, or_false] at h
  rcases h with rfl | rfl | rfl | rfl | rfl | rfl | rfl | rfl | rfl
  · exact ⟨_, _, _, pr0⟩
  · exact ⟨_, _, _, pr1⟩
  · exact ⟨_, _, _, pr2⟩
  · exact ⟨_, _, _, pr3⟩
  · exact ⟨_, _, _, pr4⟩
  · exact ⟨_, _, _, pr5⟩
  · exact ⟨_, _, _, pr6⟩
  · exact ⟨_, _, _, pr7⟩
  · exact ⟨_, _, _, pr8⟩

theorem rhold12 (k : Int) (hk : k = 1 ∨ k = 2) (σ : St) (nm v w : ByteArray) (x : AV) (hn : nm ∈ names) (hv : v ∈ vals8) (hg : ∀ σ, Ans Try.prog 35 [x, Sx nm] σ (Sx w) σ) :
    Ans Try.prog 20 [mat k nm v, x] σ (Bo ((w.toList == v.toList) == (k == 1))) σ := by
  have d1 : decide (((v.size : Nat) : Int) ≤ 24) = true := by have := vals8_size v hv; simp; omega
  have hi : Ans Try.prog 17 [mat k nm v] σ (Bo true) σ := by
    rcases hk with rfl | rfl
    all_goals (
      refine Ans.of_run t17 ?_
      simp -implicitDefEqProofs only [c17, r17, go_sem, List.reduceReplicate, Nat.reduceAdd, Nat.reduceSub, Nat.reduceLT, Nat.reduceLeDiff, Nat.reduceMul, Nat.reduceEqDiff, reduceCtorEq, Int.reduceLE, Int.reduceLT, Int.reduceEq, Int.reduceNe, Int.reduceBEq, Int.reduceBNe, Int.reduceAdd, Int.reduceSub]
      refine CO.intro (rname_ans σ nm hn) ?_
      simp -implicitDefEqProofs only [go_sem, List.reduceReplicate, Nat.reduceAdd, Nat.reduceSub, Nat.reduceLT, Nat.reduceLeDiff, Nat.reduceMul, Nat.reduceEqDiff, reduceCtorEq, Int.reduceLE, Int.reduceLT, Int.reduceEq, Int.reduceNe, Int.reduceBEq, Int.reduceBNe, Int.reduceAdd, Int.reduceSub]
      refine CO.intro (rlike_ans σ _ nm _) ?_
      simp -implicitDefEqProofs only [go_sem, List.reduceReplicate, Nat.reduceAdd, Nat.reduceSub, Nat.reduceLT, Nat.reduceLeDiff, Nat.reduceMul, Nat.reduceEqDiff, reduceCtorEq, Int.reduceLE, Int.reduceLT, Int.reduceEq, Int.reduceNe, Int.reduceBEq, Int.reduceBNe, Int.reduceAdd, Int.reduceSub, d1, Bool.or_self]
      exact Fini.ret rfl)
  have hl : Ans Try.prog 19 [mat k nm v] σ (Bo false) σ := by
    rcases hk with rfl | rfl
    all_goals (
      refine Ans.of_run t19 ?_
      simp -implicitDefEqProofs only [c19, r19, go_sem, List.reduceReplicate, Nat.reduceAdd, Nat.reduceSub, Nat.reduceLT, Nat.reduceLeDiff, Nat.reduceMul, Nat.reduceEqDiff, reduceCtorEq, Int.reduceLE, Int.reduceLT, Int.reduceEq, Int.reduceNe, Int.reduceBEq, Int.reduceBNe, Int.reduceAdd, Int.reduceSub]
      refine CO.intro hi ?_
      simp -implicitDefEqProofs only [go_sem, List.reduceReplicate, Nat.reduceAdd, Nat.reduceSub, Nat.reduceLT, Nat.reduceLeDiff, Nat.reduceMul, Nat.reduceEqDiff, reduceCtorEq, Int.reduceLE, Int.reduceLT, Int.reduceEq, Int.reduceNe, Int.reduceBEq, Int.reduceBNe, Int.reduceAdd, Int.reduceSub]
      refine CO.intro (rlike_ans σ _ nm _) ?_
      simp -implicitDefEqProofs only [go_sem, List.reduceReplicate, Nat.reduceAdd, Nat.reduceSub, Nat.reduceLT, Nat.reduceLeDiff, Nat.reduceMul, Nat.reduceEqDiff, reduceCtorEq, Int.reduceLE, Int.reduceLT, Int.reduceEq, Int.reduceNe, Int.reduceBEq, Int.reduceBNe, Int.reduceAdd, Int.reduceSub, Bool.or_self]
      exact Fini.ret rfl)
  rcases hk with rfl | rfl
  all_goals (
    refine Ans.of_run t20 ?_
    simp -implicitDefEqProofs only [c20, r20, go_sem, List.reduceReplicate, Nat.reduceAdd, Nat.reduceSub, Nat.reduceLT, Nat.reduceLeDiff, Nat.reduceMul, Nat.reduceEqDiff, reduceCtorEq, Int.reduceLE, Int.reduceLT, Int.reduceEq, Int.reduceNe, Int.reduceBEq, Int.reduceBNe, Int.reduceAdd, Int.reduceSub]
    refine CO.intro hi ?_
    simp -implicitDefEqProofs only [go_sem, List.reduceReplicate, Nat.reduceAdd, Nat.reduceSub, Nat.reduceLT, Nat.reduceLeDiff, Nat.reduceMul, Nat.reduceEqDiff, reduceCtorEq, Int.reduceLE, Int.reduceLT, Int.reduceEq, Int.reduceNe, Int.reduceBEq, Int.reduceBNe, Int.reduceAdd, Int.reduceSub]
    refine CO.intro hl ?_
    simp -implicitDefEqProofs only [go_sem, List.reduceReplicate, Nat.reduceAdd, Nat.reduceSub, Nat.reduceLT, Nat.reduceLeDiff, Nat.reduceMul, Nat.reduceEqDiff, reduceCtorEq, Int.reduceLE, Int.reduceLT, Int.reduceEq, Int.reduceNe, Int.reduceBEq, Int.reduceBNe, Int.reduceAdd, Int.reduceSub]
    refine CO.intro (hg σ) ?_
    simp -implicitDefEqProofs only [go_sem, List.reduceReplicate, Nat.reduceAdd, Nat.reduceSub, Nat.reduceLT, Nat.reduceLeDiff, Nat.reduceMul, Nat.reduceEqDiff, reduceCtorEq, Int.reduceLE, Int.reduceLT, Int.reduceEq, Int.reduceNe, Int.reduceBEq, Int.reduceBNe, Int.reduceAdd, Int.reduceSub]
    refine Fini.ret ?_
    cases h : w.toList == v.toList <;> first | rfl | (simp -implicitDefEqProofs only [go_sem, List.reduceReplicate, Nat.reduceAdd, Nat.reduceSub, Nat.reduceLT, Nat.reduceLeDiff, Nat.reduceMul, Nat.reduceEqDiff, reduceCtorEq, Int.reduceLE, Int.reduceLT, Int.reduceEq, Int.reduceNe, Int.reduceBEq, Int.reduceBNe, Int.reduceAdd, Int.reduceSub, h]; rfl))
theorem holds_both (y : Mt) (hy : MOK y) (ns : List Int) : ∃ b, (∀ σ, Ans Try.prog 15 [mv y, setV (labs ns)] σ (Bo b) σ) ∧ (∀ σ, Ans Try.prog 20 [mv y, setV (labs ns)] σ (Bo b) σ) := by
  obtain ⟨k, n, v⟩ := y
  obtain ⟨h1, h2, h3, h4, h5⟩ := hy
  simp only at h1 h2 h3 h4 h5
  obtain ⟨w, hw, g48, g35⟩ := getv2 ns n
  have hk : k = 1 ∨ k = 2 ∨ k = 3 ∨ k = 4 := by omega
  rcases hk with rfl | rfl | rfl | rfl
  · have hv := h4 (by omega)
    refine ⟨_, fun σ => holds1_ans σ n v _ w g48 h3 hv, fun σ => ?_⟩
    have := rhold12 1 (.inl rfl) σ n v w _ h3 hv g35
    simpa using this
  · have hv := h4 (by omega)
    refine ⟨_, fun σ => holds2_ans σ n v _ w g48 h3 hv, fun σ => ?_⟩
    have := rhold12 2 (.inr rfl) σ n v w _ h3 hv g35
    simpa using this
  · obtain ⟨rx, st, ok, hp⟩ := patr_ok v (h5 (by omega))
    obtain ⟨b, hb, _⟩ := hp.both n w _ h3 hw g48 g35
    exact ⟨b, hb⟩
  · obtain ⟨rx, st, ok, hp⟩ := patr_ok v (h5 (by omega))
    obtain ⟨_, _, c, hc⟩ := hp.both n w _ h3 hw g48 g35
    exact ⟨c, hc⟩
end Go.Proofs.Ytoadgajhkhejiaa
