/- MatchDrawn answers true at any draw. No condition. -/
import Derived.Test.YtoadgajhkhejiaaRows
import Derived.Test.YtoadgajhkhejiaaDr8
import Derived.Test.YtoadgajhkhejiaaAbArg
import Derived.Test.YtoadgajhkhejiaaAbLaw
set_option linter.unusedSimpArgs false
set_option linter.unusedVariables false
namespace Go.Proofs.Ytoadgajhkhejiaa
open Go Go.Ab Go.ChangeShapes Go.WideShapes Go.ChangeAt Go.RowKit
set_option maxRecDepth 100000

theorem mr_a (σ : St) : Ans Try.prog 14 [] σ (Bo true) σ := mr_ok.frame (bel_all rfl) σ

/-- Where the first matcher stands that does not hold. -/
def badF (hb : Mt → Bool) : List Mt → Nat → Int
  | [], _ => -1
  | y :: l, i => if !hb y then i else badF hb l (i + 1)
theorem badF_all (hb : Mt → Bool) (l : List Mt) : ∀ i : Nat, decide (0 ≤ badF hb l i) = !(l.all hb) := by
  induction l with
  | nil => intro i; rfl
  | cons y l ih =>
    intro i
    rw [badF, List.all_cons]
    cases h : hb y
    · simp
    · simp only [Bool.not_true, Bool.false_eq_true, if_false, Bool.true_and]
      exact ih (i + 1)
theorem badF_no (hb : Mt → Bool) (l : List Mt) : ∀ i : Nat, badF hb l i = -1 ∨ 0 ≤ badF hb l i := by
  induction l with
  | nil => intro i; exact .inl rfl
  | cons y l ih =>
    intro i
    rw [badF]; split
    · exact .inr (by omega)
    · exact ih (i + 1)

section
variable (σ : St) (M : List Mt) (hl : M.length ≤ 5) (x : AV) (hx : x = .nils ∨ ∃ L, x = .sl 2 (lvs L)) (hb : Mt → Bool)
theorem not_ans (y : Mt) (h15 : ∀ σ, Ans Try.prog 15 [mv y, x] σ (Bo (hb y)) σ) (hx : x = .nils ∨ ∃ L, x = .sl 2 (lvs L)) : Ans Try.prog 68 [mv y, .rp [x]] σ (Bo (!hb y)) σ := by
  have h15' := h15 σ
  rcases hx with rfl | ⟨L, rfl⟩
  all_goals (
    refine Ans.of_run t68 ?_
    simp -implicitDefEqProofs only [c68, r68, go_sem, List.reduceReplicate, Nat.reduceAdd, Nat.reduceSub, Nat.reduceLT, Nat.reduceLeDiff, Nat.reduceMul, Nat.reduceEqDiff, reduceCtorEq, Int.reduceLE, Int.reduceLT, Int.reduceEq, Int.reduceNe, Int.reduceBEq, Int.reduceBNe, Int.reduceAdd, Int.reduceSub]
    refine CO.intro h15' ?_
    simp -implicitDefEqProofs only [go_sem, List.reduceReplicate, Nat.reduceAdd, Nat.reduceSub, Nat.reduceLT, Nat.reduceLeDiff, Nat.reduceMul, Nat.reduceEqDiff, reduceCtorEq, Int.reduceLE, Int.reduceLT, Int.reduceEq, Int.reduceNe, Int.reduceBEq, Int.reduceBNe, Int.reduceAdd, Int.reduceSub]
    exact Fini.ret rfl)
theorem find_ans (h15 : ∀ y ∈ M, ∀ σ, Ans Try.prog 15 [mv y, x] σ (Bo (hb y)) σ) (hl : M.length ≤ 5) (hx : x = .nils ∨ ∃ L, x = .sl 2 (lvs L)) : Ans Try.prog 104 [.sl 3 (mvs M), .fn 68 [] [.rp [x]]] σ (I (badF hb M 0)) σ := by
  refine Ans.of_run t104 ?_
  simp -implicitDefEqProofs only [c104, r104, go_sem, List.reduceReplicate, Nat.reduceAdd, Nat.reduceSub, Nat.reduceLT, Nat.reduceLeDiff, Nat.reduceMul, Nat.reduceEqDiff, reduceCtorEq, Int.reduceLE, Int.reduceLT, Int.reduceEq, Int.reduceNe, Int.reduceBEq, Int.reduceBNe, Int.reduceAdd, Int.reduceSub, mvs_len]
  generalize hres : badF hb M 0 = res
  refine Go.Ab.L.intro (α := { i : Nat // i ≤ M.length ∧ badF hb (M.drop i) i = res }) (fun z => M.length - z.1)
    (fun z => mkE 19 [(0, .sl 3 (mvs M)), (1, .fn 68 [] [.rp [x]]), (7, I ((M.length : Nat) : Int)), (8, I z.1)]) (fun _ => σ) (fun z J hJ => ?_) ⟨0, Nat.zero_le _, hres⟩ rfl rfl
  obtain ⟨i, hi, hg⟩ := z
  simp only at hJ ⊢
  by_cases hlt : i < M.length
  · rw [List.drop_eq_getElem_cons hlt, badF] at hg
    have hy := mvs_get M i hlt
    have hn := not_ans σ x hb M[i] (h15 _ (List.getElem_mem hlt)) hx
    simp -implicitDefEqProofs only [mkE, List.foldl_cons, List.foldl_nil, go_sem, List.reduceReplicate, Nat.reduceAdd, Nat.reduceSub, Nat.reduceLT, Nat.reduceLeDiff, Nat.reduceMul, Nat.reduceEqDiff, reduceCtorEq, Int.reduceLE, Int.reduceLT, Int.reduceEq, Int.reduceNe, Int.reduceBEq, Int.reduceBNe, Int.reduceAdd, Int.reduceSub, nat_lt hlt, dec_lt hlt, hy, mvs_len]
    refine CO.intro hn ?_
    cases he : hb M[i]
    · rw [he, Bool.not_false, if_pos rfl] at hg
      simp -implicitDefEqProofs only [go_sem, List.reduceReplicate, Nat.reduceAdd, Nat.reduceSub, Nat.reduceLT, Nat.reduceLeDiff, Nat.reduceMul, Nat.reduceEqDiff, reduceCtorEq, Int.reduceLE, Int.reduceLT, Int.reduceEq, Int.reduceNe, Int.reduceBEq, Int.reduceBNe, Int.reduceAdd, Int.reduceSub]
      rw [← hg]
      exact Fini.ret rfl
    · rw [he, Bool.not_true, if_neg Bool.false_ne_true] at hg
      have hJ' := hJ ⟨i + 1, hlt, hg⟩ (by simp only; omega)
      simp only at hJ'
      simp -implicitDefEqProofs only [go_sem, List.reduceReplicate, Nat.reduceAdd, Nat.reduceSub, Nat.reduceLT, Nat.reduceLeDiff, Nat.reduceMul, Nat.reduceEqDiff, reduceCtorEq, Int.reduceLE, Int.reduceLT, Int.reduceEq, Int.reduceNe, Int.reduceBEq, Int.reduceBNe, Int.reduceAdd, Int.reduceSub, wrap_succ (show i ≤ 100000 by omega)]
      exact hJ'
  · have : i = M.length := by omega
    subst this
    rw [List.drop_length, badF] at hg
    simp -implicitDefEqProofs only [mkE, List.foldl_cons, List.foldl_nil, go_sem, List.reduceReplicate, Nat.reduceAdd, Nat.reduceSub, Nat.reduceLT, Nat.reduceLeDiff, Nat.reduceMul, Nat.reduceEqDiff, reduceCtorEq, Int.reduceLE, Int.reduceLT, Int.reduceEq, Int.reduceNe, Int.reduceBEq, Int.reduceBNe, Int.reduceAdd, Int.reduceSub, nat_nlt hlt, dec_nlt hlt, mvs_len]
    rw [← hg]
    exact Fini.ret rfl
theorem allm_ans (h15 : ∀ y ∈ M, ∀ σ, Ans Try.prog 15 [mv y, x] σ (Bo (hb y)) σ) (hl : M.length ≤ 5) (hx : x = .nils ∨ ∃ L, x = .sl 2 (lvs L)) : Ans Try.prog 25 [.sl 3 (mvs M), x] σ (Bo (M.all hb)) σ := by
  have hf := find_ans σ M x hb h15 hl hx
  have hd := badF_all hb M 0
  have h67 : Ans Try.prog 67 [.sl 3 (mvs M), .fn 68 [] [.rp [x]]] σ (Bo (!(M.all hb))) σ := by
    refine Ans.of_run t67 ?_
    simp -implicitDefEqProofs only [c67, r67, go_sem, List.reduceReplicate, Nat.reduceAdd, Nat.reduceSub, Nat.reduceLT, Nat.reduceLeDiff, Nat.reduceMul, Nat.reduceEqDiff, reduceCtorEq, Int.reduceLE, Int.reduceLT, Int.reduceEq, Int.reduceNe, Int.reduceBEq, Int.reduceBNe, Int.reduceAdd, Int.reduceSub]
    refine CO.intro hf ?_
    simp -implicitDefEqProofs only [go_sem, List.reduceReplicate, Nat.reduceAdd, Nat.reduceSub, Nat.reduceLT, Nat.reduceLeDiff, Nat.reduceMul, Nat.reduceEqDiff, reduceCtorEq, Int.reduceLE, Int.reduceLT, Int.reduceEq, Int.reduceNe, Int.reduceBEq, Int.reduceBNe, Int.reduceAdd, Int.reduceSub, hd]
    exact Fini.ret rfl
  have e : (!(!(M.all hb))) = M.all hb := Bool.not_not _
  rcases hx with rfl | ⟨L, rfl⟩
  all_goals (
    refine Ans.of_run t25 ?_
    simp -implicitDefEqProofs only [c25, r25, go_sem, List.reduceReplicate, Nat.reduceAdd, Nat.reduceSub, Nat.reduceLT, Nat.reduceLeDiff, Nat.reduceMul, Nat.reduceEqDiff, reduceCtorEq, Int.reduceLE, Int.reduceLT, Int.reduceEq, Int.reduceNe, Int.reduceBEq, Int.reduceBNe, Int.reduceAdd, Int.reduceSub]
    refine CO.intro h67 ?_
    simp -implicitDefEqProofs only [go_sem, List.reduceReplicate, Nat.reduceAdd, Nat.reduceSub, Nat.reduceLT, Nat.reduceLeDiff, Nat.reduceMul, Nat.reduceEqDiff, reduceCtorEq, Int.reduceLE, Int.reduceLT, Int.reduceEq, Int.reduceNe, Int.reduceBEq, Int.reduceBNe, Int.reduceAdd, Int.reduceSub, e]
    exact Fini.ret rfl)
end
theorem setV_form (ns : List Int) : setV (labs ns) = .nils ∨ ∃ L, setV (labs ns) = .sl 2 (lvs L) := by
  unfold setV; split
  · exact .inr ⟨_, rfl⟩
  · exact .inl rfl
theorem take_all (M : List Mt) (hb : Mt → Bool) (i : Nat) (hi : i < M.length) : (M.take (i + 1)).all hb = ((M.take i).all hb && hb M[i]) := by
  rw [List.take_succ_eq_append_getElem hi, List.all_append]; simp

theorem matchDrawn_ans (ds : List (Int × Int × Int)) (hds : ds.length ≤ 9223372036854775807) (ns : List Int) : Ans Try.prog 6 [.sl 3 (ds.map dv), .sl 1 (ns.map I)] [] (.pl (.bool true)) [] := by
  obtain ⟨hl, ho, ha⟩ := mats_ok ds
  have hm := mats_ans [] ds hds
  have hlab := labels_ans [] ns
  have hx := setV_form ns
  have hboth : ∀ y : Mt, ∃ b, MOK y → (∀ σ, Ans Try.prog 15 [mv y, setV (labs ns)] σ (Bo b) σ) ∧ (∀ σ, Ans Try.prog 20 [mv y, setV (labs ns)] σ (Bo b) σ) := fun y => by
    by_cases h : MOK y
    · obtain ⟨b, hb⟩ := holds_both y h ns
      exact ⟨b, fun _ => hb⟩
    · exact ⟨false, fun h' => absurd h' h⟩
  obtain ⟨hb, hbs⟩ := Classical.axiomOfChoice hboth
  generalize setV (labs ns) = x at hlab hx hbs
  generalize matsGo ds [] = M at hl ho ha hm
  have h15 : ∀ y ∈ M, ∀ σ, Ans Try.prog 15 [mv y, x] σ (Bo (hb y)) σ := fun y hy => (hbs y (ho y hy)).1
  have h20 : ∀ y ∈ M, ∀ σ, Ans Try.prog 20 [mv y, x] σ (Bo (hb y)) σ := fun y hy => (hbs y (ho y hy)).2
  have hlist := list_ans [] M hl ho ha
  have hall := allm_ans [] M x hb h15 hl hx
  have hbe : ∀ b : Bool, (b != b) = false := fun b => by cases b <;> rfl
  have hbe2 : ∀ b : Bool, (b == b) = true := fun b => by cases b <;> rfl
  refine Ans.of_run t6 ?_
  simp -implicitDefEqProofs only [c6, r6, go_sem, List.reduceReplicate, Nat.reduceAdd, Nat.reduceSub, Nat.reduceLT, Nat.reduceLeDiff, Nat.reduceMul, Nat.reduceEqDiff, reduceCtorEq, Int.reduceLE, Int.reduceLT, Int.reduceEq, Int.reduceNe, Int.reduceBEq, Int.reduceBNe, Int.reduceAdd, Int.reduceSub]
  refine CO.intro hm ?_
  simp -implicitDefEqProofs only [go_sem, List.reduceReplicate, Nat.reduceAdd, Nat.reduceSub, Nat.reduceLT, Nat.reduceLeDiff, Nat.reduceMul, Nat.reduceEqDiff, reduceCtorEq, Int.reduceLE, Int.reduceLT, Int.reduceEq, Int.reduceNe, Int.reduceBEq, Int.reduceBNe, Int.reduceAdd, Int.reduceSub]
  refine CO.intro hlab ?_
  simp -implicitDefEqProofs only [go_sem, List.reduceReplicate, Nat.reduceAdd, Nat.reduceSub, Nat.reduceLT, Nat.reduceLeDiff, Nat.reduceMul, Nat.reduceEqDiff, reduceCtorEq, Int.reduceLE, Int.reduceLT, Int.reduceEq, Int.reduceNe, Int.reduceBEq, Int.reduceBNe, Int.reduceAdd, Int.reduceSub]
  refine Go.Ab.L.count M.length (fun i => mkE 50 [(5, .sl 3 (mvs M)), (6, x), (7, Bo ((M.take i).all hb)), (8, I i)]) (fun _ => []) ?_ ?_ rfl rfl
  · intro i hi Q hQ
    have hy := mvs_get M i hi
    have hws : IntKind.i64.wrap ((i : Int) + 1) = ((i + 1 : Nat) : Int) := wrap_succ (by omega)
    rw [take_all M hb i hi] at hQ
    have a15 := h15 M[i] (List.getElem_mem hi) []
    have a20 := h20 M[i] (List.getElem_mem hi) []
    generalize hb M[i] = b at hQ a15 a20
    simp -implicitDefEqProofs only [mkE, List.foldl_cons, List.foldl_nil, go_sem, List.reduceReplicate, Nat.reduceAdd, Nat.reduceSub, Nat.reduceLT, Nat.reduceLeDiff, Nat.reduceMul, Nat.reduceEqDiff, reduceCtorEq, Int.reduceLE, Int.reduceLT, Int.reduceEq, Int.reduceNe, Int.reduceBEq, Int.reduceBNe, Int.reduceAdd, Int.reduceSub, mvs_len, nat_lt hi, dec_lt hi, hy]
    refine CO.intro a15 ?_
    cases hc : (M.take i).all hb
    · rw [hc] at hQ
      simp -implicitDefEqProofs only [go_sem, List.reduceReplicate, Nat.reduceAdd, Nat.reduceSub, Nat.reduceLT, Nat.reduceLeDiff, Nat.reduceMul, Nat.reduceEqDiff, reduceCtorEq, Int.reduceLE, Int.reduceLT, Int.reduceEq, Int.reduceNe, Int.reduceBEq, Int.reduceBNe, Int.reduceAdd, Int.reduceSub, mvs_len, nat_lt hi, hy]
      refine CO.intro a20 ?_
      simp -implicitDefEqProofs only [go_sem, List.reduceReplicate, Nat.reduceAdd, Nat.reduceSub, Nat.reduceLT, Nat.reduceLeDiff, Nat.reduceMul, Nat.reduceEqDiff, reduceCtorEq, Int.reduceLE, Int.reduceLT, Int.reduceEq, Int.reduceNe, Int.reduceBEq, Int.reduceBNe, Int.reduceAdd, Int.reduceSub, hbe, hws]
      exact hQ
    · rw [hc] at hQ
      simp -implicitDefEqProofs only [go_sem, List.reduceReplicate, Nat.reduceAdd, Nat.reduceSub, Nat.reduceLT, Nat.reduceLeDiff, Nat.reduceMul, Nat.reduceEqDiff, reduceCtorEq, Int.reduceLE, Int.reduceLT, Int.reduceEq, Int.reduceNe, Int.reduceBEq, Int.reduceBNe, Int.reduceAdd, Int.reduceSub, mvs_len, nat_lt hi, hy]
      refine CO.intro a20 ?_
      simp -implicitDefEqProofs only [go_sem, List.reduceReplicate, Nat.reduceAdd, Nat.reduceSub, Nat.reduceLT, Nat.reduceLeDiff, Nat.reduceMul, Nat.reduceEqDiff, reduceCtorEq, Int.reduceLE, Int.reduceLT, Int.reduceEq, Int.reduceNe, Int.reduceBEq, Int.reduceBNe, Int.reduceAdd, Int.reduceSub, hbe, hws]
      exact hQ
  · intro Q
    have hlt : ¬ M.length < M.length := Nat.lt_irrefl _
    rw [List.take_length]
    simp -implicitDefEqProofs only [mkE, List.foldl_cons, List.foldl_nil, go_sem, List.reduceReplicate, Nat.reduceAdd, Nat.reduceSub, Nat.reduceLT, Nat.reduceLeDiff, Nat.reduceMul, Nat.reduceEqDiff, reduceCtorEq, Int.reduceLE, Int.reduceLT, Int.reduceEq, Int.reduceNe, Int.reduceBEq, Int.reduceBNe, Int.reduceAdd, Int.reduceSub, mvs_len, nat_nlt hlt, dec_nlt hlt]
    refine CO.intro hlist ?_
    simp -implicitDefEqProofs only [go_sem, List.reduceReplicate, Nat.reduceAdd, Nat.reduceSub, Nat.reduceLT, Nat.reduceLeDiff, Nat.reduceMul, Nat.reduceEqDiff, reduceCtorEq, Int.reduceLE, Int.reduceLT, Int.reduceEq, Int.reduceNe, Int.reduceBEq, Int.reduceBNe, Int.reduceAdd, Int.reduceSub]
    refine CO.intro hall ?_
    simp -implicitDefEqProofs only [go_sem, List.reduceReplicate, Nat.reduceAdd, Nat.reduceSub, Nat.reduceLT, Nat.reduceLeDiff, Nat.reduceMul, Nat.reduceEqDiff, reduceCtorEq, Int.reduceLE, Int.reduceLT, Int.reduceEq, Int.reduceNe, Int.reduceBEq, Int.reduceBNe, Int.reduceAdd, Int.reduceSub, hbe2]
    refine CO.intro (mr_a []) ?_
    simp -implicitDefEqProofs only [go_sem, List.reduceReplicate, Nat.reduceAdd, Nat.reduceSub, Nat.reduceLT, Nat.reduceLeDiff, Nat.reduceMul, Nat.reduceEqDiff, reduceCtorEq, Int.reduceLE, Int.reduceLT, Int.reduceEq, Int.reduceNe, Int.reduceBEq, Int.reduceBNe, Int.reduceAdd, Int.reduceSub]
    exact Fini.ret rfl

theorem ints_of : ∀ {ys : List (List AV)}, (∀ y ∈ ys, QInt .i64 y) → ∃ ns : List Int, ys.map (wrapC false) = ns.map I
  | [], _ => ⟨[], rfl⟩
  | y :: ys, h => by
    obtain ⟨n, _, rfl⟩ := h y List.mem_cons_self
    obtain ⟨ns, hns⟩ := ints_of fun y hy => h y (List.mem_cons_of_mem _ hy)
    exact ⟨n :: ns, by rw [List.map_cons, hns]; rfl⟩
theorem ints_arg {H : Type} {enc : TypeId × Value → H} {W : World} {base : Nat} {v : Value} {d : DataW H} {ps : List MemPlace} (hv : Value.okWide Try.prog W .any base 34 v)
    (h : DataW.Trod enc Try.prog W 0 (fun _ => true) true 34 v d ps) : ∃ ns : List Int, Rep noM noR W (.sl 1 (ns.map I)) v := by
  obtain ⟨sa, len, cap, rfl⟩ := okWide_slice Try.underlying34 hv
  obtain ⟨x, hx, hq⟩ := Reads.arg (P := Try.prog) (t := 34) (Q := QSlice 1 false (QInt .i64)) (fun f => by
    cases f with
    | zero => exact Reads.zero
    | succ f => exact Reads.slice false Try.underlying34 (by kernel_rfl) (by decide) (Reads.int Try.underlying3 f) (fun y hy _ => by obtain ⟨n, _, rfl⟩ := hy; rfl)) rfl h
  rcases hq with hq | ⟨ys, hys, _, hq⟩
  · simp only [List.cons.injEq, and_true] at hq
    subst hq
    refine ⟨[], ?_⟩
    cases hx
    exact .sl0 _ _ _
  · obtain ⟨ns, hn⟩ := ints_of hys
    simp only [List.cons.injEq, and_true] at hq
    subst hq
    rw [hn] at hx
    exact ⟨ns, hx⟩

theorem own_knob : ownKnob Try.prog.godebug = none := by kernel_rfl
theorem laid_out : laidOutB Try.prog = true := by kernel_rfl

def QMat : List AV → Prop := fun xs => ∃ d : Int × Int × Int, xs = [I d.1, I d.2.1, I d.2.2]
theorem reads_mat (f : Nat) : Reads Try.prog 33 f QMat := by
  cases f with
  | zero => exact Reads.zero
  | succ f =>
    have h := Reads.struct (P := Try.prog) (t := 33) (f := f) (Qs := [QInt .i64, QInt .i64, QInt .i64]) Try.underlying33 (by kernel_rfl) rfl (by
      intro p hp
      simp only [List.zip_cons_cons, List.zip_nil_right, List.mem_cons, List.not_mem_nil, or_false] at hp
      rcases hp with rfl | rfl | rfl
      · exact Reads.int Try.underlying3 f
      · exact Reads.int Try.underlying3 f
      · exact Reads.int Try.underlying3 f)
    refine h.mono fun xs hq => ?_
    obtain ⟨_, b, rfl, ⟨k, _, rfl⟩, _, d, rfl, ⟨n, _, rfl⟩, _, _, rfl, ⟨v, _, rfl⟩, rfl⟩ := hq
    exact ⟨(k, n, v), rfl⟩
theorem mats_of : ∀ {ys : List (List AV)}, (∀ y ∈ ys, QMat y) → ∃ ds : List (Int × Int × Int), ds.length = ys.length ∧ ys.map (wrapC true) = ds.map dv
  | [], _ => ⟨[], rfl, rfl⟩
  | y :: ys, h => by
    obtain ⟨d, rfl⟩ := h y List.mem_cons_self
    obtain ⟨ds, hl, hns⟩ := mats_of fun y hy => h y (List.mem_cons_of_mem _ hy)
    exact ⟨d :: ds, by simp [hl], by rw [List.map_cons, hns]; rfl⟩
theorem mats_arg {H : Type} {enc : TypeId × Value → H} {W : World} {base : Nat} {v : Value} {d : DataW H} {ps : List MemPlace} (hv : Value.okWide Try.prog W .any base 39 v)
    (h : DataW.Trod enc Try.prog W 0 (fun _ => true) true 39 v d ps) : ∃ ds : List (Int × Int × Int), ds.length ≤ 9223372036854775807 ∧ Rep noM noR W (.sl 3 (ds.map dv)) v := by
  obtain ⟨sa, len, cap, rfl⟩ := okWide_slice Try.underlying39 hv
  obtain ⟨x, hx, hq⟩ := Reads.arg (P := Try.prog) (t := 39) (Q := QSlice 3 true QMat) (fun f => by
    cases f with
    | zero => exact Reads.zero
    | succ f => exact Reads.slice true Try.underlying39 (by kernel_rfl) (by decide) (reads_mat f) (fun _ _ _ => rfl)) rfl h
  rcases hq with hq | ⟨ys, hys, hlen, hq⟩
  · simp only [List.cons.injEq, and_true] at hq
    subst hq
    refine ⟨[], by simp, ?_⟩
    cases hx
    exact .sl0 _ _ _
  · obtain ⟨ns, hl, hn⟩ := mats_of hys
    simp only [List.cons.injEq, and_true] at hq
    subst hq
    rw [hn] at hx
    have hml : maxLen = 9223372036854775807 := by decide
    exact ⟨ns, by omega, hx⟩

theorem matchDrawn_lifted (os : Os) (started : os.Started) (H : Type) (enc : TypeId × Value → H) :
    ReturnsInHanded {} Try.checked os 6 .any (Rows.matchDrawnSpec.pre6 enc Try.prog Try.f6 Rows.matchDrawnRow.domain false) (Rows.matchDrawnSpec.post enc Try.prog Try.f6 false true false false) := by
  refine returnsInHanded_of_change (C := Try.checked) own_knob started (by kernel_rfl) Try.func6
    (ChangeSpec.witness6 (enc := enc) (C := Try.checked) false ⟨#[], #[.slice none 0 0, .slice none 0 0], []⟩ 8 (by kernel_rfl) (by kernel_rfl) (by kernel_rfl) (by kernel_rfl)) ?_
  intro W base args ds gs before hval0 hW hcnd _
  have hval : ∀ (j : Nat) t v, Try.f6.params[j]? = some t → args[j]? = some v → Value.okWide Try.prog W .any base t v := hval0
  have hW' := hW
  obtain ⟨p, q, hA0, hV, rfl, hfz, hnd⟩ := hW
  have hA : DataW.TrodAll enc Try.prog W 0 (fun _ => true) true Try.f6.params.toList args.toList ds p := hA0
  rw [Try.params6] at hA hval
  obtain ⟨v0, vs0, d0, ds0, a0, b0, hargs, rfl, rfl, h0, hA⟩ := trodAll_cons hA
  obtain ⟨v1, vs1, d1, ds1, a1, b1, rfl, rfl, rfl, h1, hA⟩ := trodAll_cons hA
  obtain ⟨rfl, rfl, rfl⟩ := trodAll_nil hA
  have : args = #[v0, v1] := by cases args; simpa using hargs
  subst this
  obtain ⟨es, hes, r0⟩ := mats_arg (hval 0 39 v0 rfl rfl) h0
  obtain ⟨ns, r1⟩ := ints_arg (hval 1 34 v1 rfl rfl) h1
  refine (Ans.law (P := Try.prog) (W := W) (vs := [v0, v1]) Try.func6 (by kernel_rfl) (by kernel_rfl) (matchDrawn_ans es hes ns) (Reps.cons r0 (Reps.cons r1 Reps.nil))).mono fun e W' ⟨v, he, hk, M', R', hr⟩ => ?_
  cases hr
  exact ⟨_, he, law_post (P := Try.prog) laid_out (by
      intro t ht
      rw [Try.params6] at ht
      simp only [List.mem_cons, List.not_mem_nil, or_false] at ht
      rcases ht with rfl | rfl
      · exact ⟨by kernel_rfl, of_decide_eq_true (by kernel_rfl)⟩
      · exact ⟨by kernel_rfl, of_decide_eq_true (by kernel_rfl)⟩) rfl rfl (tb := 4) (by kernel_rfl) hW' (fun ds h => by
    match ds, h with
    | [_, _], _ => exact ⟨rfl, rfl, rfl⟩) hk⟩

theorem matchDrawn_holds : Rows.MatchDrawnSaid :=
  OpenClaim.holds_of_wide 6 Try.f6 rfl rfl rfl rfl rfl rfl rfl ⟨rfl, rfl, rfl, rfl, rfl⟩ rfl rfl rfl rfl rfl (by kernel_rfl) Try.func6 (by kernel_rfl)
    (of_decide_eq_true (by kernel_rfl)) (by unfold Func.isWrapper; first | (rw [if_pos (by decide +kernel)]; kernel_rfl) | (rw [if_neg (by decide +kernel)]; exact ⟨rfl, rfl⟩))
    (fun os started H enc _ => matchDrawn_lifted os started H enc)
end Go.Proofs.Ytoadgajhkhejiaa
