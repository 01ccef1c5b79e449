/- ProgSizes answers true at any tree. No condition. -/
import Derived.Test.YtoiageeecdgleaaLay6
import Derived.Test.YtoiageeecdgleaaTree4
set_option linter.unusedSimpArgs false
set_option linter.unusedVariables false
namespace Go.Proofs.Ytoiageeecdgleaa
open Go Go.Ab Go.ChangeShapes Go.WideShapes Go.ChangeAt Go.RowKit
set_option maxRecDepth 100000
open Rex

def okS (N : Int) (s : Stp) : Prop := s.op ≠ 4 ∧ rightS s N false = true

theorem ok_split (N : Int) (a b : Int) (ha : 0 ≤ a) (ha' : a < N) (hb : 0 ≤ b) (hb' : b < N) : okS N ⟨2, 0, 0, 0, 0, a, b⟩ := by
  refine ⟨by simp, ?_⟩
  simp [rightS, Stp.none, inR, ha, ha', hb, hb']
theorem ok_jump (N : Int) (a : Int) (ha : 0 ≤ a) (ha' : a < N) : okS N ⟨3, 0, 0, 0, 0, a, 0⟩ := by
  refine ⟨by simp, ?_⟩
  simp [rightS, Stp.none, inR, ha, ha']
theorem ok_byte (N : Int) (a b c d : Int) : okS N ⟨1, a, b, c, d, 0, 0⟩ := ⟨by simp, by simp [rightS]⟩

theorem lay_ok (N : Int) (n : Nat) (x : Rex) (h : ((n + (lay n x).length : Nat) : Int) < N) : ∀ s ∈ lay n x, okS N s := by
  have hL : ∀ (l : List Rex), (∀ k ∈ l, k ∈ x.ks) → ∀ n, ((n + (layL n l).length : Nat) : Int) < N → ∀ s ∈ layL n l, okS N s := by
    intro l
    induction l with
    | nil => intro _ n _ s hs; simp [layL] at hs
    | cons k l ih =>
      intro hl n hn s hs
      simp only [layL, List.length_append] at hn hs
      rcases List.mem_append.1 hs with hs | hs
      · exact lay_ok N n k (by omega) s hs
      · exact ih (fun k hk => hl k (by simp [hk])) _ (by omega) s hs
  have hW : ∀ (l : List Rex), (∀ k ∈ l, k ∈ x.ks) → ∀ n fin, ((n + (layW n fin l).length : Nat) : Int) < N → 0 ≤ fin → fin < N → ∀ s ∈ layW n fin l, okS N s := by
    intro l
    induction l with
    | nil => intro _ n fin _ _ _ s hs; simp [layW] at hs
    | cons k l ih =>
      intro hl n fin hn h0 h1 s hs
      rw [layW] at hn hs
      split at hs
      · rename_i he
        rw [if_pos he] at hn
        exact lay_ok N n k (by omega) s hs
      · rename_i he
        rw [if_neg he] at hn
        simp only [List.length_cons, List.length_append] at hn
        simp only [List.mem_cons, List.mem_append] at hs
        rcases hs with rfl | hs | rfl | hs
        · exact ok_split N _ _ (by omega) (by omega) (by omega) (by omega)
        · exact lay_ok N (n + 1) k (by omega) s hs
        · exact ok_jump N _ h0 h1
        · exact ih (fun k hk => hl k (by simp [hk])) _ _ (by omega) h0 h1 s hs
  have hH : ∀ (l : List Rex), (∀ k ∈ l, k ∈ x.ks) → ∀ n, ((n + (layH n l).length : Nat) : Int) < N → ∀ s ∈ layH n l, okS N s := by
    intro l hl n hn s hs
    cases l with
    | nil => simp [layH] at hs
    | cons k l => exact lay_ok N n k (by simpa [layH] using hn) s (by simpa [layH] using hs)
  have hlw : ∀ (l : List Rex) n f g, (layW n f l).length = (layW n g l).length := by
    intro l
    induction l with
    | nil => intro n f g; rfl
    | cons k l ih =>
      intro n f g
      rw [layW, layW]
      split
      · rfl
      · simp only [List.length_cons, List.length_append, ih _ f g]
  intro s hs
  rw [lay_eq] at h hs
  split at hs
  · simp only [List.mem_singleton] at hs
    subst hs
    exact ok_byte N _ _ _ _
  rename_i h1
  rw [if_neg h1] at h
  split at hs
  · rename_i h2
    rw [if_pos h2] at h
    exact hL x.ks (fun _ h => h) n h s hs
  rename_i h2
  rw [if_neg h2] at h
  split at hs
  · rename_i h3
    rw [if_pos h3] at h
    refine hW x.ks (fun _ h => h) n _ h (by omega) ?_ s hs
    rw [hlw x.ks n _ 0] at h
    exact h
  rename_i h3
  rw [if_neg h3] at h
  split at hs
  · rename_i h4
    rw [if_pos h4] at h
    simp only [List.length_cons, List.length_append, List.length_nil] at h
    simp only [List.mem_cons, List.mem_append, List.not_mem_nil, or_false] at hs
    rcases hs with rfl | hs | rfl
    · exact ok_split N _ _ (by omega) (by omega) (by omega) (by omega)
    · exact hH x.ks (fun _ h => h) (n + 1) (by omega) s hs
    · exact ok_jump N _ (by omega) (by omega)
  rename_i h4
  rw [if_neg h4] at h
  split at hs
  · rename_i h5
    rw [if_pos h5] at h
    simp only [List.length_cons, List.length_append, List.length_nil] at h
    simp only [List.mem_cons, List.mem_append, List.not_mem_nil, or_false] at hs
    rcases hs with hs | rfl
    · exact hH x.ks (fun _ h => h) n (by omega) s hs
    · exact ok_split N _ _ (by omega) (by omega) (by omega) (by omega)
  rename_i h5
  rw [if_neg h5] at h
  split at hs
  · rename_i h6
    rw [if_pos h6] at h
    simp only [List.length_cons] at h
    simp only [List.mem_cons] at hs
    rcases hs with rfl | hs
    · exact ok_split N _ _ (by omega) (by omega) (by omega) (by omega)
    · exact hH x.ks (fun _ h => h) (n + 1) (by omega) s hs
  · cases hs
termination_by SizeOf.sizeOf x
decreasing_by
  · exact lt_of_mem (hl k (by simp))
  · exact lt_of_mem (hl k (by simp))
  · exact lt_of_mem (hl k (by simp))
  · exact lt_of_mem (hl k (by simp))

theorem made_facts {x : Rex} {l : List Stp} (h : x.made = some l) : x.is = true ∧ x.size + 1 ≤ 40 ∧ 0 ≤ x.size ∧ l = lay 0 x ++ [⟨4, 0, 0, 0, 0, 0, 0⟩] ∧ (l.length : Int) = x.size + 1 := by
  unfold Rex.made at h
  split at h
  · rename_i hx
    cases h
    have := lay_len 0 x hx.1
    exact ⟨hx.1, hx.2, by omega, rfl, by simp; omega⟩
  · cases h

theorem made_check {x : Rex} {l : List Stp} (h : x.made = some l) : pcheck l = true := by
  obtain ⟨h1, h2, h3, rfl, h4⟩ := made_facts h
  have hl := lay_len 0 x h1
  have hok := lay_ok ((lay 0 x ++ [(⟨4, 0, 0, 0, 0, 0, 0⟩ : Stp)]).length : Int) 0 x (by simp; omega)
  have e1 : decide (((lay 0 x ++ [(⟨4, 0, 0, 0, 0, 0, 0⟩ : Stp)]).length : Int) < 1) = false := by simp; omega
  have e2 : decide ((40 : Int) < ((lay 0 x ++ [(⟨4, 0, 0, 0, 0, 0, 0⟩ : Stp)]).length : Nat)) = false := by simp; omega
  have e3 : (lay 0 x ++ [(⟨4, 0, 0, 0, 0, 0, 0⟩ : Stp)]).length - 1 = (lay 0 x).length := by simp
  rw [pcheck, e1, e2, e3]
  simp only [Bool.false_eq_true, if_false]
  rw [List.take_left, List.getElem?_append_right (Nat.le_refl _)]
  simp only [Nat.sub_self, List.getElem?_cons_zero, Bool.and_eq_true, Bool.not_eq_true', List.any_eq_false]
  refine ⟨fun s hs => by rw [(hok s hs).2]; simp, ?_⟩
  simp [rightS, Stp.none]

theorem progSizes_ans (x : Rex) : Ans Try.prog 7 [x.av] [] (.pl (.bool true)) [] := by
  have hnx := nodes_ans [] x 60 (by decide) (by decide)
  have cx := cut_le x 60 (by decide)
  have qx := cut_nodes x 60 (by decide)
  have hrun : Ans Try.prog 3 [] [] (Bo true) [] := runs_ans
  by_cases k1 : (60 : Int) < x.cut 60
  · have k1' : decide ((60 : Int) < x.cut 60) = true := by simpa using k1
    rw [av_eq] at hnx ⊢
    refine Ans.of_run t7 ?_
    simp -implicitDefEqProofs only [c7, r7, go_sem, List.reduceReplicate, Nat.reduceAdd, Nat.reduceSub, Nat.reduceLT, Nat.reduceLeDiff, Nat.reduceMul, Nat.reduceEqDiff, reduceCtorEq, Int.reduceLE, Int.reduceLT, Int.reduceEq, Int.reduceNe, Int.reduceBEq, Int.reduceBNe, Int.reduceAdd, Int.reduceSub]
    refine CO.intro hnx ?_
    simp -implicitDefEqProofs only [go_sem, List.reduceReplicate, Nat.reduceAdd, Nat.reduceSub, Nat.reduceLT, Nat.reduceLeDiff, Nat.reduceMul, Nat.reduceEqDiff, reduceCtorEq, Int.reduceLE, Int.reduceLT, Int.reduceEq, Int.reduceNe, Int.reduceBEq, Int.reduceBNe, Int.reduceAdd, Int.reduceSub, k1']
    refine CO.intro hrun ?_
    simp -implicitDefEqProofs only [go_sem, List.reduceReplicate, Nat.reduceAdd, Nat.reduceSub, Nat.reduceLT, Nat.reduceLeDiff, Nat.reduceMul, Nat.reduceEqDiff, reduceCtorEq, Int.reduceLE, Int.reduceLT, Int.reduceEq, Int.reduceNe, Int.reduceBEq, Int.reduceBNe, Int.reduceAdd, Int.reduceSub]
    exact Fini.ret rfl
  have k1' : decide ((60 : Int) < x.cut 60) = false := by simpa using k1
  have nx : x.nodes ≤ 60 := by have := qx (by omega); omega
  have hs := Size_ans [] x (by omega)
  have hi := is_ans [] x (by omega)
  have hm := make_ans [] x (by omega)
  have hsb := size_le x
  rw [av_eq] at hnx hs hi hm ⊢
  refine Ans.of_run t7 ?_
  simp -implicitDefEqProofs only [c7, r7, go_sem, List.reduceReplicate, Nat.reduceAdd, Nat.reduceSub, Nat.reduceLT, Nat.reduceLeDiff, Nat.reduceMul, Nat.reduceEqDiff, reduceCtorEq, Int.reduceLE, Int.reduceLT, Int.reduceEq, Int.reduceNe, Int.reduceBEq, Int.reduceBNe, Int.reduceAdd, Int.reduceSub]
  refine CO.intro hnx ?_
  simp -implicitDefEqProofs only [go_sem, List.reduceReplicate, Nat.reduceAdd, Nat.reduceSub, Nat.reduceLT, Nat.reduceLeDiff, Nat.reduceMul, Nat.reduceEqDiff, reduceCtorEq, Int.reduceLE, Int.reduceLT, Int.reduceEq, Int.reduceNe, Int.reduceBEq, Int.reduceBNe, Int.reduceAdd, Int.reduceSub, k1']
  refine CO.intro hs ?_
  simp -implicitDefEqProofs only [go_sem, List.reduceReplicate, Nat.reduceAdd, Nat.reduceSub, Nat.reduceLT, Nat.reduceLeDiff, Nat.reduceMul, Nat.reduceEqDiff, reduceCtorEq, Int.reduceLE, Int.reduceLT, Int.reduceEq, Int.reduceNe, Int.reduceBEq, Int.reduceBNe, Int.reduceAdd, Int.reduceSub]
  refine CO.intro hm ?_
  cases hmd : x.made with
  | none =>
    have hfl : decide (0 < full x) = x.is := by
      cases hx : x.is with
      | false => simp [full, hx]
      | true =>
        have := lay_len 0 x hx
        simp [full, hx]; omega
    have hbig : x.is = true → decide (full x ≤ 40) = false := by
      intro hx
      have : ¬ (x.is = true ∧ x.size + 1 ≤ 40) := by
        intro h
        rw [Rex.made, if_pos h] at hmd; cases hmd
      simp [full, hx]
      have : ¬ x.size + 1 ≤ 40 := fun h => this ⟨hx, h⟩
      omega
    simp -implicitDefEqProofs only [go_sem, List.reduceReplicate, Nat.reduceAdd, Nat.reduceSub, Nat.reduceLT, Nat.reduceLeDiff, Nat.reduceMul, Nat.reduceEqDiff, reduceCtorEq, Int.reduceLE, Int.reduceLT, Int.reduceEq, Int.reduceNe, Int.reduceBEq, Int.reduceBNe, Int.reduceAdd, Int.reduceSub, madeV]
    refine CO.intro hi ?_
    cases hx : x.is with
    | false =>
      rw [hx] at hfl
      simp -implicitDefEqProofs only [go_sem, List.reduceReplicate, Nat.reduceAdd, Nat.reduceSub, Nat.reduceLT, Nat.reduceLeDiff, Nat.reduceMul, Nat.reduceEqDiff, reduceCtorEq, Int.reduceLE, Int.reduceLT, Int.reduceEq, Int.reduceNe, Int.reduceBEq, Int.reduceBNe, Int.reduceAdd, Int.reduceSub, hfl]
      refine CO.intro hrun ?_
      simp -implicitDefEqProofs only [go_sem, List.reduceReplicate, Nat.reduceAdd, Nat.reduceSub, Nat.reduceLT, Nat.reduceLeDiff, Nat.reduceMul, Nat.reduceEqDiff, reduceCtorEq, Int.reduceLE, Int.reduceLT, Int.reduceEq, Int.reduceNe, Int.reduceBEq, Int.reduceBNe, Int.reduceAdd, Int.reduceSub]
      exact Fini.ret rfl
    | true =>
      rw [hx] at hfl
      have hb := hbig hx
      simp -implicitDefEqProofs only [go_sem, List.reduceReplicate, Nat.reduceAdd, Nat.reduceSub, Nat.reduceLT, Nat.reduceLeDiff, Nat.reduceMul, Nat.reduceEqDiff, reduceCtorEq, Int.reduceLE, Int.reduceLT, Int.reduceEq, Int.reduceNe, Int.reduceBEq, Int.reduceBNe, Int.reduceAdd, Int.reduceSub, hfl, hb]
      refine CO.intro hrun ?_
      simp -implicitDefEqProofs only [go_sem, List.reduceReplicate, Nat.reduceAdd, Nat.reduceSub, Nat.reduceLT, Nat.reduceLeDiff, Nat.reduceMul, Nat.reduceEqDiff, reduceCtorEq, Int.reduceLE, Int.reduceLT, Int.reduceEq, Int.reduceNe, Int.reduceBEq, Int.reduceBNe, Int.reduceAdd, Int.reduceSub]
      exact Fini.ret rfl
  | some l =>
    obtain ⟨h1, h2, h3, h4, h5⟩ := made_facts hmd
    have hck := check_ans [] l _ (.inr rfl)
    rw [made_check hmd] at hck
    have hfx : full x = x.size + 1 := by simp [full, h1]
    have hfl : decide (0 < x.size + 1) = true := by simp; omega
    have hfb : decide (x.size + 1 ≤ 40) = true := by simp; omega
    rw [h1] at hi
    simp -implicitDefEqProofs only [go_sem, List.reduceReplicate, Nat.reduceAdd, Nat.reduceSub, Nat.reduceLT, Nat.reduceLeDiff, Nat.reduceMul, Nat.reduceEqDiff, reduceCtorEq, Int.reduceLE, Int.reduceLT, Int.reduceEq, Int.reduceNe, Int.reduceBEq, Int.reduceBNe, Int.reduceAdd, Int.reduceSub, madeV, hfx, hfl, hfb]
    refine CO.intro hi ?_
    have d1 : ((sv l).length : Int) = x.size + 1 := by rw [List.length_map]; exact h5
    have d2 : (x.size + 1 != x.size + 1) = false := by simp
    have d3 : IntKind.i64.wrap (x.size + 1 - 1) = x.size := by rw [wrapN (by omega) (by omega)]; omega
    have d4 : (0 ≤ x.size) = True := by simp; exact h3
    have d5 : (sv l)[x.size.toNat]? = some (Stp.av ⟨4, 0, 0, 0, 0, 0, 0⟩) := by
      have hl := lay_len 0 x h1
      have : x.size.toNat = (lay 0 x).length := by omega
      rw [this, h4, sv, List.map_append, List.getElem?_append_right (by simp)]
      simp
    simp -implicitDefEqProofs only [go_sem, List.reduceReplicate, Nat.reduceAdd, Nat.reduceSub, Nat.reduceLT, Nat.reduceLeDiff, Nat.reduceMul, Nat.reduceEqDiff, reduceCtorEq, Int.reduceLE, Int.reduceLT, Int.reduceEq, Int.reduceNe, Int.reduceBEq, Int.reduceBNe, Int.reduceAdd, Int.reduceSub, hfl, hfb, d1, d2]
    refine CO.intro hck ?_
    simp -implicitDefEqProofs only [go_sem, List.reduceReplicate, Nat.reduceAdd, Nat.reduceSub, Nat.reduceLT, Nat.reduceLeDiff, Nat.reduceMul, Nat.reduceEqDiff, reduceCtorEq, Int.reduceLE, Int.reduceLT, Int.reduceEq, Int.reduceNe, Int.reduceBEq, Int.reduceBNe, Int.reduceAdd, Int.reduceSub, d3, d4, d5, Stp.av]
    have hl := lay_len 0 x h1
    have hok := lay_ok ((lay 0 x).length + 1) 0 x (by omega)
    refine L.count x.size.toNat (fun i => mkE 72 [(3, I (x.size + 1)), (4, .sl 7 (sv l)), (6, I i)]) (fun _ => []) ?_ ?_ ?_ rfl
    · intro i hi Q hQ
      have g1 : ((i : Int) < x.size) = True := by simp; omega
      have g2 : IntKind.i64.wrap ((i : Int) + 1) = ((i + 1 : Nat) : Int) := by rw [wrapN (by omega) (by omega)]; rfl
      have hil : i < (lay 0 x).length := by omega
      have g3 : (sv l)[i]? = some (Stp.av ((lay 0 x)[i]'hil)) := by
        rw [h4, sv, List.getElem?_map, List.getElem?_append_left hil, List.getElem?_eq_getElem hil]; rfl
      have g4 : (((lay 0 x)[i]'hil).op == 4) = false := by simpa using (hok _ (List.getElem_mem hil)).1
      generalize (lay 0 x)[i]'hil = s at g3 g4
      simp -implicitDefEqProofs only [mkE, List.foldl_cons, List.foldl_nil, go_sem, List.reduceReplicate, Nat.reduceAdd, Nat.reduceSub, Nat.reduceLT, Nat.reduceLeDiff, Nat.reduceMul, Nat.reduceEqDiff, reduceCtorEq, Int.reduceLE, Int.reduceLT, Int.reduceEq, Int.reduceNe, Int.reduceBEq, Int.reduceBNe, Int.reduceAdd, Int.reduceSub, g1, g2, d3, g3, g4, Stp.av]
      exact hQ
    · intro Q
      have g1 : (((x.size.toNat : Nat) : Int) < x.size) = False := by simp; omega
      simp -implicitDefEqProofs only [mkE, List.foldl_cons, List.foldl_nil, go_sem, List.reduceReplicate, Nat.reduceAdd, Nat.reduceSub, Nat.reduceLT, Nat.reduceLeDiff, Nat.reduceMul, Nat.reduceEqDiff, reduceCtorEq, Int.reduceLE, Int.reduceLT, Int.reduceEq, Int.reduceNe, Int.reduceBEq, Int.reduceBNe, Int.reduceAdd, Int.reduceSub, g1, d3]
      refine CO.intro hrun ?_
      simp -implicitDefEqProofs only [go_sem, List.reduceReplicate, Nat.reduceAdd, Nat.reduceSub, Nat.reduceLT, Nat.reduceLeDiff, Nat.reduceMul, Nat.reduceEqDiff, reduceCtorEq, Int.reduceLE, Int.reduceLT, Int.reduceEq, Int.reduceNe, Int.reduceBEq, Int.reduceBNe, Int.reduceAdd, Int.reduceSub]
      exact Fini.ret rfl
    · simp [mkE]

theorem progSizes_lifted (os : Os) (started : os.Started) (H : Type) (enc : TypeId × Value → H) :
    ReturnsInHanded {} Try.checked os 7 .any (Rows.progSizesSpec.pre6 enc Try.prog Try.f7 Rows.progSizesRow.domain false) (Rows.progSizesSpec.post enc Try.prog Try.f7 false true false false) := by
  refine returnsInHanded_of_change (C := Try.checked) Try.own started (by kernel_rfl) Try.func7
    (ChangeSpec.witness6 (enc := enc) (C := Try.checked) false ⟨#[], #[zeroRex], []⟩ 8 (by kernel_rfl) (by kernel_rfl) (by kernel_rfl) (by kernel_rfl)) ?_
  intro W base args ds gs before hval0 hW hcnd _
  have hval : ∀ (j : Nat) t v, Try.f7.params[j]? = some t → args[j]? = some v → Value.okWide Try.prog W .any base t v := hval0
  have hW' := hW
  obtain ⟨p, q, hA0, hV, rfl, hfz, hnd⟩ := hW
  have hA : DataW.TrodAll enc Try.prog W 0 (fun _ => true) true Try.f7.params.toList args.toList ds p := hA0
  rw [Try.params7] at hA hval
  obtain ⟨v, vs1, d, ds1, a, b, hargs, rfl, rfl, h1, h2⟩ := trodAll_cons hA
  obtain ⟨rfl, rfl, rfl⟩ := trodAll_nil h2
  have : args = #[v] := by cases args; simpa using hargs
  subst this
  obtain ⟨x, hx⟩ := rex_arg (hval 0 26 v rfl rfl) h1
  refine (Ans.law (P := Try.prog) (W := W) (vs := [v]) Try.func7 (by kernel_rfl) (by kernel_rfl) (progSizes_ans x) (reps_one hx)).mono fun e W' ⟨v, he, hk, M', R', hr⟩ => ?_
  cases hr
  exact ⟨_, he, law_post (P := Try.prog) Try.laidOut (by
      intro t ht
      rw [Try.params7] at ht
      simp only [List.mem_cons, List.not_mem_nil, or_false] at ht
      subst ht
      exact ⟨by kernel_rfl, of_decide_eq_true (by kernel_rfl)⟩) rfl rfl (tb := 4) (by kernel_rfl) hW' (fun ds h => by
    match ds, h with
    | [_], _ => exact ⟨rfl, rfl, rfl⟩) hk⟩

theorem progSizes_holds : Rows.ProgSizesSaid :=
  OpenClaim.holds_of_wide 7 Try.f7 rfl rfl rfl rfl rfl rfl rfl ⟨rfl, rfl, rfl, rfl, rfl⟩ rfl rfl rfl rfl rfl (by kernel_rfl) Try.func7 (by kernel_rfl)
    (of_decide_eq_true (by kernel_rfl)) (by unfold Func.isWrapper; first | (rw [if_pos (by decide +kernel)]; kernel_rfl) | (rw [if_neg (by decide +kernel)]; exact ⟨rfl, rfl⟩))
    (fun os started H enc _ => progSizes_lifted os started H enc)
end Go.Proofs.Ytoiageeecdgleaa
