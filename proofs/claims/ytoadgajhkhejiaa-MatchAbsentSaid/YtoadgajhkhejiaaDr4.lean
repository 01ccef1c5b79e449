/- What statements draw: labels of draws. No condition. -/
import Derived.Test.YtoadgajhkhejiaaDr3
set_option linter.unusedSimpArgs false
set_option linter.unusedVariables false
namespace Go.Proofs.Ytoadgajhkhejiaa
open Go Go.Ab
set_option maxRecDepth 100000

theorem Bel_mono {n m : Nat} {x : AV} (h : Bel n x) (hle : n ≤ m) : Bel m x := by
  induction h with
  | any => exact .any
  | pl v => exact .pl v
  | nils => exact .nils
  | sl sz xs _ ih => exact .sl sz xs ih
  | rp cs _ ih => exact .rp cs ih
  | ptr l off h => exact .ptr l off (by omega)
  | osl l k h => exact .osl l k (by omega)
  | ep l k i off h => exact .ep l k i off (by omega)
  | psl l off k h => exact .psl l off k (by omega)
  | zsl => exact .zsl
  | win sz l k lo h => exact .win sz l k lo (by omega)
  | agg cs _ ih => exact .agg cs ih
  | tup cs _ ih => exact .tup cs ih
  | fn f fs cs _ _ ih ih' => exact .fn f fs cs ih ih'
theorem BelO_mono {n m : Nat} {o : Ob} (h : BelO n o) (hle : n ≤ m) : BelO m o := by
  cases o with
  | dead => trivial
  | glo => trivial
  | box cs => exact fun c hc => Bel_mono (h c hc) hle
  | row sz xs => exact fun c hc => Bel_mono (h c hc) hle

def labOf (n : Int) : Lab := (nameOf (emodW n 0 4), valueOf (emodW (IntKind.i64.wrap (n.tdiv 5)) 0 6))
def labStep (out : List Lab) (n : Int) : List Lab := if (getL out (labOf n).1).toList == (⟨#[]⟩ : ByteArray).toList then out ++ [labOf n] else out
def labs0 (ns : List Int) : List Lab := (ns.take 5).foldl labStep []
def labs (ns : List Int) : List Lab := if (labs0 ns).length = 0 then [(⟨#[115, 101, 118]⟩, ⟨#[97]⟩)] else labs0 ns
theorem labStep_len (out : List Lab) (n : Int) : (labStep out n).length ≤ out.length + 1 := by
  unfold labStep; split <;> simp
theorem foldS_len (l : List Int) : ∀ acc : List Lab, (l.foldl labStep acc).length ≤ acc.length + l.length := by
  induction l with
  | nil => intro acc; exact Nat.le_refl _
  | cons n l ih =>
    intro acc
    have h1 := ih (labStep acc n)
    have h2 := labStep_len acc n
    rw [List.foldl_cons, List.length_cons]; omega
theorem labOf_drawn (n : Int) : (labOf n).1 ∈ names ∧ (labOf n).2 ∈ values := ⟨nameOf_mem _, valueOf_mem _⟩
theorem foldS_drawn (l : List Int) : ∀ acc : List Lab, drawnL acc → drawnL (l.foldl labStep acc) := by
  induction l with
  | nil => intro acc h; exact h
  | cons n l ih =>
    intro acc h
    refine ih _ ?_
    unfold labStep
    split
    · intro x hx
      rcases List.mem_append.1 hx with hx | hx
      · exact h x hx
      · simp only [List.mem_cons, List.not_mem_nil, or_false] at hx
        subst hx
        exact labOf_drawn n
    · exact h
theorem labs0_len (ns : List Int) : (labs0 ns).length ≤ 5 := by
  have := foldS_len (ns.take 5) []
  simp at this
  unfold labs0
  omega
theorem labs_len (ns : List Int) : (labs ns).length ≤ 5 := by
  unfold labs; split
  · decide
  · exact labs0_len ns
theorem labs_drawn (ns : List Int) : drawnL (labs ns) := by
  unfold labs; split
  · intro x hx
    simp only [List.mem_cons, List.not_mem_nil, or_false] at hx
    subst hx
    exact ⟨by simp [names], by simp [values]⟩
  · exact foldS_drawn _ [] (fun x hx => by cases hx)

theorem B_ints (n : Nat) (ns : List Int) : Bel n (.sl 1 (ns.map I)) = True := eq_true (.sl 1 _ fun i hi => by
  have : ∀ y ∈ ns.map I, Bel n y := by
    intro y hy
    simp only [List.mem_map] at hy
    obtain ⟨x, _, rfl⟩ := hy
    exact .pl _
  exact this _ (List.getElem_mem hi))
theorem B_rp1 (n : Nat) (v : Value) : Bel n (.rp [.pl v]) = True := eq_true (.rp _ fun i hi => by
  have : ∀ y ∈ [AV.pl v], Bel n y := by
    intro y hy
    simp only [List.mem_cons, List.not_mem_nil, or_false] at hy
    subst hy; exact .pl _
  exact this _ (List.getElem_mem hi))

section
variable (σ : St)
theorem g1 (x y : Ob) (ex : St) : (σ ++ x :: y :: ex)[σ.length + 1]? = some y := by rw [List.getElem?_append_right (by simp)]; simp
theorem s1 (x y z : Ob) (ex : St) : (σ ++ x :: y :: ex).set (σ.length + 1) z = σ ++ x :: z :: ex := by rw [List.set_append_right _ _ (by simp)]; simp
theorem take_one (x : Ob) (ex : St) : (σ ++ x :: ex).take (σ.length + 1) = σ ++ [x] := by
  have e : σ ++ x :: ex = (σ ++ [x]) ++ ex := by simp
  have h := List.take_left (l₁ := σ ++ [x]) (l₂ := ex)
  rw [e]
  simpa using h
theorem CO.intro' {P : Program} {n0 : Nat} {k : List Fr} {B : Bs} {env : Env} {σ σ₀ σ' : St} {f : FuncId} {args args₀ : List AV} {d : Option Tmp} {l : List AOper} {r : AV} (h : Ans P f args₀ σ₀ r σ') (ha : args = args₀) (hs : σ = σ₀)
    (h' : O P n0 l k B (putA env d r) σ') : CO P n0 f args d l k B env σ := by subst ha; subst hs; exact CO.intro h h'
theorem beq_cast0 (n : Nat) : ((n : Int) == 0) = (n == 0) := by rw [Bool.eq_iff_iff]; simp
theorem lvs_snoc (L : List Lab) (a b : ByteArray) : lvs L ++ [.agg [Sx a, Sx b]] = lvs (L ++ [(a, b)]) := by simp [lvs]

theorem labels_ans (ns : List Int) : Ans Try.prog 21 [.sl 1 (ns.map I)] σ (setV (labs ns)) σ := by
  refine Ans.of_run' t21 (fun hbel _ => ?_)
  have hb1 : ∀ L : List Lab, (∀ o ∈ σ ++ [.row 2 (lvs L)], BelO (σ.length + 1) o) = True := fun L => eq_true (by
    intro o ho
    rcases List.mem_append.1 ho with ho | ho
    · exact BelO_mono (hbel o ho) (Nat.le_succ _)
    · simp only [List.mem_cons, List.not_mem_nil, or_false] at ho
      subst ho
      intro y hy
      simp only [lvs, List.mem_map] at hy
      obtain ⟨x, _, rfl⟩ := hy
      exact bel_lv _ x)
  simp -implicitDefEqProofs only [c21, r21, go_sem, List.reduceReplicate, Nat.reduceAdd, Nat.reduceSub, Nat.reduceLT, Nat.reduceLeDiff, Nat.reduceMul, Nat.reduceEqDiff, reduceCtorEq, Int.reduceLE, Int.reduceLT, Int.reduceEq, Int.reduceNe, Int.reduceBEq, Int.reduceBNe, Int.reduceAdd, Int.reduceSub, List.append_assoc, List.length_append]
  have hm : ∀ i, i < (ns.take 5).length → i < ns.length ∧ i < 5 := fun i hi => by simp at hi; omega
  refine Go.Ab.L.count (ns.take 5).length (fun i => mkE 54 [(0, .sl 1 (ns.map I)), (3, .osl σ.length (((ns.take 5).take i).foldl labStep []).length), (4, I i)])
    (fun i => σ ++ [.row 2 (lvs (((ns.take 5).take i).foldl labStep []))]) ?_ ?_ rfl rfl
  · intro i hi Q hQ
    obtain ⟨hi1, hi2⟩ := hm i hi
    have hns : (ns.take 5)[i] = ns[i] := by simp
    rw [List.take_succ_eq_append_getElem hi, List.foldl_append, List.foldl_cons, List.foldl_nil, hns] at hQ
    have hlo : (((ns.take 5).take i).foldl labStep []).length ≤ 5 := by
      have := foldS_len ((ns.take 5).take i) []
      simp at this; omega
    generalize ((ns.take 5).take i).foldl labStep [] = out at hQ hlo ⊢
    have hget : (ns.map I)[i]? = some (I ns[i]) := by simp [hi1]
    generalize ns[i] = n at hget hQ
    have d5 : decide ((i : Int) < 5) = true := by simp; omega
    have dl : decide ((i : Int) < (((ns.map I).length : Nat) : Int)) = true := by simp; omega
    have dl' : ((i : Int) < (((ns.map I).length : Nat) : Int)) = True := by simp; omega
    have AA : True := trivial
    simp -implicitDefEqProofs only [mkE, List.foldl_cons, List.foldl_nil, go_sem, List.reduceReplicate, Nat.reduceAdd, Nat.reduceSub, Nat.reduceLT, Nat.reduceLeDiff, Nat.reduceMul, Nat.reduceEqDiff, reduceCtorEq, Int.reduceLE, Int.reduceLT, Int.reduceEq, Int.reduceNe, Int.reduceBEq, Int.reduceBNe, Int.reduceAdd, Int.reduceSub, D_callS, dl, dl', d5, hget, List.append_assoc, List.length_append]
    refine CS.intro (fun s => within_ans s n 0 4 (by omega) (by omega) (by omega)) ?_
    simp -implicitDefEqProofs only [go_sem, List.reduceReplicate, Nat.reduceAdd, Nat.reduceSub, Nat.reduceLT, Nat.reduceLeDiff, Nat.reduceMul, Nat.reduceEqDiff, reduceCtorEq, Int.reduceLE, Int.reduceLT, Int.reduceEq, Int.reduceNe, Int.reduceBEq, Int.reduceBNe, Int.reduceAdd, Int.reduceSub, D_callS, dl', hget, List.append_assoc, List.length_append]
    refine CS.intro (fun s => name_ans s _) ?_
    simp -implicitDefEqProofs only [go_sem, List.reduceReplicate, Nat.reduceAdd, Nat.reduceSub, Nat.reduceLT, Nat.reduceLeDiff, Nat.reduceMul, Nat.reduceEqDiff, reduceCtorEq, Int.reduceLE, Int.reduceLT, Int.reduceEq, Int.reduceNe, Int.reduceBEq, Int.reduceBNe, Int.reduceAdd, Int.reduceSub, D_callS, dl', hget, List.append_assoc, List.length_append]
    refine CS.intro (fun s => within_ans s _ 0 6 (by omega) (by omega) (by omega)) ?_
    simp -implicitDefEqProofs only [go_sem, List.reduceReplicate, Nat.reduceAdd, Nat.reduceSub, Nat.reduceLT, Nat.reduceLeDiff, Nat.reduceMul, Nat.reduceEqDiff, reduceCtorEq, Int.reduceLE, Int.reduceLT, Int.reduceEq, Int.reduceNe, Int.reduceBEq, Int.reduceBNe, Int.reduceAdd, Int.reduceSub, D_callS, dl', hget, List.append_assoc, List.length_append]
    refine CS.intro (fun s => value_ans s _) ?_
    simp -implicitDefEqProofs only [go_sem, List.reduceReplicate, Nat.reduceAdd, Nat.reduceSub, Nat.reduceLT, Nat.reduceLeDiff, Nat.reduceMul, Nat.reduceEqDiff, reduceCtorEq, Int.reduceLE, Int.reduceLT, Int.reduceEq, Int.reduceNe, Int.reduceBEq, Int.reduceBNe, Int.reduceAdd, Int.reduceSub, D_callS, dl', hget, List.append_assoc, List.length_append, g0, g1, s0, s1]
    refine CO.intro (getlabel_ans _ σ.length out (nameOf (emodW n 0 4)) (g0 σ _ _) (by omega)) ?_
    simp -implicitDefEqProofs only [go_sem, List.reduceReplicate, Nat.reduceAdd, Nat.reduceSub, Nat.reduceLT, Nat.reduceLeDiff, Nat.reduceMul, Nat.reduceEqDiff, reduceCtorEq, Int.reduceLE, Int.reduceLT, Int.reduceEq, Int.reduceNe, Int.reduceBEq, Int.reduceBNe, Int.reduceAdd, Int.reduceSub]
    unfold labStep at hQ
    have hlab : (labOf n).1 = nameOf (emodW n 0 4) := rfl
    rw [hlab] at hQ
    cases hc : (getL out (nameOf (emodW n 0 4))).toList == (⟨#[]⟩ : ByteArray).toList
    · rw [hc, if_neg Bool.false_ne_true] at hQ
      simp -implicitDefEqProofs only [go_sem, List.reduceReplicate, Nat.reduceAdd, Nat.reduceSub, Nat.reduceLT, Nat.reduceLeDiff, Nat.reduceMul, Nat.reduceEqDiff, reduceCtorEq, Int.reduceLE, Int.reduceLT, Int.reduceEq, Int.reduceNe, Int.reduceBEq, Int.reduceBNe, Int.reduceAdd, Int.reduceSub, g0, g1, s0, s1, B_pl, B_any, B_nils, B_tup, B_lv, B_lvs, B_sl1, B_osl, B_ptr, B_agg2, B_sl0, B_ints, B_rp1, take_one, hb1, List.length_append, wrap_succ (show i ≤ 100000 by omega)]
      exact ⟨⟨by omega, by omega⟩, by omega, hQ⟩
    · rw [hc, if_pos rfl] at hQ
      have p1 : (out.length + 1 ≤ 2 ^ 32) = True := by simp; omega
      simp -implicitDefEqProofs only [go_sem, List.reduceReplicate, Nat.reduceAdd, Nat.reduceSub, Nat.reduceLT, Nat.reduceLeDiff, Nat.reduceMul, Nat.reduceEqDiff, reduceCtorEq, Int.reduceLE, Int.reduceLT, Int.reduceEq, Int.reduceNe, Int.reduceBEq, Int.reduceBNe, Int.reduceAdd, Int.reduceSub, g0, g1, s0, s1, B_pl, B_any, B_nils, B_tup, B_lv, B_lvs, B_sl1, B_osl, B_ptr, B_agg2, B_sl0, B_ints, B_rp1, take_one, hb1, List.length_append, lvs_len, p1, lvs_snoc, wrap_succ (show i ≤ 100000 by omega)]
      rw [List.length_append] at hQ
      exact ⟨⟨by omega, by omega, by omega, bel_lvs _ [labOf n], by omega⟩, by omega, hQ⟩
  · intro Q
    have hlt : ¬ ((ns.take 5).length < ns.length ∧ (ns.take 5).length < 5) := by simp; omega
    rw [List.take_length]
    have hlo := labs0_len ns
    have hd0 : labs0 ns = (ns.take 5).foldl labStep [] := rfl
    rw [← hd0]
    have hset := makeset_ans (σ ++ [.dead]) (labs ns) (labs_drawn ns) (by have := labs_len ns; omega)
    have hb2 : Bel σ.length (setV (labs ns)) := by
      unfold setV; split
      · exact bel_lvs _ _
      · exact .nils
    have hex : (¬ (ns.take 5).length < ns.length) ∨ ((ns.take 5).length < ns.length ∧ (ns.take 5).length = 5) := by simp; omega
    have hmap : (((ns.map I).length : Nat) : Int) = (ns.length : Nat) := by simp
    have d55 : decide (((5 : Nat) : Int) < 5) = false := by decide
    rcases hex with hx | ⟨hx, hx5⟩
    · simp -implicitDefEqProofs only [mkE, List.foldl_cons, List.foldl_nil, go_sem, List.reduceReplicate, Nat.reduceAdd, Nat.reduceSub, Nat.reduceLT, Nat.reduceLeDiff, Nat.reduceMul, Nat.reduceEqDiff, reduceCtorEq, Int.reduceLE, Int.reduceLT, Int.reduceEq, Int.reduceNe, Int.reduceBEq, Int.reduceBNe, Int.reduceAdd, Int.reduceSub, hmap, nat_nlt hx, dec_nlt hx]
      cases h0 : ((labs0 ns).length == 0)
      · have h0' : ((((labs0 ns).length : Nat) : Int) == 0) = false := by rw [← h0]; exact beq_cast0 _
        have hl : labs ns = labs0 ns := by unfold labs; rw [if_neg (by simpa using h0)]
        rw [hl] at hset hb2
        simp -implicitDefEqProofs only [go_sem, List.reduceReplicate, Nat.reduceAdd, Nat.reduceSub, Nat.reduceLT, Nat.reduceLeDiff, Nat.reduceMul, Nat.reduceEqDiff, reduceCtorEq, Int.reduceLE, Int.reduceLT, Int.reduceEq, Int.reduceNe, Int.reduceBEq, Int.reduceBNe, Int.reduceAdd, Int.reduceSub, h0', g0, s0, lvs_len]
        refine CO.intro hset ?_
        unfold setV at hb2 ⊢
        rw [hl]
        cases hs : isSetL (setL (labs0 ns))
        all_goals rw [hs] at hb2
        all_goals simp -implicitDefEqProofs only [go_sem, List.reduceReplicate, Nat.reduceAdd, Nat.reduceSub, Nat.reduceLT, Nat.reduceLeDiff, Nat.reduceMul, Nat.reduceEqDiff, reduceCtorEq, Int.reduceLE, Int.reduceLT, Int.reduceEq, Int.reduceNe, Int.reduceBEq, Int.reduceBNe, Int.reduceAdd, Int.reduceSub]
        all_goals exact Fini.trim2 (σ' := σ) (ex := [.dead]) rfl rfl (Nat.le_refl _) hb2 hbel
      · have h0' : ((((labs0 ns).length : Nat) : Int) == 0) = true := by rw [← h0]; exact beq_cast0 _
        have h00 : labs0 ns = [] := by simpa using h0
        have hl : labs ns = [(⟨#[115, 101, 118]⟩, ⟨#[97]⟩)] := by unfold labs; rw [if_pos (by simpa using h0)]
        have p1 : (0 + 1 ≤ 2 ^ 32) = True := by simp
        have p2 : (1 ≤ 2 ^ 32) = True := by simp
        rw [h00] at h0' ⊢
        rw [hl] at hset hb2
        have z0 : (((0 : Nat) : Int) == 0) = true := rfl
        simp -implicitDefEqProofs only [go_sem, List.reduceReplicate, Nat.reduceAdd, Nat.reduceSub, Nat.reduceLT, Nat.reduceLeDiff, Nat.reduceMul, Nat.reduceEqDiff, reduceCtorEq, Int.reduceLE, Int.reduceLT, Int.reduceEq, Int.reduceNe, Int.reduceBEq, Int.reduceBNe, Int.reduceAdd, Int.reduceSub, z0, h0', g0, s0, lvs_len, p1, p2, lvs_nil]
        refine CO.intro' hset rfl rfl ?_
        unfold setV at hb2 ⊢
        rw [hl]
        cases hs : isSetL (setL [(⟨#[115, 101, 118]⟩, ⟨#[97]⟩)])
        all_goals rw [hs] at hb2
        all_goals simp -implicitDefEqProofs only [go_sem, List.reduceReplicate, Nat.reduceAdd, Nat.reduceSub, Nat.reduceLT, Nat.reduceLeDiff, Nat.reduceMul, Nat.reduceEqDiff, reduceCtorEq, Int.reduceLE, Int.reduceLT, Int.reduceEq, Int.reduceNe, Int.reduceBEq, Int.reduceBNe, Int.reduceAdd, Int.reduceSub]
        all_goals exact Fini.trim2 (σ' := σ) (ex := [.dead]) rfl rfl (Nat.le_refl _) hb2 hbel
    · rw [hx5] at hx ⊢
      simp -implicitDefEqProofs only [mkE, List.foldl_cons, List.foldl_nil, go_sem, List.reduceReplicate, Nat.reduceAdd, Nat.reduceSub, Nat.reduceLT, Nat.reduceLeDiff, Nat.reduceMul, Nat.reduceEqDiff, reduceCtorEq, Int.reduceLE, Int.reduceLT, Int.reduceEq, Int.reduceNe, Int.reduceBEq, Int.reduceBNe, Int.reduceAdd, Int.reduceSub, hmap, nat_lt hx, dec_lt hx, d55]
      cases h0 : ((labs0 ns).length == 0)
      · have h0' : ((((labs0 ns).length : Nat) : Int) == 0) = false := by rw [← h0]; exact beq_cast0 _
        have hl : labs ns = labs0 ns := by unfold labs; rw [if_neg (by simpa using h0)]
        rw [hl] at hset hb2
        simp -implicitDefEqProofs only [go_sem, List.reduceReplicate, Nat.reduceAdd, Nat.reduceSub, Nat.reduceLT, Nat.reduceLeDiff, Nat.reduceMul, Nat.reduceEqDiff, reduceCtorEq, Int.reduceLE, Int.reduceLT, Int.reduceEq, Int.reduceNe, Int.reduceBEq, Int.reduceBNe, Int.reduceAdd, Int.reduceSub, h0', g0, s0, lvs_len]
        refine CO.intro hset ?_
        unfold setV at hb2 ⊢
        rw [hl]
        cases hs : isSetL (setL (labs0 ns))
        all_goals rw [hs] at hb2
        all_goals simp -implicitDefEqProofs only [go_sem, List.reduceReplicate, Nat.reduceAdd, Nat.reduceSub, Nat.reduceLT, Nat.reduceLeDiff, Nat.reduceMul, Nat.reduceEqDiff, reduceCtorEq, Int.reduceLE, Int.reduceLT, Int.reduceEq, Int.reduceNe, Int.reduceBEq, Int.reduceBNe, Int.reduceAdd, Int.reduceSub]
        all_goals exact Fini.trim2 (σ' := σ) (ex := [.dead]) rfl rfl (Nat.le_refl _) hb2 hbel
      · have h0' : ((((labs0 ns).length : Nat) : Int) == 0) = true := by rw [← h0]; exact beq_cast0 _
        have h00 : labs0 ns = [] := by simpa using h0
        have hl : labs ns = [(⟨#[115, 101, 118]⟩, ⟨#[97]⟩)] := by unfold labs; rw [if_pos (by simpa using h0)]
        have p1 : (0 + 1 ≤ 2 ^ 32) = True := by simp
        have p2 : (1 ≤ 2 ^ 32) = True := by simp
        rw [h00] at h0' ⊢
        rw [hl] at hset hb2
        have z0 : (((0 : Nat) : Int) == 0) = true := rfl
        simp -implicitDefEqProofs only [go_sem, List.reduceReplicate, Nat.reduceAdd, Nat.reduceSub, Nat.reduceLT, Nat.reduceLeDiff, Nat.reduceMul, Nat.reduceEqDiff, reduceCtorEq, Int.reduceLE, Int.reduceLT, Int.reduceEq, Int.reduceNe, Int.reduceBEq, Int.reduceBNe, Int.reduceAdd, Int.reduceSub, z0, h0', g0, s0, lvs_len, p1, p2, lvs_nil]
        refine CO.intro' hset rfl rfl ?_
        unfold setV at hb2 ⊢
        rw [hl]
        cases hs : isSetL (setL [(⟨#[115, 101, 118]⟩, ⟨#[97]⟩)])
        all_goals rw [hs] at hb2
        all_goals simp -implicitDefEqProofs only [go_sem, List.reduceReplicate, Nat.reduceAdd, Nat.reduceSub, Nat.reduceLT, Nat.reduceLeDiff, Nat.reduceMul, Nat.reduceEqDiff, reduceCtorEq, Int.reduceLE, Int.reduceLT, Int.reduceEq, Int.reduceNe, Int.reduceBEq, Int.reduceBNe, Int.reduceAdd, Int.reduceSub]
        all_goals exact Fini.trim2 (σ' := σ) (ex := [.dead]) rfl rfl (Nat.le_refl _) hb2 hbel
end
end Go.Proofs.Ytoadgajhkhejiaa
