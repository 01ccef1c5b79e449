/- MatchAbsent answers true at any input. No condition. -/
import Derived.Test.YtoadgajhkhejiaaWt
import Derived.Test.YtoadgajhkhejiaaMLaw
import Derived.Test.YtoadgajhkhejiaaAbArg
import Derived.Test.YtoadgajhkhejiaaAbLaw
set_option linter.unusedSimpArgs false
set_option linter.unusedVariables false
namespace Go.Proofs.Ytoadgajhkhejiaa
open Go Go.Ab
set_option maxRecDepth 100000

def isN (nm : ByteArray) (x : Lab) : Bool := x.1.toList == nm.toList
def ownOf (nm : ByteArray) (L : List Lab) : List Lab := L.filter (isN nm)
def lessOf (nm : ByteArray) (L : List Lab) : List Lab := L.filter fun x => !isN nm x

theorem getL_less (nm : ByteArray) (L : List Lab) : getL (lessOf nm L) nm = ⟨#[]⟩ := by
  induction L with
  | nil => rfl
  | cons x xs ih =>
    unfold lessOf at ih ⊢
    rw [List.filter_cons]
    cases h : isN nm x
    · rw [Bool.not_false, if_pos rfl, getL]
      unfold isN at h
      rw [h, if_neg Bool.false_ne_true]
      exact ih
    · rw [Bool.not_true, if_neg Bool.false_ne_true]
      exact ih
theorem getL_app_none (nm : ByteArray) (A B : List Lab) (h : ∀ x ∈ A, isN nm x = false) : getL (A ++ B) nm = getL B nm := by
  induction A with
  | nil => rfl
  | cons x xs ih =>
    rw [List.cons_append, getL]
    have := h x List.mem_cons_self
    unfold isN at this
    rw [this, if_neg Bool.false_ne_true]
    exact ih fun y hy => h y (List.mem_cons_of_mem _ hy)
theorem getL_lessx (nm : ByteArray) (L : List Lab) : getL (lessOf nm L ++ [(nm, ⟨#[]⟩)]) nm = ⟨#[]⟩ := by
  rw [getL_app_none]
  · simp [getL]
  · intro x hx
    have := (List.mem_filter.1 hx).2
    simpa using this
theorem getL_own (nm : ByteArray) (L : List Lab) : getL (ownOf nm L) nm = getL L nm := by
  induction L with
  | nil => rfl
  | cons x xs ih =>
    unfold ownOf at ih ⊢
    rw [List.filter_cons]
    cases h : isN nm x
    · rw [if_neg Bool.false_ne_true, ih, getL]
      unfold isN at h
      rw [h, if_neg Bool.false_ne_true]
    · rw [if_pos rfl, getL, getL]
      unfold isN at h
      rw [h, if_pos rfl, if_pos rfl]
theorem getL_ownx (nm z : ByteArray) (L : List Lab) (h : (ownOf nm L).length ≠ 0) : getL (ownOf nm L ++ [(nm, z)]) nm = getL L nm := by
  rw [← getL_own nm L]
  cases ho : ownOf nm L with
  | nil => rw [ho] at h; exact absurd rfl h
  | cons x xs =>
    have hx : isN nm x = true := (List.mem_filter.1 (show x ∈ L.filter (isN nm) by unfold ownOf at ho; rw [ho]; exact List.mem_cons_self)).2
    unfold isN at hx
    rw [List.cons_append, getL, getL, hx, if_pos rfl, if_pos rfl]

theorem mr_abs (σ : St) : Ans Try.prog 14 [] σ (Bo true) σ := mr_ok.frame (bel_all rfl) σ

theorem mem3 (n : Nat) (k : Int) (a b : ByteArray) : ∀ y ∈ ([I k, Sx a, Sx b] : List AV), Bel n y := by
  intro y hy
  simp only [List.mem_cons, List.not_mem_nil, or_false] at hy
  rcases hy with rfl | rfl | rfl <;> exact .pl _
theorem bel_mat3 (n : Nat) (k : Int) (a b : ByteArray) : Bel n (mat k a b) := .agg _ fun i hi => mem3 n k a b _ (List.getElem_mem hi)
theorem BM_mat (n : Nat) (k : Int) (a b : ByteArray) : Bel n (mat k a b) = True := eq_true (bel_mat3 n k a b)
theorem BM_rp (n : Nat) (k : Int) (a b : ByteArray) : Bel n (.rp [I k, Sx a, Sx b]) = True := eq_true (.rp _ fun i hi => mem3 n k a b _ (List.getElem_mem hi))
theorem BM_sl (n : Nat) (k : Int) (a b : ByteArray) : Bel n (.sl 3 [.agg [I k, Sx a, Sx b]]) = True := eq_true (.sl 3 _ fun i hi => by
  have : ∀ y ∈ ([mat k a b] : List AV), Bel n y := by
    intro y hy
    simp only [List.mem_cons, List.not_mem_nil, or_false] at hy
    subst hy; exact bel_mat3 n k a b
  exact this _ (List.getElem_mem hi))
theorem sn_app (A : List Lab) (a b : ByteArray) : lvs A ++ [.agg [Sx a, Sx b]] = lvs (A ++ [(a, b)]) := by simp [lvs]
theorem sn_app0 (A : List Lab) (a : ByteArray) : lvs A ++ [.agg [Sx a, .pl (.string .empty)]] = lvs (A ++ [(a, ⟨#[]⟩)]) := by simp [lvs]; rfl
theorem sn_one (a b : ByteArray) : [.agg [Sx a, Sx b]] = lvs [(a, b)] := rfl
theorem sn_one0 (a : ByteArray) : [.agg [Sx a, .pl (.string .empty)]] = lvs [(a, ⟨#[]⟩)] := rfl
theorem BM_rp1 (n : Nat) (a : ByteArray) : Bel n (.rp [Sx a]) = True := eq_true (.rp _ fun i hi => by
  have : ∀ y ∈ ([Sx a] : List AV), Bel n y := by
    intro y hy
    simp only [List.mem_cons, List.not_mem_nil, or_false] at hy
    subst hy; exact .pl _
  exact this _ (List.getElem_mem hi))
theorem BM_ag0 (n : Nat) (a : ByteArray) : Bel n (.agg [Sx a, .pl (.string .empty)]) = True := B_agg2 n a .empty
theorem BM_rp0 (n : Nat) (a : ByteArray) : Bel n (.rp [Sx a, .pl (.string .empty)]) = True := B_rp2 n a .empty
theorem BM_sl0 (n : Nat) (a : ByteArray) : Bel n (.sl 2 [.agg [Sx a, .pl (.string .empty)]]) = True := B_sl1 n (a, .empty)
theorem BM_sl1 (n : Nat) (a b : ByteArray) : Bel n (.sl 2 [.agg [Sx a, Sx b]]) = True := B_sl1 n (a, b)
theorem own_snoc (nm : ByteArray) (L : List Lab) (x : Lab) : ownOf nm (L ++ [x]) = if isN nm x then ownOf nm L ++ [x] else ownOf nm L := by
  unfold ownOf
  rw [List.filter_append, List.filter_cons]
  cases isN nm x <;> simp
theorem less_snoc (nm : ByteArray) (L : List Lab) (x : Lab) : lessOf nm (L ++ [x]) = if isN nm x then lessOf nm L else lessOf nm L ++ [x] := by
  unfold lessOf
  rw [List.filter_append, List.filter_cons]
  cases isN nm x <;> simp

theorem absent_ans (k : Int) (nm v : ByteArray) (L : List Lab) : Ans Try.prog 3 [mat k nm v, .sl 2 (lvs L)] [] (.pl (.bool true)) [] := by
  refine Ans.of_run' t3 (fun hbel _ => ?_)
  have hbel' : (∀ o ∈ ([] : St), BelO ([] : St).length o) = True := eq_true (by simp)
  simp -implicitDefEqProofs only [c3, r3, go_sem, List.reduceReplicate, Nat.reduceAdd, Nat.reduceSub, Nat.reduceLT, Nat.reduceLeDiff, Nat.reduceMul, Nat.reduceEqDiff, reduceCtorEq, Int.reduceLE, Int.reduceLT, Int.reduceEq, Int.reduceNe, Int.reduceBEq, Int.reduceBNe, Int.reduceAdd, Int.reduceSub]
  refine CO.intro (small_ans _ [(k, nm, v)] L) ?_
  cases hs : smallB [(k, nm, v)] L with
  | false =>
    simp -implicitDefEqProofs only [go_sem, List.reduceReplicate, Nat.reduceAdd, Nat.reduceSub, Nat.reduceLT, Nat.reduceLeDiff, Nat.reduceMul, Nat.reduceEqDiff, reduceCtorEq, Int.reduceLE, Int.reduceLT, Int.reduceEq, Int.reduceNe, Int.reduceBEq, Int.reduceBNe, Int.reduceAdd, Int.reduceSub]
    refine CO.intro (mr_abs _) ?_
    simp -implicitDefEqProofs only [go_sem, List.reduceReplicate, Nat.reduceAdd, Nat.reduceSub, Nat.reduceLT, Nat.reduceLeDiff, Nat.reduceMul, Nat.reduceEqDiff, reduceCtorEq, Int.reduceLE, Int.reduceLT, Int.reduceEq, Int.reduceNe, Int.reduceBEq, Int.reduceBNe, Int.reduceAdd, Int.reduceSub]
    exact Fini.ret rfl
  | true =>
  have hsz : L.length ≤ 300 ∧ ∀ x ∈ L, x.2.size ≤ 300 := by
    unfold smallB at hs
    simp only [Bool.and_eq_true, decide_eq_true_eq] at hs
    have := weighL_len (L.map labP) 0 hs.2
    refine ⟨by simpa using this.1, fun x hx => ?_⟩
    exact (this.2 (labP x) (List.mem_map.2 ⟨x, hx, rfl⟩)).2
  have hB2 : ∀ ow le : List Lab, (∀ o ∈ ([.row 2 (lvs le), .row 2 (lvs ow)] : St), BelO 2 o) = True := fun ow le => eq_true (by
    intro o ho
    have : ∀ A : List Lab, BelO 2 (.row 2 (lvs A)) := fun A y hy => by
      simp only [lvs, List.mem_map] at hy
      obtain ⟨x, _, rfl⟩ := hy
      exact bel_lv _ x
    simp only [List.mem_cons, List.not_mem_nil, or_false] at ho
    rcases ho with rfl | rfl
    · exact this _
    · exact this _)
  simp -implicitDefEqProofs only [go_sem, List.reduceReplicate, Nat.reduceAdd, Nat.reduceSub, Nat.reduceLT, Nat.reduceLeDiff, Nat.reduceMul, Nat.reduceEqDiff, reduceCtorEq, Int.reduceLE, Int.reduceLT, Int.reduceEq, Int.reduceNe, Int.reduceBEq, Int.reduceBNe, Int.reduceAdd, Int.reduceSub, B_pl, B_any, B_nils, B_tup, B_lv, B_lvs, B_sl1, B_osl, B_ptr, B_agg2, B_sl0, BM_mat, BM_rp, BM_sl]
  refine Go.Ab.L.scan L.length (fun i => !decide (30 < (L.getD i noL).2.size)) (fun i => mkE 99 [(1, .sl 2 (lvs L)), (2, .rp [I k, Sx nm, Sx v]), (5, .osl 0 (lessOf nm (L.take i)).length), (6, .osl 1 (ownOf nm (L.take i)).length), (7, I i)])
    (fun i => [.row 2 (lvs (lessOf nm (L.take i))), .row 2 (lvs (ownOf nm (L.take i)))]) ?_ ?_ rfl rfl
  · intro i hi hp J hJ
    have hx := lvs_get L i hi
    have hgd : L.getD i noL = L[i] := by rw [List.getD_eq_getElem?_getD, List.getElem?_eq_getElem hi]; rfl
    rw [List.take_succ_eq_append_getElem hi, own_snoc, less_snoc, hgd] at hJ
    have hol : (ownOf nm (L.take i)).length ≤ i := Nat.le_trans (List.length_filter_le _ _) (by simp; omega)
    have hll : (lessOf nm (L.take i)).length ≤ i := Nat.le_trans (List.length_filter_le _ _) (by simp; omega)
    generalize ownOf nm (L.take i) = ow at hol hJ ⊢
    generalize lessOf nm (L.take i) = le at hll hJ ⊢
    generalize L[i] = x at hx hJ
    obtain ⟨a, b⟩ := x
    have d3 : decide ((30 : Int) < b.size) = decide (30 < b.size) := decN 30 _
    have hin := wrap_nat (n := i) (by omega)
    simp only [lv] at hx
    simp -implicitDefEqProofs only [mkE, List.foldl_cons, List.foldl_nil, go_sem, List.reduceReplicate, Nat.reduceAdd, Nat.reduceSub, Nat.reduceLT, Nat.reduceLeDiff, Nat.reduceMul, Nat.reduceEqDiff, reduceCtorEq, Int.reduceLE, Int.reduceLT, Int.reduceEq, Int.reduceNe, Int.reduceBEq, Int.reduceBNe, Int.reduceAdd, Int.reduceSub, lvs_len, nat_lt hi, dec_lt hi, hx, d3]
    cases hb : decide (30 < b.size) with
    | true =>
      simp -implicitDefEqProofs only [go_sem, List.reduceReplicate, Nat.reduceAdd, Nat.reduceSub, Nat.reduceLT, Nat.reduceLeDiff, Nat.reduceMul, Nat.reduceEqDiff, reduceCtorEq, Int.reduceLE, Int.reduceLT, Int.reduceEq, Int.reduceNe, Int.reduceBEq, Int.reduceBNe, Int.reduceAdd, Int.reduceSub]
      refine CO.intro (mr_abs _) ?_
      simp -implicitDefEqProofs only [go_sem, List.reduceReplicate, Nat.reduceAdd, Nat.reduceSub, Nat.reduceLT, Nat.reduceLeDiff, Nat.reduceMul, Nat.reduceEqDiff, reduceCtorEq, Int.reduceLE, Int.reduceLT, Int.reduceEq, Int.reduceNe, Int.reduceBEq, Int.reduceBNe, Int.reduceAdd, Int.reduceSub]
      exact Fini.trim2 (σ' := []) (ex := [_, _]) rfl rfl (Nat.le_refl _) (.pl _) (by simp)
    | false =>
    simp only [hb] at hJ
    simp -implicitDefEqProofs only [go_sem, List.reduceReplicate, Nat.reduceAdd, Nat.reduceSub, Nat.reduceLT, Nat.reduceLeDiff, Nat.reduceMul, Nat.reduceEqDiff, reduceCtorEq, Int.reduceLE, Int.reduceLT, Int.reduceEq, Int.reduceNe, Int.reduceBEq, Int.reduceBNe, Int.reduceAdd, Int.reduceSub, lvs_len, nat_lt hi, dec_lt hi, hx]
    cases hn : (a.toList == nm.toList) with
    | true =>
      have hn' : isN nm (a, b) = true := hn
      rw [hn'] at hJ
      simp only [if_true] at hJ
      have h1 : (1 ≤ 2 ^ 32) = True := by simp
      have h2 : (ow.length + 1 ≤ 2 ^ 32) = True := by simp; omega
      simp -implicitDefEqProofs only [go_sem, List.reduceReplicate, Nat.reduceAdd, Nat.reduceSub, Nat.reduceLT, Nat.reduceLeDiff, Nat.reduceMul, Nat.reduceEqDiff, reduceCtorEq, Int.reduceLE, Int.reduceLT, Int.reduceEq, Int.reduceNe, Int.reduceBEq, Int.reduceBNe, Int.reduceAdd, Int.reduceSub, lvs_len, nat_lt hi, dec_lt hi, hx, Int.natCast_zero, Int.le_refl, Int.toNat_zero, List.take_length, List.drop_zero, List.drop_nil, lvs_nil, lvs_take, lvs_drop, lvs_all, lvs_empty, lvs_len, g0, s0, B_pl, B_any, B_nils, B_tup, B_lv, B_lvs, B_sl1, B_osl, B_ptr, B_agg2, B_sl0, B_cons, B_mid, B_rp2, List.take_left, hbel', List.length_append, List.append_assoc, Nat.le_add_right, BM_mat, BM_rp, BM_sl, BM_rp1, BM_ag0, BM_rp0, BM_sl0, BM_sl1, h1, h2, sn_app, hB2, hin]
      simp only [List.length_append, List.length_cons, List.length_nil] at hJ
      exact hJ rfl
    | false =>
      have hn' : isN nm (a, b) = false := hn
      rw [hn'] at hJ
      simp only [Bool.false_eq_true, if_false] at hJ
      have h1 : (1 ≤ 2 ^ 32) = True := by simp
      have h2 : (le.length + 1 ≤ 2 ^ 32) = True := by simp; omega
      simp -implicitDefEqProofs only [go_sem, List.reduceReplicate, Nat.reduceAdd, Nat.reduceSub, Nat.reduceLT, Nat.reduceLeDiff, Nat.reduceMul, Nat.reduceEqDiff, reduceCtorEq, Int.reduceLE, Int.reduceLT, Int.reduceEq, Int.reduceNe, Int.reduceBEq, Int.reduceBNe, Int.reduceAdd, Int.reduceSub, lvs_len, nat_lt hi, dec_lt hi, hx, Int.natCast_zero, Int.le_refl, Int.toNat_zero, List.take_length, List.drop_zero, List.drop_nil, lvs_nil, lvs_take, lvs_drop, lvs_all, lvs_empty, lvs_len, g0, s0, B_pl, B_any, B_nils, B_tup, B_lv, B_lvs, B_sl1, B_osl, B_ptr, B_agg2, B_sl0, B_cons, B_mid, B_rp2, List.take_left, hbel', List.length_append, List.append_assoc, Nat.le_add_right, BM_mat, BM_rp, BM_sl, BM_rp1, BM_ag0, BM_rp0, BM_sl0, BM_sl1, h1, h2, sn_app, hB2, hin]
      simp only [List.length_append, List.length_cons, List.length_nil] at hJ
      exact hJ rfl
  · intro hp J
    have hlt : ¬ L.length < L.length := Nat.lt_irrefl _
    rw [List.take_length]
    have h1 : (1 ≤ 2 ^ 32) = True := by simp
    have hol : (ownOf nm L).length ≤ 300 := Nat.le_trans (List.length_filter_le _ _) hsz.1
    have hll : (lessOf nm L).length ≤ 300 := Nat.le_trans (List.length_filter_le _ _) hsz.1
    have p1 : ((lessOf nm L).length ≤ 2 ^ 32) = True := by simp; omega
    have p2 : ((ownOf nm L).length ≤ 2 ^ 32) = True := by simp; omega
    have p3 : ((lessOf nm L).length + 1 ≤ 2 ^ 32) = True := by simp; omega
    have p4 : ((ownOf nm L).length + 1 ≤ 2 ^ 32) = True := by simp; omega
    have hw : (getL L nm).size ≤ 100000 := by
      rcases getL_mem L nm with h | ⟨x, hx, h⟩
      · rw [h]; decide
      · rw [h]; have := hsz.2 x hx; omega
    have hG : ∀ (A : List Lab), A.length ≤ 1000 → ∀ σ, Ans Try.prog 48 [.sl 2 (lvs A), Sx nm] σ (Sx (getL A nm)) σ := fun A hA σ => get_ans σ A nm hA
    have o1 := fun σ => holds_any σ k nm v (.sl 2 (lvs (lessOf nm L))) ⟨#[]⟩ (by have := hG (lessOf nm L) (by omega); rwa [getL_less] at this) (by decide)
    have o2 := fun σ => holds_any σ k nm v (.sl 2 (lvs (lessOf nm L ++ [(nm, ⟨#[]⟩)]))) ⟨#[]⟩ (by have := hG (lessOf nm L ++ [(nm, ⟨#[]⟩)]) (by simp; omega); rwa [getL_lessx] at this) (by decide)
    have o3 := fun σ => holds_any σ k nm v (.sl 2 (lvs (ownOf nm L))) (getL L nm) (by have := hG (ownOf nm L) (by omega); rwa [getL_own] at this) hw
    have o4 := fun σ => holds_any σ k nm v (.sl 2 (lvs L)) (getL L nm) (hG L (by omega)) hw
    have o5 : (ownOf nm L).length ≠ 0 → ∀ σ, Ans Try.prog 15 [mat k nm v, .sl 2 (lvs (ownOf nm L ++ [(nm, ⟨#[122, 122]⟩)]))] σ (Bo (holdsB k nm v (getL L nm))) σ := fun h σ =>
      holds_any σ k nm v _ (getL L nm) (by have := hG (ownOf nm L ++ [(nm, ⟨#[122, 122]⟩)]) (by simp; omega); rwa [getL_ownx _ _ _ h] at this) hw
    generalize holdsB k nm v ⟨#[]⟩ = b0 at o1 o2
    generalize holdsB k nm v (getL L nm) = b1 at o3 o4 o5
    clear hG
    generalize lessOf nm L = le at *
    generalize ownOf nm L = ow at *
    have d0 : ((ow.length : Int) == 0) = (ow.length == 0) := beq_cast ow.length 0
    have e0 : ∀ b : Bool, (b == b) = true := fun b => by cases b <;> rfl
    cases h3 : ow.isEmpty
    · have hl0 : (ow.length == 0) = false := by cases ow with
        | nil => cases h3
        | cons _ _ => rfl
      have o5 := o5 (by simpa using hl0)
      cases h0 : le.isEmpty
      · simp -implicitDefEqProofs only [mkE, List.foldl_cons, List.foldl_nil, go_sem, List.reduceReplicate, Nat.reduceAdd, Nat.reduceSub, Nat.reduceLT, Nat.reduceLeDiff, Nat.reduceMul, Nat.reduceEqDiff, reduceCtorEq, Int.reduceLE, Int.reduceLT, Int.reduceEq, Int.reduceNe, Int.reduceBEq, Int.reduceBNe, Int.reduceAdd, Int.reduceSub, lvs_len, nat_nlt hlt, dec_nlt hlt, Int.natCast_zero, Int.le_refl, Int.toNat_zero, List.take_length, List.drop_zero, List.drop_nil, lvs_nil, lvs_take, lvs_drop, lvs_all, lvs_empty, lvs_len, g0, s0, B_pl, B_any, B_nils, B_tup, B_lv, B_lvs, B_sl1, B_osl, B_ptr, B_agg2, B_sl0, B_cons, B_mid, B_rp2, List.take_left, hbel', List.length_append, List.append_assoc, Nat.le_add_right, BM_mat, BM_rp, BM_sl, BM_rp1, BM_ag0, BM_rp0, BM_sl0, BM_sl1, h1, h0, h3, p1, p2, p3, p4, sn_app, sn_app0, D_callS, e0]
        first | refine CO.intro (o1 _) ?_ | refine CD.intro (o1 _) ?_ | refine CS.intro o1 ?_
        simp -implicitDefEqProofs only [go_sem, List.reduceReplicate, Nat.reduceAdd, Nat.reduceSub, Nat.reduceLT, Nat.reduceLeDiff, Nat.reduceMul, Nat.reduceEqDiff, reduceCtorEq, Int.reduceLE, Int.reduceLT, Int.reduceEq, Int.reduceNe, Int.reduceBEq, Int.reduceBNe, Int.reduceAdd, Int.reduceSub, D_callS, lvs_len, d0, hl0, e0, lvs_nil, Int.natCast_zero]
        first | refine CO.intro (o2 _) ?_ | refine CD.intro (o2 _) ?_ | refine CS.intro o2 ?_
        simp -implicitDefEqProofs only [go_sem, List.reduceReplicate, Nat.reduceAdd, Nat.reduceSub, Nat.reduceLT, Nat.reduceLeDiff, Nat.reduceMul, Nat.reduceEqDiff, reduceCtorEq, Int.reduceLE, Int.reduceLT, Int.reduceEq, Int.reduceNe, Int.reduceBEq, Int.reduceBNe, Int.reduceAdd, Int.reduceSub, D_callS, lvs_len, d0, hl0, e0, lvs_nil, Int.natCast_zero]
        first | refine CO.intro (o3 _) ?_ | refine CD.intro (o3 _) ?_ | refine CS.intro o3 ?_
        simp -implicitDefEqProofs only [go_sem, List.reduceReplicate, Nat.reduceAdd, Nat.reduceSub, Nat.reduceLT, Nat.reduceLeDiff, Nat.reduceMul, Nat.reduceEqDiff, reduceCtorEq, Int.reduceLE, Int.reduceLT, Int.reduceEq, Int.reduceNe, Int.reduceBEq, Int.reduceBNe, Int.reduceAdd, Int.reduceSub, D_callS, lvs_len, d0, hl0, e0, lvs_nil, Int.natCast_zero]
        first | refine CO.intro (o4 _) ?_ | refine CD.intro (o4 _) ?_ | refine CS.intro o4 ?_
        simp -implicitDefEqProofs only [go_sem, List.reduceReplicate, Nat.reduceAdd, Nat.reduceSub, Nat.reduceLT, Nat.reduceLeDiff, Nat.reduceMul, Nat.reduceEqDiff, reduceCtorEq, Int.reduceLE, Int.reduceLT, Int.reduceEq, Int.reduceNe, Int.reduceBEq, Int.reduceBNe, Int.reduceAdd, Int.reduceSub, D_callS, lvs_len, d0, hl0, e0, lvs_nil, Int.natCast_zero]
        first | refine CO.intro (o5 _) ?_ | refine CD.intro (o5 _) ?_ | refine CS.intro o5 ?_
        simp -implicitDefEqProofs only [go_sem, List.reduceReplicate, Nat.reduceAdd, Nat.reduceSub, Nat.reduceLT, Nat.reduceLeDiff, Nat.reduceMul, Nat.reduceEqDiff, reduceCtorEq, Int.reduceLE, Int.reduceLT, Int.reduceEq, Int.reduceNe, Int.reduceBEq, Int.reduceBNe, Int.reduceAdd, Int.reduceSub, D_callS, lvs_len, d0, hl0, e0]
        first | refine CO.intro (o4 _) ?_ | refine CD.intro (o4 _) ?_ | refine CS.intro o4 ?_
        simp -implicitDefEqProofs only [go_sem, List.reduceReplicate, Nat.reduceAdd, Nat.reduceSub, Nat.reduceLT, Nat.reduceLeDiff, Nat.reduceMul, Nat.reduceEqDiff, reduceCtorEq, Int.reduceLE, Int.reduceLT, Int.reduceEq, Int.reduceNe, Int.reduceBEq, Int.reduceBNe, Int.reduceAdd, Int.reduceSub, D_callS, lvs_len, d0, hl0, e0]
        first | refine CO.intro (mr_abs _) ?_ | refine CD.intro (mr_abs _) ?_ | refine CS.intro mr_abs ?_
        simp -implicitDefEqProofs only [go_sem, List.reduceReplicate, Nat.reduceAdd, Nat.reduceSub, Nat.reduceLT, Nat.reduceLeDiff, Nat.reduceMul, Nat.reduceEqDiff, reduceCtorEq, Int.reduceLE, Int.reduceLT, Int.reduceEq, Int.reduceNe, Int.reduceBEq, Int.reduceBNe, Int.reduceAdd, Int.reduceSub]
        exact Fini.ret rfl
      · have hle : le = [] := List.isEmpty_iff.1 h0
        subst hle
        simp only [List.nil_append] at o2
        simp -implicitDefEqProofs only [mkE, List.foldl_cons, List.foldl_nil, go_sem, List.reduceReplicate, Nat.reduceAdd, Nat.reduceSub, Nat.reduceLT, Nat.reduceLeDiff, Nat.reduceMul, Nat.reduceEqDiff, reduceCtorEq, Int.reduceLE, Int.reduceLT, Int.reduceEq, Int.reduceNe, Int.reduceBEq, Int.reduceBNe, Int.reduceAdd, Int.reduceSub, lvs_len, nat_nlt hlt, dec_nlt hlt, Int.natCast_zero, Int.le_refl, Int.toNat_zero, List.take_length, List.drop_zero, List.drop_nil, lvs_nil, lvs_take, lvs_drop, lvs_all, lvs_empty, lvs_len, g0, s0, B_pl, B_any, B_nils, B_tup, B_lv, B_lvs, B_sl1, B_osl, B_ptr, B_agg2, B_sl0, B_cons, B_mid, B_rp2, List.take_left, hbel', List.length_append, List.append_assoc, Nat.le_add_right, BM_mat, BM_rp, BM_sl, BM_rp1, BM_ag0, BM_rp0, BM_sl0, BM_sl1, h1, h0, h3, p1, p2, p3, p4, sn_app, sn_app0, D_callS, e0]
        first | refine CO.intro (o1 _) ?_ | refine CD.intro (o1 _) ?_ | refine CS.intro o1 ?_
        simp -implicitDefEqProofs only [go_sem, List.reduceReplicate, Nat.reduceAdd, Nat.reduceSub, Nat.reduceLT, Nat.reduceLeDiff, Nat.reduceMul, Nat.reduceEqDiff, reduceCtorEq, Int.reduceLE, Int.reduceLT, Int.reduceEq, Int.reduceNe, Int.reduceBEq, Int.reduceBNe, Int.reduceAdd, Int.reduceSub, D_callS, lvs_len, d0, hl0, e0, lvs_nil, Int.natCast_zero]
        first | refine CO.intro (o2 _) ?_ | refine CD.intro (o2 _) ?_ | refine CS.intro o2 ?_
        simp -implicitDefEqProofs only [go_sem, List.reduceReplicate, Nat.reduceAdd, Nat.reduceSub, Nat.reduceLT, Nat.reduceLeDiff, Nat.reduceMul, Nat.reduceEqDiff, reduceCtorEq, Int.reduceLE, Int.reduceLT, Int.reduceEq, Int.reduceNe, Int.reduceBEq, Int.reduceBNe, Int.reduceAdd, Int.reduceSub, D_callS, lvs_len, d0, hl0, e0, lvs_nil, Int.natCast_zero]
        first | refine CO.intro (o3 _) ?_ | refine CD.intro (o3 _) ?_ | refine CS.intro o3 ?_
        simp -implicitDefEqProofs only [go_sem, List.reduceReplicate, Nat.reduceAdd, Nat.reduceSub, Nat.reduceLT, Nat.reduceLeDiff, Nat.reduceMul, Nat.reduceEqDiff, reduceCtorEq, Int.reduceLE, Int.reduceLT, Int.reduceEq, Int.reduceNe, Int.reduceBEq, Int.reduceBNe, Int.reduceAdd, Int.reduceSub, D_callS, lvs_len, d0, hl0, e0, lvs_nil, Int.natCast_zero]
        first | refine CO.intro (o4 _) ?_ | refine CD.intro (o4 _) ?_ | refine CS.intro o4 ?_
        simp -implicitDefEqProofs only [go_sem, List.reduceReplicate, Nat.reduceAdd, Nat.reduceSub, Nat.reduceLT, Nat.reduceLeDiff, Nat.reduceMul, Nat.reduceEqDiff, reduceCtorEq, Int.reduceLE, Int.reduceLT, Int.reduceEq, Int.reduceNe, Int.reduceBEq, Int.reduceBNe, Int.reduceAdd, Int.reduceSub, D_callS, lvs_len, d0, hl0, e0, lvs_nil, Int.natCast_zero]
        first | refine CO.intro (o5 _) ?_ | refine CD.intro (o5 _) ?_ | refine CS.intro o5 ?_
        simp -implicitDefEqProofs only [go_sem, List.reduceReplicate, Nat.reduceAdd, Nat.reduceSub, Nat.reduceLT, Nat.reduceLeDiff, Nat.reduceMul, Nat.reduceEqDiff, reduceCtorEq, Int.reduceLE, Int.reduceLT, Int.reduceEq, Int.reduceNe, Int.reduceBEq, Int.reduceBNe, Int.reduceAdd, Int.reduceSub, D_callS, lvs_len, d0, hl0, e0]
        first | refine CO.intro (o4 _) ?_ | refine CD.intro (o4 _) ?_ | refine CS.intro o4 ?_
        simp -implicitDefEqProofs only [go_sem, List.reduceReplicate, Nat.reduceAdd, Nat.reduceSub, Nat.reduceLT, Nat.reduceLeDiff, Nat.reduceMul, Nat.reduceEqDiff, reduceCtorEq, Int.reduceLE, Int.reduceLT, Int.reduceEq, Int.reduceNe, Int.reduceBEq, Int.reduceBNe, Int.reduceAdd, Int.reduceSub, D_callS, lvs_len, d0, hl0, e0]
        first | refine CO.intro (mr_abs _) ?_ | refine CD.intro (mr_abs _) ?_ | refine CS.intro mr_abs ?_
        simp -implicitDefEqProofs only [go_sem, List.reduceReplicate, Nat.reduceAdd, Nat.reduceSub, Nat.reduceLT, Nat.reduceLeDiff, Nat.reduceMul, Nat.reduceEqDiff, reduceCtorEq, Int.reduceLE, Int.reduceLT, Int.reduceEq, Int.reduceNe, Int.reduceBEq, Int.reduceBNe, Int.reduceAdd, Int.reduceSub]
        exact Fini.ret rfl
    · have how : ow = [] := List.isEmpty_iff.1 h3
      subst how
      have hl0 : (([] : List Lab).length == 0) = true := rfl
      cases h0 : le.isEmpty
      · simp -implicitDefEqProofs only [mkE, List.foldl_cons, List.foldl_nil, go_sem, List.reduceReplicate, Nat.reduceAdd, Nat.reduceSub, Nat.reduceLT, Nat.reduceLeDiff, Nat.reduceMul, Nat.reduceEqDiff, reduceCtorEq, Int.reduceLE, Int.reduceLT, Int.reduceEq, Int.reduceNe, Int.reduceBEq, Int.reduceBNe, Int.reduceAdd, Int.reduceSub, lvs_len, nat_nlt hlt, dec_nlt hlt, Int.natCast_zero, Int.le_refl, Int.toNat_zero, List.take_length, List.drop_zero, List.drop_nil, lvs_nil, lvs_take, lvs_drop, lvs_all, lvs_empty, lvs_len, g0, s0, B_pl, B_any, B_nils, B_tup, B_lv, B_lvs, B_sl1, B_osl, B_ptr, B_agg2, B_sl0, B_cons, B_mid, B_rp2, List.take_left, hbel', List.length_append, List.append_assoc, Nat.le_add_right, BM_mat, BM_rp, BM_sl, BM_rp1, BM_ag0, BM_rp0, BM_sl0, BM_sl1, h1, h0, h3, p1, p2, p3, p4, sn_app, sn_app0, D_callS, e0]
        first | refine CO.intro (o1 _) ?_ | refine CD.intro (o1 _) ?_ | refine CS.intro o1 ?_
        simp -implicitDefEqProofs only [go_sem, List.reduceReplicate, Nat.reduceAdd, Nat.reduceSub, Nat.reduceLT, Nat.reduceLeDiff, Nat.reduceMul, Nat.reduceEqDiff, reduceCtorEq, Int.reduceLE, Int.reduceLT, Int.reduceEq, Int.reduceNe, Int.reduceBEq, Int.reduceBNe, Int.reduceAdd, Int.reduceSub, D_callS, lvs_len, d0, hl0, e0, lvs_nil, Int.natCast_zero]
        first | refine CO.intro (o2 _) ?_ | refine CD.intro (o2 _) ?_ | refine CS.intro o2 ?_
        simp -implicitDefEqProofs only [go_sem, List.reduceReplicate, Nat.reduceAdd, Nat.reduceSub, Nat.reduceLT, Nat.reduceLeDiff, Nat.reduceMul, Nat.reduceEqDiff, reduceCtorEq, Int.reduceLE, Int.reduceLT, Int.reduceEq, Int.reduceNe, Int.reduceBEq, Int.reduceBNe, Int.reduceAdd, Int.reduceSub, D_callS, lvs_len, d0, hl0, e0, lvs_nil, Int.natCast_zero]
        first | refine CO.intro (o3 _) ?_ | refine CD.intro (o3 _) ?_ | refine CS.intro o3 ?_
        simp -implicitDefEqProofs only [go_sem, List.reduceReplicate, Nat.reduceAdd, Nat.reduceSub, Nat.reduceLT, Nat.reduceLeDiff, Nat.reduceMul, Nat.reduceEqDiff, reduceCtorEq, Int.reduceLE, Int.reduceLT, Int.reduceEq, Int.reduceNe, Int.reduceBEq, Int.reduceBNe, Int.reduceAdd, Int.reduceSub, D_callS, lvs_len, d0, hl0, e0, lvs_nil, Int.natCast_zero]
        first | refine CO.intro (o4 _) ?_ | refine CD.intro (o4 _) ?_ | refine CS.intro o4 ?_
        simp -implicitDefEqProofs only [go_sem, List.reduceReplicate, Nat.reduceAdd, Nat.reduceSub, Nat.reduceLT, Nat.reduceLeDiff, Nat.reduceMul, Nat.reduceEqDiff, reduceCtorEq, Int.reduceLE, Int.reduceLT, Int.reduceEq, Int.reduceNe, Int.reduceBEq, Int.reduceBNe, Int.reduceAdd, Int.reduceSub, D_callS, lvs_len, d0, hl0, e0, lvs_nil, Int.natCast_zero]
        first | refine CO.intro (mr_abs _) ?_ | refine CD.intro (mr_abs _) ?_ | refine CS.intro mr_abs ?_
        simp -implicitDefEqProofs only [go_sem, List.reduceReplicate, Nat.reduceAdd, Nat.reduceSub, Nat.reduceLT, Nat.reduceLeDiff, Nat.reduceMul, Nat.reduceEqDiff, reduceCtorEq, Int.reduceLE, Int.reduceLT, Int.reduceEq, Int.reduceNe, Int.reduceBEq, Int.reduceBNe, Int.reduceAdd, Int.reduceSub]
        exact Fini.ret rfl
      · have hle : le = [] := List.isEmpty_iff.1 h0
        subst hle
        simp only [List.nil_append] at o2
        simp -implicitDefEqProofs only [mkE, List.foldl_cons, List.foldl_nil, go_sem, List.reduceReplicate, Nat.reduceAdd, Nat.reduceSub, Nat.reduceLT, Nat.reduceLeDiff, Nat.reduceMul, Nat.reduceEqDiff, reduceCtorEq, Int.reduceLE, Int.reduceLT, Int.reduceEq, Int.reduceNe, Int.reduceBEq, Int.reduceBNe, Int.reduceAdd, Int.reduceSub, lvs_len, nat_nlt hlt, dec_nlt hlt, Int.natCast_zero, Int.le_refl, Int.toNat_zero, List.take_length, List.drop_zero, List.drop_nil, lvs_nil, lvs_take, lvs_drop, lvs_all, lvs_empty, lvs_len, g0, s0, B_pl, B_any, B_nils, B_tup, B_lv, B_lvs, B_sl1, B_osl, B_ptr, B_agg2, B_sl0, B_cons, B_mid, B_rp2, List.take_left, hbel', List.length_append, List.append_assoc, Nat.le_add_right, BM_mat, BM_rp, BM_sl, BM_rp1, BM_ag0, BM_rp0, BM_sl0, BM_sl1, h1, h0, h3, p1, p2, p3, p4, sn_app, sn_app0, D_callS, e0]
        first | refine CO.intro (o1 _) ?_ | refine CD.intro (o1 _) ?_ | refine CS.intro o1 ?_
        simp -implicitDefEqProofs only [go_sem, List.reduceReplicate, Nat.reduceAdd, Nat.reduceSub, Nat.reduceLT, Nat.reduceLeDiff, Nat.reduceMul, Nat.reduceEqDiff, reduceCtorEq, Int.reduceLE, Int.reduceLT, Int.reduceEq, Int.reduceNe, Int.reduceBEq, Int.reduceBNe, Int.reduceAdd, Int.reduceSub, D_callS, lvs_len, d0, hl0, e0, lvs_nil, Int.natCast_zero]
        first | refine CO.intro (o2 _) ?_ | refine CD.intro (o2 _) ?_ | refine CS.intro o2 ?_
        simp -implicitDefEqProofs only [go_sem, List.reduceReplicate, Nat.reduceAdd, Nat.reduceSub, Nat.reduceLT, Nat.reduceLeDiff, Nat.reduceMul, Nat.reduceEqDiff, reduceCtorEq, Int.reduceLE, Int.reduceLT, Int.reduceEq, Int.reduceNe, Int.reduceBEq, Int.reduceBNe, Int.reduceAdd, Int.reduceSub, D_callS, lvs_len, d0, hl0, e0, lvs_nil, Int.natCast_zero]
        first | refine CO.intro (o3 _) ?_ | refine CD.intro (o3 _) ?_ | refine CS.intro o3 ?_
        simp -implicitDefEqProofs only [go_sem, List.reduceReplicate, Nat.reduceAdd, Nat.reduceSub, Nat.reduceLT, Nat.reduceLeDiff, Nat.reduceMul, Nat.reduceEqDiff, reduceCtorEq, Int.reduceLE, Int.reduceLT, Int.reduceEq, Int.reduceNe, Int.reduceBEq, Int.reduceBNe, Int.reduceAdd, Int.reduceSub, D_callS, lvs_len, d0, hl0, e0, lvs_nil, Int.natCast_zero]
        first | refine CO.intro (o4 _) ?_ | refine CD.intro (o4 _) ?_ | refine CS.intro o4 ?_
        simp -implicitDefEqProofs only [go_sem, List.reduceReplicate, Nat.reduceAdd, Nat.reduceSub, Nat.reduceLT, Nat.reduceLeDiff, Nat.reduceMul, Nat.reduceEqDiff, reduceCtorEq, Int.reduceLE, Int.reduceLT, Int.reduceEq, Int.reduceNe, Int.reduceBEq, Int.reduceBNe, Int.reduceAdd, Int.reduceSub, D_callS, lvs_len, d0, hl0, e0, lvs_nil, Int.natCast_zero]
        first | refine CO.intro (mr_abs _) ?_ | refine CD.intro (mr_abs _) ?_ | refine CS.intro mr_abs ?_
        simp -implicitDefEqProofs only [go_sem, List.reduceReplicate, Nat.reduceAdd, Nat.reduceSub, Nat.reduceLT, Nat.reduceLeDiff, Nat.reduceMul, Nat.reduceEqDiff, reduceCtorEq, Int.reduceLE, Int.reduceLT, Int.reduceEq, Int.reduceNe, Int.reduceBEq, Int.reduceBNe, Int.reduceAdd, Int.reduceSub]
        exact Fini.ret rfl
end Go.Proofs.Ytoadgajhkhejiaa
