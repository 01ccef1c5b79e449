/- Drawn lists of matchers. No condition. -/
import Derived.Test.YtoadgajhkhejiaaDr5
set_option linter.unusedSimpArgs false
set_option linter.unusedVariables false
namespace Go.Proofs.Ytoadgajhkhejiaa
open Go Go.Ab
set_option maxRecDepth 100000

abbrev Mt := Int × ByteArray × ByteArray
abbrev mv (x : Mt) : AV := mat x.1 x.2.1 x.2.2
def mvs (M : List Mt) : List AV := M.map mv
abbrev noM' : Mt := (0, ⟨#[]⟩, ⟨#[]⟩)
theorem mvs_len (M : List Mt) : (mvs M).length = M.length := List.length_map ..
theorem mvs_get (M : List Mt) (i : Nat) (h : i < M.length) : (mvs M)[i]? = some (mv M[i]) := by simp [mvs, h]
theorem mvs_take (L : List Mt) (k : Nat) : (mvs L).take k = mvs (L.take k) := by simp [mvs]
theorem mvs_drop (L : List Mt) (k : Nat) : (mvs L).drop k = mvs (L.drop k) := by simp [mvs]
theorem mvs_all (L : List Mt) (f : AV → Bool) (h : ∀ x : Mt, f (mv x) = true) : (mvs L).all f = true := by
  simp only [mvs, List.all_map, List.all_eq_true]
  exact fun x _ => h x
theorem mvs_nil : mvs [] = [] := rfl
theorem mvs_empty (L : List Mt) : (mvs L).isEmpty = L.isEmpty := by simp [mvs]
theorem mvs_mid (A B : List Mt) (x : Mt) : mvs (A ++ [x] ++ B) = mvs A ++ mv x :: mvs B := by simp [mvs]
theorem bel_mvs (n : Nat) (L : List Mt) : Bel n (.sl 3 (mvs L)) := by
  refine .sl 3 _ fun i hi => ?_
  have : ∀ y ∈ mvs L, Bel n y := by
    intro y hy
    simp only [mvs, List.mem_map] at hy
    obtain ⟨x, _, rfl⟩ := hy
    exact bel_mat n _ _ _
  exact this _ (List.getElem_mem hi)
theorem B_mvs (n : Nat) (L : List Mt) : Bel n (.sl 3 (mvs L)) = True := eq_true (bel_mvs n L)
theorem B_mat (n : Nat) (k : Int) (a b : ByteArray) : Bel n (mat k a b) = True := eq_true (bel_mat n k a b)
theorem B_m1 (n : Nat) (k : Int) (a b : ByteArray) : Bel n (.sl 3 [mat k a b]) = True := eq_true (bel_mvs n [(k, a, b)])
theorem B_mcons (n : Nat) (L : List Mt) (k : Int) (a b : ByteArray) : Bel n (.sl 3 (mat k a b :: mvs L)) = True := eq_true (bel_mvs n ((k, a, b) :: L))
theorem B_mmid (n : Nat) (A B : List Mt) (k : Int) (a b : ByteArray) : Bel n (.sl 3 (mvs A ++ mat k a b :: mvs B)) = True := eq_true (by have := bel_mvs n (A ++ [(k, a, b)] ++ B); rwa [mvs_mid] at this)
theorem B_rp3 (n : Nat) (k : Int) (a b : ByteArray) : Bel n (.rp [I k, Sx a, Sx b]) = True := eq_true (.rp _ fun i hi => by
  have : ∀ y ∈ [I k, Sx a, Sx b], Bel n y := by
    intro y hy
    simp only [List.mem_cons, List.not_mem_nil, or_false] at hy
    rcases hy with rfl | rfl | rfl <;> exact .pl _
  exact this _ (List.getElem_mem hi))
abbrev dv (d : Int × Int × Int) : AV := .agg [I d.1, I d.2.1, I d.2.2]
theorem B_ds (n : Nat) (ds : List (Int × Int × Int)) : Bel n (.sl 3 (ds.map dv)) = True := eq_true (.sl 3 _ fun i hi => by
  have : ∀ y ∈ ds.map dv, Bel n y := by
    intro y hy
    simp only [List.mem_map] at hy
    obtain ⟨x, _, rfl⟩ := hy
    refine .agg _ fun i hi => ?_
    have : ∀ y ∈ [I x.1, I x.2.1, I x.2.2], Bel n y := by
      intro y hy
      simp only [List.mem_cons, List.not_mem_nil, or_false] at hy
      rcases hy with rfl | rfl | rfl <;> exact .pl _
    exact this _ (List.getElem_mem hi)
  exact this _ (List.getElem_mem hi))
theorem B_d3 (n : Nat) (a b c : Int) : Bel n (.agg [I a, I b, I c]) = True := eq_true (.agg _ fun i hi => by
  have : ∀ y ∈ [I a, I b, I c], Bel n y := by
    intro y hy
    simp only [List.mem_cons, List.not_mem_nil, or_false] at hy
    rcases hy with rfl | rfl | rfl <;> exact .pl _
  exact this _ (List.getElem_mem hi))
theorem B_rpd (n : Nat) (a b c : Int) : Bel n (.rp [I a, I b, I c]) = True := eq_true (.rp _ fun i hi => by
  have : ∀ y ∈ [I a, I b, I c], Bel n y := by
    intro y hy
    simp only [List.mem_cons, List.not_mem_nil, or_false] at hy
    rcases hy with rfl | rfl | rfl <;> exact .pl _
  exact this _ (List.getElem_mem hi))

def aheadP (x y : Mt) : Bool :=
  if !(x.2.1.toList == y.2.1.toList) then Op.bytesLess x.2.1.toList y.2.1.toList
  else if x.1 != y.1 then decide (x.1 < y.1) else Op.bytesLess x.2.2.toList y.2.2.toList
def eqM (x y : Mt) : Bool := x.1 == y.1 && (x.2.1.toList == y.2.1.toList && x.2.2.toList == y.2.2.toList)
def posM (out : List Mt) (x : Mt) : Nat → Nat
  | 0 => 0
  | n + 1 => if aheadP x (out.getD n noM') then posM out x n else n + 1
def insM (out : List Mt) (x : Mt) : List Mt :=
  let p := posM out x out.length
  if decide (0 < p) && eqM (out.getD (p - 1) noM') x then out else out.take p ++ [x] ++ out.drop p
def matOf (d : Int × Int × Int) : Mt := (inD d.1 1 4, nameOf d.2.1, matVal d.1 d.2.2)
def matsGo : List (Int × Int × Int) → List Mt → List Mt
  | [], out => out
  | d :: ds, out => if out.length < 5 then matsGo ds (insM out (matOf d)) else out

section
variable (σ : St)
theorem ahead_ans (x y : Mt) : Ans Try.prog 65 [mv x, mv y] σ (Bo (aheadP x y)) σ := by
  unfold aheadP
  refine Ans.of_run t65 ?_
  simp -implicitDefEqProofs only [c65, r65, go_sem, List.reduceReplicate, Nat.reduceAdd, Nat.reduceSub, Nat.reduceLT, Nat.reduceLeDiff, Nat.reduceMul, Nat.reduceEqDiff, reduceCtorEq, Int.reduceLE, Int.reduceLT, Int.reduceEq, Int.reduceNe, Int.reduceBEq, Int.reduceBNe, Int.reduceAdd, Int.reduceSub]
  cases h1 : x.2.1.toList == y.2.1.toList
  · simp -implicitDefEqProofs only [go_sem, List.reduceReplicate, Nat.reduceAdd, Nat.reduceSub, Nat.reduceLT, Nat.reduceLeDiff, Nat.reduceMul, Nat.reduceEqDiff, reduceCtorEq, Int.reduceLE, Int.reduceLT, Int.reduceEq, Int.reduceNe, Int.reduceBEq, Int.reduceBNe, Int.reduceAdd, Int.reduceSub]
    exact Fini.ret rfl
  · simp -implicitDefEqProofs only [go_sem, List.reduceReplicate, Nat.reduceAdd, Nat.reduceSub, Nat.reduceLT, Nat.reduceLeDiff, Nat.reduceMul, Nat.reduceEqDiff, reduceCtorEq, Int.reduceLE, Int.reduceLT, Int.reduceEq, Int.reduceNe, Int.reduceBEq, Int.reduceBNe, Int.reduceAdd, Int.reduceSub]
    cases h2 : x.1 != y.1
    · simp -implicitDefEqProofs only [go_sem, List.reduceReplicate, Nat.reduceAdd, Nat.reduceSub, Nat.reduceLT, Nat.reduceLeDiff, Nat.reduceMul, Nat.reduceEqDiff, reduceCtorEq, Int.reduceLE, Int.reduceLT, Int.reduceEq, Int.reduceNe, Int.reduceBEq, Int.reduceBNe, Int.reduceAdd, Int.reduceSub]
      exact Fini.ret rfl
    · simp -implicitDefEqProofs only [go_sem, List.reduceReplicate, Nat.reduceAdd, Nat.reduceSub, Nat.reduceLT, Nat.reduceLeDiff, Nat.reduceMul, Nat.reduceEqDiff, reduceCtorEq, Int.reduceLE, Int.reduceLT, Int.reduceEq, Int.reduceNe, Int.reduceBEq, Int.reduceBNe, Int.reduceAdd, Int.reduceSub]
      exact Fini.ret rfl

theorem mats_ans (ds : List (Int × Int × Int)) (hl : ds.length ≤ 9223372036854775807) : Ans Try.prog 23 [.sl 3 (ds.map dv), Bo false] σ (.sl 3 (mvs (matsGo ds []))) σ := by
  refine Ans.of_run' t23 (fun hbel _ => ?_)
  have hbel' : (∀ o ∈ σ, BelO σ.length o) = True := eq_true hbel
  simp -implicitDefEqProofs only [c23, r23, go_sem, List.reduceReplicate, Nat.reduceAdd, Nat.reduceSub, Nat.reduceLT, Nat.reduceLeDiff, Nat.reduceMul, Nat.reduceEqDiff, reduceCtorEq, Int.reduceLE, Int.reduceLT, Int.reduceEq, Int.reduceNe, Int.reduceBEq, Int.reduceBNe, Int.reduceAdd, Int.reduceSub, B_pl, B_any, B_nils, B_tup, B_osl, B_ptr, B_sl0, B_mvs, B_mat, B_m1, B_mcons, B_mmid, B_rp3, B_ds, B_d3, B_rpd, List.take_left, hbel', g0, s0, List.length_append, Nat.le_add_right]
  generalize hres : matsGo ds [] = res
  have hdl : (((ds.map dv).length : Nat) : Int) = (ds.length : Nat) := by simp
  refine Go.Ab.L.intro (α := { x : Nat × List Mt // x.1 ≤ ds.length ∧ x.2.length ≤ 5 ∧ matsGo (ds.drop x.1) x.2 = res }) (fun x => ds.length - x.1.1)
    (fun x => mkE 73 [(0, .sl 3 (ds.map dv)), (1, Bo false), (5, .sl 3 (mvs x.1.2)), (6, I x.1.1)]) (fun _ => σ)
    (fun x J hJ => ?_) ⟨(0, []), Nat.zero_le _, Nat.zero_le _, hres⟩ rfl rfl
  obtain ⟨⟨i, out⟩, hi, ho, hg⟩ := x
  simp only at hi ho hg hJ ⊢
  by_cases hlt : i < ds.length
  · have hget : (ds.map dv)[i]? = some (dv ds[i]) := by simp [hlt]
    have d5 : decide (((out.length : Nat) : Int) < 5) = decide (out.length < 5) := by rw [Bool.eq_iff_iff]; simp only [decide_eq_true_eq]; omega
    rw [List.drop_eq_getElem_cons hlt, matsGo] at hg
    simp -implicitDefEqProofs only [mkE, List.foldl_cons, List.foldl_nil, go_sem, List.reduceReplicate, Nat.reduceAdd, Nat.reduceSub, Nat.reduceLT, Nat.reduceLeDiff, Nat.reduceMul, Nat.reduceEqDiff, reduceCtorEq, Int.reduceLE, Int.reduceLT, Int.reduceEq, Int.reduceNe, Int.reduceBEq, Int.reduceBNe, Int.reduceAdd, Int.reduceSub, hdl, nat_lt hlt, dec_lt hlt, mvs_len, d5]
    by_cases h5 : out.length < 5
    · rw [if_pos h5] at hg
      have h5' : decide (out.length < 5) = true := by simpa using h5
      have hws : IntKind.i64.wrap ((i : Int) + 1) = ((i + 1 : Nat) : Int) := by rw [wrapN (by omega) (by omega)]; rfl
      have hJ' := hJ ⟨(i + 1, insM out (matOf ds[i])), hlt, by
        unfold insM; simp only; split
        · exact ho
        · simp; omega, hg⟩ (by simp only; omega)
      simp only at hJ'
      clear hJ hg
      simp -implicitDefEqProofs only [go_sem, List.reduceReplicate, Nat.reduceAdd, Nat.reduceSub, Nat.reduceLT, Nat.reduceLeDiff, Nat.reduceMul, Nat.reduceEqDiff, reduceCtorEq, Int.reduceLE, Int.reduceLT, Int.reduceEq, Int.reduceNe, Int.reduceBEq, Int.reduceBNe, Int.reduceAdd, Int.reduceSub, h5', hget, hdl, nat_lt hlt]
      refine CO.intro (matcher_ans σ _ _ _) ?_
      simp -implicitDefEqProofs only [go_sem, List.reduceReplicate, Nat.reduceAdd, Nat.reduceSub, Nat.reduceLT, Nat.reduceLeDiff, Nat.reduceMul, Nat.reduceEqDiff, reduceCtorEq, Int.reduceLE, Int.reduceLT, Int.reduceEq, Int.reduceNe, Int.reduceBEq, Int.reduceBNe, Int.reduceAdd, Int.reduceSub, mvs_len]
      have hx : mat (inD ds[i].1 1 4) (nameOf ds[i].2.1) (matVal ds[i].1 ds[i].2.2) = mv (matOf ds[i]) := rfl
      unfold insM at hJ'
      simp only at hJ'
      generalize hp : posM out (matOf ds[i]) out.length = p at hJ'
      have hxx : matOf ds[i] = (inD ds[i].1 1 4, nameOf ds[i].2.1, matVal ds[i].1 ds[i].2.2) := rfl
      rw [hxx] at hp hJ'
      generalize inD ds[i].1 1 4 = xk at hp hJ' ⊢
      generalize nameOf ds[i].2.1 = xn at hp hJ' ⊢
      generalize matVal ds[i].1 ds[i].2.2 = xv at hp hJ' ⊢
      refine Go.Ab.L.intro (α := { n : Nat // n ≤ out.length ∧ posM out (xk, xn, xv) n = p }) (fun x => x.1)
        (fun x => mkE 73 [(0, .sl 3 (ds.map dv)), (1, Bo false), (5, .sl 3 (mvs out)), (6, I i), (7, .rp [I xk, Sx xn, Sx xv]), (8, I x.1)]) (fun _ => σ)
        (fun x J2 hJ2 => ?_) ⟨out.length, Nat.le_refl _, hp⟩ rfl rfl
      obtain ⟨n, hn, hpn⟩ := x
      simp only at hJ2 ⊢
      cases n with
      | zero =>
        rw [posM] at hpn
        subst hpn
        have h1 : (1 ≤ 2 ^ 32) = True := by simp
        have d00 : decide ((0 : Int) < ((0 : Nat) : Int)) = false := by decide
        have hp32 : (1 + out.length ≤ 2 ^ 32) = True := by simp; omega
        have q1 : (1 + out.length = out.length + 1) = True := by simp; omega
        rw [show decide (0 < 0) = false from rfl, Bool.false_and, if_neg Bool.false_ne_true, mvs_mid] at hJ'
        simp -implicitDefEqProofs only [mkE, List.foldl_cons, List.foldl_nil, go_sem, List.reduceReplicate, Nat.reduceAdd, Nat.reduceSub, Nat.reduceLT, Nat.reduceLeDiff, Nat.reduceMul, Nat.reduceEqDiff, reduceCtorEq, Int.reduceLE, Int.reduceLT, Int.reduceEq, Int.reduceNe, Int.reduceBEq, Int.reduceBNe, Int.reduceAdd, Int.reduceSub, q1, d00, Int.natCast_zero, Int.le_refl, Int.toNat_zero, List.take_length, List.drop_zero, List.drop_nil, mvs_nil, mvs_take, mvs_drop, mvs_all, mvs_empty, mvs_len, g0, s0, B_pl, B_any, B_nils, B_tup, B_osl, B_ptr, B_sl0, B_mvs, B_mat, B_m1, B_mcons, B_mmid, B_rp3, B_ds, B_d3, B_rpd, hp32, h1, List.take_left, hbel', List.length_append, List.append_assoc, Nat.le_add_right, hws]
        exact hJ'
      | succ n =>
        have hy := mvs_get out n hn
        have hgd : out.getD n noM' = out[n] := by rw [List.getD_eq_getElem?_getD, List.getElem?_eq_getElem hn]; rfl
        have d0 : decide ((0 : Int) < ((n + 1 : Nat) : Int)) = true := by simp
        have e1 : IntKind.i64.wrap (((n + 1 : Nat) : Int) - 1) = (n : Int) := by rw [wrapN (by omega) (by omega)]; omega
        rw [posM, hgd] at hpn
        have ha := fun s => ahead_ans s (xk, xn, xv) out[n]
        have heq : ∀ y : Mt, eqM y (xk, xn, xv) = (y.1 == xk && (y.2.1.toList == xn.toList && y.2.2.toList == xv.toList)) := fun _ => rfl
        simp -implicitDefEqProofs only [mkE, List.foldl_cons, List.foldl_nil, go_sem, List.reduceReplicate, Nat.reduceAdd, Nat.reduceSub, Nat.reduceLT, Nat.reduceLeDiff, Nat.reduceMul, Nat.reduceEqDiff, reduceCtorEq, Int.reduceLE, Int.reduceLT, Int.reduceEq, Int.reduceNe, Int.reduceBEq, Int.reduceBNe, Int.reduceAdd, Int.reduceSub, D_callS, d0, e1, mvs_len, nat_lt hn, hy]
        first | refine CO.intro (ha _) ?_ | refine CD.intro (ha _) ?_ | refine CS.intro ha ?_
        cases hb : aheadP (xk, xn, xv) out[n]
        · rw [hb, if_neg Bool.false_ne_true] at hpn
          subst hpn
          rw [show decide (0 < n + 1) = true by simp, Bool.true_and, show n + 1 - 1 = n from rfl, hgd, heq] at hJ'
          have p1 : (((n + 1 : Nat) : Int) ≤ (out.length : Nat)) = True := by simp; omega
          have p2 : (out.take (n + 1)).isEmpty = false := by
            cases h : out.take (n + 1) with
            | nil =>
              have : (out.take (n + 1)).length = 0 := by rw [h]; rfl
              rw [List.length_take] at this; omega
            | cons _ _ => rfl
          have p3 : (out.take (n + 1)).length = n + 1 := by simp; omega
          have p4 : (out.drop (n + 1)).length = out.length - (n + 1) := by simp
          have p5 : (n + 1 ≤ 2 ^ 32) = True := by simp; omega
          have p6 : (n + 1 + 1 ≤ 2 ^ 32) = True := by simp; omega
          have p7 : (n + 1 + 1 + (out.length - (n + 1)) ≤ 2 ^ 32) = True := by simp; omega
          have q2 : (n + 1 + 1 + (out.length - (n + 1)) = n + 1 + (out.length - (n + 1) + 1)) = True := by simp; omega
          simp -implicitDefEqProofs only [go_sem, List.reduceReplicate, Nat.reduceAdd, Nat.reduceSub, Nat.reduceLT, Nat.reduceLeDiff, Nat.reduceMul, Nat.reduceEqDiff, reduceCtorEq, Int.reduceLE, Int.reduceLT, Int.reduceEq, Int.reduceNe, Int.reduceBEq, Int.reduceBNe, Int.reduceAdd, Int.reduceSub, D_callS, d0, e1, mvs_len, nat_lt hn, hy]
          cases he : (out[n].1 == xk && (out[n].2.1.toList == xn.toList && out[n].2.2.toList == xv.toList))
          · rw [he, if_neg Bool.false_ne_true, mvs_mid] at hJ'
            simp -implicitDefEqProofs only [go_sem, List.reduceReplicate, Nat.reduceAdd, Nat.reduceSub, Nat.reduceLT, Nat.reduceLeDiff, Nat.reduceMul, Nat.reduceEqDiff, reduceCtorEq, Int.reduceLE, Int.reduceLT, Int.reduceEq, Int.reduceNe, Int.reduceBEq, Int.reduceBNe, Int.reduceAdd, Int.reduceSub, he, q2, Int.natCast_zero, Int.le_refl, Int.toNat_zero, List.take_length, List.drop_zero, List.drop_nil, mvs_nil, mvs_take, mvs_drop, mvs_all, mvs_empty, mvs_len, g0, s0, B_pl, B_any, B_nils, B_tup, B_osl, B_ptr, B_sl0, B_mvs, B_mat, B_m1, B_mcons, B_mmid, B_rp3, B_ds, B_d3, B_rpd, List.take_left, hbel', List.length_append, List.append_assoc, Nat.le_add_right, hws, p1, p2, p3, p4, p5, p6, p7]
            exact hJ'
          · rw [he, if_pos rfl] at hJ'
            simp -implicitDefEqProofs only [go_sem, List.reduceReplicate, Nat.reduceAdd, Nat.reduceSub, Nat.reduceLT, Nat.reduceLeDiff, Nat.reduceMul, Nat.reduceEqDiff, reduceCtorEq, Int.reduceLE, Int.reduceLT, Int.reduceEq, Int.reduceNe, Int.reduceBEq, Int.reduceBNe, Int.reduceAdd, Int.reduceSub, he, hws]
            exact hJ'
        · rw [hb, if_pos rfl] at hpn
          have hJ2' := hJ2 ⟨n, by omega, hpn⟩ (Nat.lt_succ_self n)
          simp only at hJ2'
          simp -implicitDefEqProofs only [mkE, List.foldl_cons, List.foldl_nil, go_sem, List.reduceReplicate, Nat.reduceAdd, Nat.reduceSub, Nat.reduceLT, Nat.reduceLeDiff, Nat.reduceMul, Nat.reduceEqDiff, reduceCtorEq, Int.reduceLE, Int.reduceLT, Int.reduceEq, Int.reduceNe, Int.reduceBEq, Int.reduceBNe, Int.reduceAdd, Int.reduceSub, D_callS, d0, e1, mvs_len, nat_lt hn, hy]
          exact hJ2'
    · rw [if_neg h5] at hg
      have h5' : decide (out.length < 5) = false := by simpa using h5
      simp -implicitDefEqProofs only [go_sem, List.reduceReplicate, Nat.reduceAdd, Nat.reduceSub, Nat.reduceLT, Nat.reduceLeDiff, Nat.reduceMul, Nat.reduceEqDiff, reduceCtorEq, Int.reduceLE, Int.reduceLT, Int.reduceEq, Int.reduceNe, Int.reduceBEq, Int.reduceBNe, Int.reduceAdd, Int.reduceSub, h5', mvs_len]
      rw [← hg]
      exact Fini.ret rfl
  · have : i = ds.length := by omega
    subst this
    rw [List.drop_length, matsGo] at hg
    simp -implicitDefEqProofs only [mkE, List.foldl_cons, List.foldl_nil, go_sem, List.reduceReplicate, Nat.reduceAdd, Nat.reduceSub, Nat.reduceLT, Nat.reduceLeDiff, Nat.reduceMul, Nat.reduceEqDiff, reduceCtorEq, Int.reduceLE, Int.reduceLT, Int.reduceEq, Int.reduceNe, Int.reduceBEq, Int.reduceBNe, Int.reduceAdd, Int.reduceSub, hdl, nat_nlt hlt, dec_nlt hlt, mvs_len]
    rw [← hg]
    exact Fini.ret rfl
end
end Go.Proofs.Ytoadgajhkhejiaa
