/- What statements draw: sets of labels. No condition. -/
import Derived.Test.YtoadgajhkhejiaaDr2
set_option linter.unusedSimpArgs false
set_option linter.unusedVariables false
namespace Go.Proofs.Ytoadgajhkhejiaa
open Go Go.Ab
set_option maxRecDepth 100000

abbrev noL : Lab := (⟨#[]⟩, ⟨#[]⟩)
def pos (out : List Lab) (x : Lab) : Nat → Nat
  | 0 => 0
  | n + 1 => if Op.bytesLess x.1.toList (out.getD n noL).1.toList then pos out x n else n + 1
def insL (out : List Lab) (x : Lab) : List Lab := out.take (pos out x out.length) ++ [x] ++ out.drop (pos out x out.length)
def setL (L : List Lab) : List Lab := L.foldl insL []
theorem pos_le (out : List Lab) (x : Lab) : ∀ n, pos out x n ≤ n
  | 0 => Nat.le_refl _
  | n + 1 => by
    rw [pos]; split
    · exact Nat.le_succ_of_le (pos_le out x n)
    · exact Nat.le_refl _
theorem insL_len (out : List Lab) (x : Lab) : (insL out x).length = out.length + 1 := by
  have := pos_le out x out.length
  simp only [insL, List.length_append, List.length_take, List.length_drop, List.length_cons, List.length_nil]
  omega
theorem setL_snoc (L : List Lab) (x : Lab) : setL (L ++ [x]) = insL (setL L) x := by simp [setL]
theorem foldL_len (L : List Lab) : ∀ acc : List Lab, (L.foldl insL acc).length = acc.length + L.length := by
  induction L with
  | nil => intro acc; rfl
  | cons x L ih => intro acc; rw [List.foldl_cons, ih, insL_len]; simp; omega
theorem setL_len (L : List Lab) : (setL L).length = L.length := by rw [setL, foldL_len]; simp
theorem insL_mem {out : List Lab} {x y : Lab} (h : y ∈ insL out x) : y = x ∨ y ∈ out := by
  simp only [insL, List.mem_append, List.mem_cons, List.not_mem_nil, or_false] at h
  rcases h with (h | h) | h
  · exact .inr (List.mem_of_mem_take h)
  · exact .inl h
  · exact .inr (List.mem_of_mem_drop h)
theorem foldL_mem (L : List Lab) : ∀ (acc : List Lab), ∀ y ∈ L.foldl insL acc, y ∈ acc ∨ y ∈ L := by
  induction L with
  | nil => intro acc y hy; exact .inl hy
  | cons x L ih =>
    intro acc y hy
    rcases ih _ y hy with h | h
    · rcases insL_mem h with rfl | h
      · exact .inr List.mem_cons_self
      · exact .inl h
    · exact .inr (List.mem_cons_of_mem _ h)
theorem setL_mem (L : List Lab) : ∀ y ∈ setL L, y ∈ L := fun y hy => by
  rcases foldL_mem L [] y hy with h | h
  · cases h
  · exact h

theorem lvs_take (L : List Lab) (k : Nat) : (lvs L).take k = lvs (L.take k) := by simp [lvs]
theorem lvs_drop (L : List Lab) (k : Nat) : (lvs L).drop k = lvs (L.drop k) := by simp [lvs]
theorem lvs_all (L : List Lab) (f : AV → Bool) (h : ∀ x : Lab, f (lv x) = true) : (lvs L).all f = true := by
  simp only [lvs, List.all_map, List.all_eq_true]
  exact fun x _ => h x
theorem lvs_nil : lvs [] = [] := rfl
theorem lvs_empty (L : List Lab) : (lvs L).isEmpty = L.isEmpty := by simp [lvs]
theorem bel_lv (n : Nat) (x : Lab) : Bel n (lv x) := by
  refine .agg _ fun i hi => ?_
  have : ∀ y ∈ [Sx x.1, Sx x.2], Bel n y := by
    intro y hy
    simp only [List.mem_cons, List.not_mem_nil, or_false] at hy
    rcases hy with rfl | rfl <;> exact .pl _
  exact this _ (List.getElem_mem hi)
theorem bel_lvs (n : Nat) (L : List Lab) : Bel n (.sl 2 (lvs L)) := by
  refine .sl 2 _ fun i hi => ?_
  have : ∀ y ∈ lvs L, Bel n y := by
    intro y hy
    simp only [lvs, List.mem_map] at hy
    obtain ⟨x, _, rfl⟩ := hy
    exact bel_lv n x
  exact this _ (List.getElem_mem hi)
theorem B_pl (n : Nat) (v : Value) : Bel n (.pl v) = True := eq_true (.pl v)
theorem B_any (n : Nat) : Bel n .any = True := eq_true .any
theorem B_nils (n : Nat) : Bel n .nils = True := eq_true .nils
theorem B_tup (n : Nat) : Bel n (.tup []) = True := eq_true (.tup _ fun i hi => absurd hi (Nat.not_lt_zero _))
theorem B_lv (n : Nat) (x : Lab) : Bel n (lv x) = True := eq_true (bel_lv n x)
theorem B_lvs (n : Nat) (L : List Lab) : Bel n (.sl 2 (lvs L)) = True := eq_true (bel_lvs n L)
theorem B_sl1 (n : Nat) (x : Lab) : Bel n (.sl 2 [lv x]) = True := eq_true (bel_lvs n [x])
theorem lvs_mid (A B : List Lab) (x : Lab) : lvs (A ++ [x] ++ B) = lvs A ++ lv x :: lvs B := by simp [lvs]
theorem B_mid (n : Nat) (A B : List Lab) (a b : ByteArray) : Bel n (.sl 2 (lvs A ++ .agg [Sx a, Sx b] :: lvs B)) = True := eq_true (by have := bel_lvs n (A ++ [(a, b)] ++ B); rwa [lvs_mid] at this)
theorem B_cons (n : Nat) (B : List Lab) (a b : ByteArray) : Bel n (.sl 2 (.agg [Sx a, Sx b] :: lvs B)) = True := eq_true (bel_lvs n ((a, b) :: B))
theorem B_rp2 (n : Nat) (a b : ByteArray) : Bel n (.rp [Sx a, Sx b]) = True := eq_true (.rp _ fun i hi => by
  have : ∀ y ∈ [Sx a, Sx b], Bel n y := by
    intro y hy
    simp only [List.mem_cons, List.not_mem_nil, or_false] at hy
    rcases hy with rfl | rfl <;> exact .pl _
  exact this _ (List.getElem_mem hi))
theorem B_sl0 (n k : Nat) : Bel n (.sl k []) = True := eq_true (.sl k [] fun i hi => absurd hi (Nat.not_lt_zero _))
theorem B_osl (n l k : Nat) : Bel n (.osl l k) = (l < n) := by
  apply propext
  constructor
  · intro h; cases h; assumption
  · intro h; exact .osl l k h
theorem B_ptr (n l k : Nat) : Bel n (.ptr l k) = (l < n) := by
  apply propext
  constructor
  · intro h; cases h; assumption
  · intro h; exact .ptr l k h
theorem B_agg2 (n : Nat) (a b : ByteArray) : Bel n (.agg [Sx a, Sx b]) = True := eq_true (bel_lv n (a, b))

section
variable (σ : St)
theorem g0 (x : Ob) (ex : St) : (σ ++ x :: ex)[σ.length]? = some x := by rw [List.getElem?_append_right (by simp)]; simp
theorem s0 (x y : Ob) (ex : St) : (σ ++ x :: ex).set σ.length y = σ ++ y :: ex := by rw [List.set_append_right _ _ (by simp)]; simp

def setV (L : List Lab) : AV := if isSetL (setL L) then .sl 2 (lvs (setL L)) else .nils
theorem makeset_ans (L : List Lab) (hd : drawnL L) (hl : L.length ≤ 100) : Ans Try.prog 62 [.sl 2 (lvs L)] σ (.tup [setV L, Bo (isSetL (setL L))]) σ := by
  refine Ans.of_run' t62 (fun hbel _ => ?_)
  have hbel' : (∀ o ∈ σ, BelO σ.length o) = True := eq_true hbel
  simp -implicitDefEqProofs only [c62, r62, go_sem, List.reduceReplicate, Nat.reduceAdd, Nat.reduceSub, Nat.reduceLT, Nat.reduceLeDiff, Nat.reduceMul, Nat.reduceEqDiff, reduceCtorEq, Int.reduceLE, Int.reduceLT, Int.reduceEq, Int.reduceNe, Int.reduceBEq, Int.reduceBNe, Int.reduceAdd, Int.reduceSub, B_pl, B_any, B_nils, B_tup, B_lv, B_lvs, B_sl1, B_osl, B_ptr, B_agg2, B_sl0, List.take_left, hbel', g0, s0, List.length_append, Nat.le_add_right]
  refine Go.Ab.L.count L.length (fun i => mkE 51 [(0, .sl 2 (lvs L)), (4, .sl 2 (lvs (setL (L.take i)))), (5, I i)]) (fun _ => σ) ?_ ?_ rfl rfl
  · intro i hi Q hQ
    have hx := lvs_get L i hi
    have hol : (setL (L.take i)).length = i := by rw [setL_len]; simp; omega
    rw [List.take_succ_eq_append_getElem hi, setL_snoc] at hQ
    generalize setL (L.take i) = out at hol hQ ⊢
    simp -implicitDefEqProofs only [mkE, List.foldl_cons, List.foldl_nil, go_sem, List.reduceReplicate, Nat.reduceAdd, Nat.reduceSub, Nat.reduceLT, Nat.reduceLeDiff, Nat.reduceMul, Nat.reduceEqDiff, reduceCtorEq, Int.reduceLE, Int.reduceLT, Int.reduceEq, Int.reduceNe, Int.reduceBEq, Int.reduceBNe, Int.reduceAdd, Int.reduceSub, lvs_len, nat_lt hi, dec_lt hi]
    unfold insL at hQ
    generalize hp : pos out L[i] out.length = p at hQ
    refine Go.Ab.L.intro (α := { n : Nat // n ≤ out.length ∧ pos out L[i] n = p }) (fun x => x.1) (fun x => mkE 51 [(0, .sl 2 (lvs L)), (4, .sl 2 (lvs out)), (5, I i), (6, I x.1)]) (fun _ => σ)
      (fun x J hJ => ?_) ⟨out.length, Nat.le_refl _, hp⟩ rfl rfl
    obtain ⟨n, hn, hpn⟩ := x
    simp only at hJ ⊢
    cases n with
    | zero =>
      rw [pos] at hpn
      subst hpn
      have d00 : decide ((0 : Int) < ((0 : Nat) : Int)) = false := by decide
      have h1 : (1 ≤ 2 ^ 32) = True := by simp
      have hp32 : (1 + out.length ≤ 2 ^ 32) = True := by simp; omega
      have q1 : (1 + out.length = out.length + 1) = True := by simp; omega
      rw [lvs_mid] at hQ
      simp -implicitDefEqProofs only [mkE, List.foldl_cons, List.foldl_nil, go_sem, List.reduceReplicate, Nat.reduceAdd, Nat.reduceSub, Nat.reduceLT, Nat.reduceLeDiff, Nat.reduceMul, Nat.reduceEqDiff, reduceCtorEq, Int.reduceLE, Int.reduceLT, Int.reduceEq, Int.reduceNe, Int.reduceBEq, Int.reduceBNe, Int.reduceAdd, Int.reduceSub, q1, d00, lvs_len, nat_lt hi, hx, Int.natCast_zero, Int.le_refl, Int.toNat_zero, List.take_length, List.drop_zero, List.drop_nil, lvs_nil, lvs_take, lvs_drop, lvs_all, lvs_empty, lvs_len, g0, s0, B_pl, B_any, B_nils, B_tup, B_lv, B_lvs, B_sl1, B_osl, B_ptr, B_agg2, B_sl0, hp32, h1, B_cons, B_mid, B_rp2, List.take_left, hbel', List.length_append, List.append_assoc, Nat.le_add_right, wrap_succ (show i ≤ 100000 by omega)]
      exact hQ
    | succ n =>
      have hx2 := lvs_get out n hn
      have hgd : out.getD n noL = out[n] := by rw [List.getD_eq_getElem?_getD, List.getElem?_eq_getElem hn]; rfl
      have d0 : decide ((0 : Int) < ((n + 1 : Nat) : Int)) = true := by simp
      have e1 : IntKind.i64.wrap (((n + 1 : Nat) : Int) - 1) = (n : Int) := by rw [wrapN (by omega) (by omega)]; omega
      rw [pos, hgd] at hpn
      cases hb : Op.bytesLess L[i].1.toList out[n].1.toList
      · rw [hb, if_neg Bool.false_ne_true] at hpn
        subst hpn
        have p1 : (((n + 1 : Nat) : Int) ≤ (out.length : Nat)) = True := by simp; omega
        have p2 : (out.take (n + 1)).isEmpty = false := by
          cases h : out.take (n + 1) with
          | nil =>
            have : (out.take (n + 1)).length = 0 := by rw [h]; rfl
            rw [List.length_take] at this; omega
          | cons _ _ => rfl
        have p3 : (out.take (n + 1)).length = n + 1 := by simp; omega
        have p4 : (out.drop (n + 1)).length = out.length - (n + 1) := by simp
        have p5 : (n + 1 ≤ 2 ^ 32) = True := by simp; omega
        have p6 : (n + 1 + 1 ≤ 2 ^ 32) = True := by simp; omega
        have p7 : (n + 1 + 1 + (out.length - (n + 1)) ≤ 2 ^ 32) = True := by simp; omega
        have q2 : (n + 1 + 1 + (out.length - (n + 1)) = n + 1 + (out.length - (n + 1) + 1)) = True := by simp; omega
        rw [lvs_mid] at hQ
        simp -implicitDefEqProofs only [mkE, List.foldl_cons, List.foldl_nil, go_sem, List.reduceReplicate, Nat.reduceAdd, Nat.reduceSub, Nat.reduceLT, Nat.reduceLeDiff, Nat.reduceMul, Nat.reduceEqDiff, reduceCtorEq, Int.reduceLE, Int.reduceLT, Int.reduceEq, Int.reduceNe, Int.reduceBEq, Int.reduceBNe, Int.reduceAdd, Int.reduceSub, q2, d0, e1, lvs_len, nat_lt hi, nat_lt hn, hx, hx2, hb, Int.natCast_zero, Int.le_refl, Int.toNat_zero, List.take_length, List.drop_zero, List.drop_nil, lvs_nil, lvs_take, lvs_drop, lvs_all, lvs_empty, lvs_len, g0, s0, B_pl, B_any, B_nils, B_tup, B_lv, B_lvs, B_sl1, B_osl, B_ptr, B_agg2, B_sl0, B_cons, B_mid, B_rp2, List.take_left, hbel', List.length_append, List.append_assoc, Nat.le_add_right, wrap_succ (show i ≤ 100000 by omega), p1, p2, p3, p4, p5, p6, p7]
        exact hQ
      · rw [hb, if_pos rfl] at hpn
        have hJ' := hJ ⟨n, by omega, hpn⟩ (Nat.lt_succ_self n)
        simp only at hJ'
        simp -implicitDefEqProofs only [mkE, List.foldl_cons, List.foldl_nil, go_sem, List.reduceReplicate, Nat.reduceAdd, Nat.reduceSub, Nat.reduceLT, Nat.reduceLeDiff, Nat.reduceMul, Nat.reduceEqDiff, reduceCtorEq, Int.reduceLE, Int.reduceLT, Int.reduceEq, Int.reduceNe, Int.reduceBEq, Int.reduceBNe, Int.reduceAdd, Int.reduceSub, d0, e1, lvs_len, nat_lt hi, nat_lt hn, hx, hx2, hb]
        exact hJ'
  · intro Q
    have hlt : ¬ L.length < L.length := Nat.lt_irrefl _
    have hdr : drawnL (setL L) := fun x hx => hd x (setL_mem L x hx)
    rw [List.take_length]
    simp -implicitDefEqProofs only [mkE, List.foldl_cons, List.foldl_nil, go_sem, List.reduceReplicate, Nat.reduceAdd, Nat.reduceSub, Nat.reduceLT, Nat.reduceLeDiff, Nat.reduceMul, Nat.reduceEqDiff, reduceCtorEq, Int.reduceLE, Int.reduceLT, Int.reduceEq, Int.reduceNe, Int.reduceBEq, Int.reduceBNe, Int.reduceAdd, Int.reduceSub, lvs_len, nat_nlt hlt, dec_nlt hlt]
    refine CO.intro (isset_ans σ (setL L) hdr (by rw [setL_len]; omega)) ?_
    unfold setV
    cases hs : isSetL (setL L)
    · simp -implicitDefEqProofs only [go_sem, List.reduceReplicate, Nat.reduceAdd, Nat.reduceSub, Nat.reduceLT, Nat.reduceLeDiff, Nat.reduceMul, Nat.reduceEqDiff, reduceCtorEq, Int.reduceLE, Int.reduceLT, Int.reduceEq, Int.reduceNe, Int.reduceBEq, Int.reduceBNe, Int.reduceAdd, Int.reduceSub]
      exact Fini.ret rfl
    · simp -implicitDefEqProofs only [go_sem, List.reduceReplicate, Nat.reduceAdd, Nat.reduceSub, Nat.reduceLT, Nat.reduceLeDiff, Nat.reduceMul, Nat.reduceEqDiff, reduceCtorEq, Int.reduceLE, Int.reduceLT, Int.reduceEq, Int.reduceNe, Int.reduceBEq, Int.reduceBNe, Int.reduceAdd, Int.reduceSub]
      exact Fini.ret rfl
end
end Go.Proofs.Ytoadgajhkhejiaa
