/- How much a rule weighs; a rule's runs. No condition. -/
import Derived.Test.YtoadgajhkhejiaaMRr
import Derived.Test.YtoadgajhkhejiaaCod2
set_option linter.unusedSimpArgs false
set_option linter.unusedVariables false
namespace Go.Proofs.Ytoadgajhkhejiaa
open Go Go.Ab Go.Cod
set_option maxRecDepth 100000
theorem weighL_le : ∀ (l : List (Nat × Nat)) (n : Nat), weighL l n ≤ 301
  | [], n => by simp only [weighL]; omega
  | (a, b) :: l, n => by
    simp only [weighL]
    split
    · split
      · omega
      · exact weighL_le l _
    · omega
def weighS : List ByteArray → Nat → Nat
  | [], n => min n 301
  | s :: l, n => if n ≤ 300 then if 300 < s.size then 301 else weighS l (n + 1 + s.size) else 301
def weigh2 (r : RuM) : Nat := if weighL (r.src.map matP) 0 ≤ 300 then weighL (r.src.map matP) 0 + weighL (r.tgt.map matP) 0 else weighL (r.src.map matP) 0
def weighR (r : RuM) : Nat := weighS r.eq (weigh2 r)
theorem weigh2_le (r : RuM) : weigh2 r ≤ 700 := by
  have := weighL_le (r.src.map matP) 0
  have := weighL_le (r.tgt.map matP) 0
  unfold weigh2
  split <;> omega
section
variable (σ : St)
theorem weighrule_ans (r : RuM) : Ans Try.prog 30 [ruV r, I 300] σ (I (weighR r : Nat)) σ := by
  have hw2 := weigh2_le r
  obtain ⟨src, tgt, any, lo, hi, eq⟩ := r
  unfold ruV
  simp only
  have h1 := fun σ => weigh_mats_ans σ src
  have h2 := fun σ => weigh_mats_ans σ tgt
  generalize hR : weighR ⟨src, tgt, any, lo, hi, eq⟩ = R
  have hR' : weighS eq (weigh2 ⟨src, tgt, any, lo, hi, eq⟩) = R := hR
  have hx1 := weighL_le (src.map matP) 0
  have hx2 := weighL_le (tgt.map matP) 0
  have w0 : IntKind.i64.wrap (300 + 1) = 301 := by decide
  have w1 : IntKind.i64.wrap 301 = 301 := by decide
  refine Ans.of_run t30 ?_
  simp -implicitDefEqProofs only [c30, r30, go_sem, List.reduceReplicate, Nat.reduceAdd, Nat.reduceSub, Nat.reduceLT, Nat.reduceLeDiff, Nat.reduceMul, Nat.reduceEqDiff, reduceCtorEq, Int.reduceLE, Int.reduceLT, Int.reduceEq, Int.reduceNe, Int.reduceBEq, Int.reduceBNe, Int.reduceAdd, Int.reduceSub]
  refine CO.intro (h1 _) ?_
  unfold weigh2 at hR' hw2
  simp only at hR' hw2
  generalize weighL (src.map matP) 0 = n1 at h1 hx1 hR' hw2 ⊢
  generalize weighL (tgt.map matP) 0 = n2 at h2 hx2 hR' hw2 ⊢
  have hd : decide ((n1 : Int) ≤ 300) = decide (n1 ≤ 300) := int_le n1 300
  have hwd : IntKind.i64.wrap ((n1 : Int) + (n2 : Nat)) = ((n1 + n2 : Nat) : Int) := by rw [wrapN (by omega) (by omega)]; omega
  cases hb : decide (n1 ≤ 300) with
  | true =>
    rw [hb] at hd
    rw [if_pos (of_decide_eq_true hb)] at hR' hw2
    simp -implicitDefEqProofs only [go_sem, List.reduceReplicate, Nat.reduceAdd, Nat.reduceSub, Nat.reduceLT, Nat.reduceLeDiff, Nat.reduceMul, Nat.reduceEqDiff, reduceCtorEq, Int.reduceLE, Int.reduceLT, Int.reduceEq, Int.reduceNe, Int.reduceBEq, Int.reduceBNe, Int.reduceAdd, Int.reduceSub, hd]
    refine CO.intro (h2 _) ?_
    simp -implicitDefEqProofs only [go_sem, List.reduceReplicate, Nat.reduceAdd, Nat.reduceSub, Nat.reduceLT, Nat.reduceLeDiff, Nat.reduceMul, Nat.reduceEqDiff, reduceCtorEq, Int.reduceLE, Int.reduceLT, Int.reduceEq, Int.reduceNe, Int.reduceBEq, Int.reduceBNe, Int.reduceAdd, Int.reduceSub, hwd]
    generalize n1 + n2 = n0 at hR' hw2 ⊢
    refine Go.Ab.L.intro (α := { x : Nat × Nat // x.1 ≤ eq.length ∧ weighS (eq.drop x.1) x.2 = R ∧ x.2 ≤ 1000 ∧ x.1 ≤ x.2 }) (fun x => eq.length - x.1.1)
      (fun x => mkE 55 [(1, I 300), (2, .rp [.sl 3 (mvs3 src), .sl 3 (mvs3 tgt), Bo any, Fl lo, Fl hi, .sl 1 (txs eq)]), (5, I x.1.2), (6, I x.1.1)])
      (fun _ => σ) (fun x J hJ => ?_) ⟨(0, n0), Nat.zero_le _, hR', by simp only; omega, Nat.zero_le _⟩ rfl rfl
    obtain ⟨⟨i, n⟩, q1, q2, q3, q4⟩ := x
    simp only at q1 q2 q3 q4 hJ ⊢
    have d2 : decide ((n : Int) ≤ 300) = decide (n ≤ 300) := int_le n 300
    by_cases hi : i < eq.length
    · have hget := txs_get eq i hi
      rw [List.drop_eq_getElem_cons hi, weighS] at q2
      have hJ' := fun m h1 h2 h3 => hJ ⟨(i + 1, m), hi, h1, h2, h3⟩ (by simp only; omega)
      simp only at hJ'
      clear hJ
      generalize eq[i] = y at q2 hget hJ'
      by_cases hn : n ≤ 300
      · rw [if_pos hn] at q2
        have e2 : decide (n ≤ 300) = true := by simpa using hn
        rw [e2] at d2
        have d3 : decide ((300 : Int) < y.size) = decide (300 < y.size) := decN 300 _
        by_cases ha : 300 < y.size
        · rw [if_pos ha] at q2
          rw [decide_eq_true ha] at d3
          simp -implicitDefEqProofs only [mkE, List.foldl_cons, List.foldl_nil, go_sem, List.reduceReplicate, Nat.reduceAdd, Nat.reduceSub, Nat.reduceLT, Nat.reduceLeDiff, Nat.reduceMul, Nat.reduceEqDiff, reduceCtorEq, Int.reduceLE, Int.reduceLT, Int.reduceEq, Int.reduceNe, Int.reduceBEq, Int.reduceBNe, Int.reduceAdd, Int.reduceSub, txs_len, nat_lt hi, dec_lt hi, d2, d3, hget, w0, w1]
          subst q2
          exact Fini.ret rfl
        · rw [if_neg ha] at q2
          rw [decide_eq_false ha] at d3
          have a1 : IntKind.i64.wrap ((n : Int) + 1) = ((n + 1 : Nat) : Int) := wrap_nat (by omega)
          have a2 : IntKind.i64.wrap (((n + 1 : Nat) : Int) + (y.size : Nat)) = ((n + 1 + y.size : Nat) : Int) := by rw [wrapN (by omega) (by omega)]; omega
          have a4 : IntKind.i64.wrap ((i : Int) + 1) = ((i + 1 : Nat) : Int) := wrap_nat (by omega)
          have hJ2 := hJ' _ q2 (by omega) (by omega)
          simp -implicitDefEqProofs only [mkE, List.foldl_cons, List.foldl_nil, go_sem, List.reduceReplicate, Nat.reduceAdd, Nat.reduceSub, Nat.reduceLT, Nat.reduceLeDiff, Nat.reduceMul, Nat.reduceEqDiff, reduceCtorEq, Int.reduceLE, Int.reduceLT, Int.reduceEq, Int.reduceNe, Int.reduceBEq, Int.reduceBNe, Int.reduceAdd, Int.reduceSub, txs_len, nat_lt hi, dec_lt hi, d2, d3, hget, a1, a2, a4]
          exact hJ2
      · rw [if_neg hn] at q2
        rw [decide_eq_false hn] at d2
        simp -implicitDefEqProofs only [mkE, List.foldl_cons, List.foldl_nil, go_sem, List.reduceReplicate, Nat.reduceAdd, Nat.reduceSub, Nat.reduceLT, Nat.reduceLeDiff, Nat.reduceMul, Nat.reduceEqDiff, reduceCtorEq, Int.reduceLE, Int.reduceLT, Int.reduceEq, Int.reduceNe, Int.reduceBEq, Int.reduceBNe, Int.reduceAdd, Int.reduceSub, txs_len, nat_lt hi, dec_lt hi, d2, w0, w1]
        refine Fini.ret' rfl (int_congr ?_)
        split <;> omega
    · rw [List.drop_eq_nil_iff.2 (by omega), weighS] at q2
      simp -implicitDefEqProofs only [mkE, List.foldl_cons, List.foldl_nil, go_sem, List.reduceReplicate, Nat.reduceAdd, Nat.reduceSub, Nat.reduceLT, Nat.reduceLeDiff, Nat.reduceMul, Nat.reduceEqDiff, reduceCtorEq, Int.reduceLE, Int.reduceLT, Int.reduceEq, Int.reduceNe, Int.reduceBEq, Int.reduceBNe, Int.reduceAdd, Int.reduceSub, txs_len, nat_nlt hi, dec_nlt hi, w0, w1]
      refine Fini.ret' rfl (int_congr ?_)
      split <;> omega
  | false =>
    rw [hb] at hd
    rw [if_neg (of_decide_eq_false hb)] at hR' hw2
    simp -implicitDefEqProofs only [go_sem, List.reduceReplicate, Nat.reduceAdd, Nat.reduceSub, Nat.reduceLT, Nat.reduceLeDiff, Nat.reduceMul, Nat.reduceEqDiff, reduceCtorEq, Int.reduceLE, Int.reduceLT, Int.reduceEq, Int.reduceNe, Int.reduceBEq, Int.reduceBNe, Int.reduceAdd, Int.reduceSub, hd]
    generalize n1 = n0 at hR' hw2 ⊢
    refine Go.Ab.L.intro (α := { x : Nat × Nat // x.1 ≤ eq.length ∧ weighS (eq.drop x.1) x.2 = R ∧ x.2 ≤ 1000 ∧ x.1 ≤ x.2 }) (fun x => eq.length - x.1.1)
      (fun x => mkE 55 [(1, I 300), (2, .rp [.sl 3 (mvs3 src), .sl 3 (mvs3 tgt), Bo any, Fl lo, Fl hi, .sl 1 (txs eq)]), (5, I x.1.2), (6, I x.1.1)])
      (fun _ => σ) (fun x J hJ => ?_) ⟨(0, n0), Nat.zero_le _, hR', by simp only; omega, Nat.zero_le _⟩ rfl rfl
    obtain ⟨⟨i, n⟩, q1, q2, q3, q4⟩ := x
    simp only at q1 q2 q3 q4 hJ ⊢
    have d2 : decide ((n : Int) ≤ 300) = decide (n ≤ 300) := int_le n 300
    by_cases hi : i < eq.length
    · have hget := txs_get eq i hi
      rw [List.drop_eq_getElem_cons hi, weighS] at q2
      have hJ' := fun m h1 h2 h3 => hJ ⟨(i + 1, m), hi, h1, h2, h3⟩ (by simp only; omega)
      simp only at hJ'
      clear hJ
      generalize eq[i] = y at q2 hget hJ'
      by_cases hn : n ≤ 300
      · rw [if_pos hn] at q2
        have e2 : decide (n ≤ 300) = true := by simpa using hn
        rw [e2] at d2
        have d3 : decide ((300 : Int) < y.size) = decide (300 < y.size) := decN 300 _
        by_cases ha : 300 < y.size
        · rw [if_pos ha] at q2
          rw [decide_eq_true ha] at d3
          simp -implicitDefEqProofs only [mkE, List.foldl_cons, List.foldl_nil, go_sem, List.reduceReplicate, Nat.reduceAdd, Nat.reduceSub, Nat.reduceLT, Nat.reduceLeDiff, Nat.reduceMul, Nat.reduceEqDiff, reduceCtorEq, Int.reduceLE, Int.reduceLT, Int.reduceEq, Int.reduceNe, Int.reduceBEq, Int.reduceBNe, Int.reduceAdd, Int.reduceSub, txs_len, nat_lt hi, dec_lt hi, d2, d3, hget, w0, w1]
          subst q2
          exact Fini.ret rfl
        · rw [if_neg ha] at q2
          rw [decide_eq_false ha] at d3
          have a1 : IntKind.i64.wrap ((n : Int) + 1) = ((n + 1 : Nat) : Int) := wrap_nat (by omega)
          have a2 : IntKind.i64.wrap (((n + 1 : Nat) : Int) + (y.size : Nat)) = ((n + 1 + y.size : Nat) : Int) := by rw [wrapN (by omega) (by omega)]; omega
          have a4 : IntKind.i64.wrap ((i : Int) + 1) = ((i + 1 : Nat) : Int) := wrap_nat (by omega)
          have hJ2 := hJ' _ q2 (by omega) (by omega)
          simp -implicitDefEqProofs only [mkE, List.foldl_cons, List.foldl_nil, go_sem, List.reduceReplicate, Nat.reduceAdd, Nat.reduceSub, Nat.reduceLT, Nat.reduceLeDiff, Nat.reduceMul, Nat.reduceEqDiff, reduceCtorEq, Int.reduceLE, Int.reduceLT, Int.reduceEq, Int.reduceNe, Int.reduceBEq, Int.reduceBNe, Int.reduceAdd, Int.reduceSub, txs_len, nat_lt hi, dec_lt hi, d2, d3, hget, a1, a2, a4]
          exact hJ2
      · rw [if_neg hn] at q2
        rw [decide_eq_false hn] at d2
        simp -implicitDefEqProofs only [mkE, List.foldl_cons, List.foldl_nil, go_sem, List.reduceReplicate, Nat.reduceAdd, Nat.reduceSub, Nat.reduceLT, Nat.reduceLeDiff, Nat.reduceMul, Nat.reduceEqDiff, reduceCtorEq, Int.reduceLE, Int.reduceLT, Int.reduceEq, Int.reduceNe, Int.reduceBEq, Int.reduceBNe, Int.reduceAdd, Int.reduceSub, txs_len, nat_lt hi, dec_lt hi, d2, w0, w1]
        refine Fini.ret' rfl (int_congr ?_)
        split <;> omega
    · rw [List.drop_eq_nil_iff.2 (by omega), weighS] at q2
      simp -implicitDefEqProofs only [mkE, List.foldl_cons, List.foldl_nil, go_sem, List.reduceReplicate, Nat.reduceAdd, Nat.reduceSub, Nat.reduceLT, Nat.reduceLeDiff, Nat.reduceMul, Nat.reduceEqDiff, reduceCtorEq, Int.reduceLE, Int.reduceLT, Int.reduceEq, Int.reduceNe, Int.reduceBEq, Int.reduceBNe, Int.reduceAdd, Int.reduceSub, txs_len, nat_nlt hi, dec_nlt hi, w0, w1]
      refine Fini.ret' rfl (int_congr ?_)
      split <;> omega
theorem rr_a : Ans Try.prog 31 [] σ (Bo true) σ := rr_ok.frame (bel_all rfl) σ
end
end Go.Proofs.Ytoadgajhkhejiaa
namespace Go.Proofs.Ytoadgajhkhejiaa
open Go Go.Ab Go.Cod
set_option maxRecDepth 100000
def drawnRu (d : RuD) : RuM := ⟨mustL true (matsGo d.ds []), mustL true (matsGo d.es []), (drawnBand d.sel d.lo d.hi).1, (drawnBand d.sel d.lo d.hi).2.1, (drawnBand d.sel d.lo d.hi).2.2, drawnEq d.ns⟩
theorem rule_ans (σ : St) (d : RuD) : Ans Try.prog 32 [duV d] σ (ruV (drawnRu d)) σ :=
  rule_in σ d.ds d.es d.sel d.lo d.hi d.ns (drawnBand d.sel d.lo d.hi) _ _ (fun σ => mats_ans' σ true d.ds d.hd) (fun σ => mats_ans' σ true d.es d.he)
    (fun n => bel_mvs n _) (fun n => bel_mvs n _) (fun σ => band_ans σ _ _ _)
abbrev daV (ns : List Int) (v : Nat) : AV := .agg [.sl 1 (ns.map I), Fl v]
def dmutes (r : RuM) (ns : List Int) (x : Nat) (ms : List Int) (y : Nat) : Bool := ruMutes r (drawnLabs ns) x (drawnLabs ms) y
theorem dmutes_ans (σ : St) (r : RuM) (ns : List Int) (x : Nat) (ms : List Int) (y : Nat) : Ans Try.prog 34 [ruV r, alV 0 (drawnLabs ns) x, alV 0 (drawnLabs ms) y] σ (Bo (dmutes r ns x ms y)) σ :=
  mutes_ans σ r 0 _ x 0 _ y (by have := (drawnLabs_ok ns).1; omega) (drawnLabs_get ns) (by have := (drawnLabs_ok ms).1; omega) (drawnLabs_get ms)
theorem dmutes_self (r : RuM) (ns : List Int) (x : Nat) : dmutes r ns x ns x = false := by
  unfold dmutes ruMutes
  cases ruTgt r (drawnLabs ns) <;> cases ruSrc r (drawnLabs ns) x <;> rfl
theorem dmutes_two (r : RuM) (ns : List Int) (x : Nat) (ms : List Int) (y : Nat) (ks : List Int) (z : Nat) (h : dmutes r ns x ms y = true) : dmutes r ms y ks z = false := by
  unfold dmutes ruMutes at *
  revert h
  cases ruTgt r (drawnLabs ms) <;> cases ruTgt r (drawnLabs ks) <;> cases ruSrc r (drawnLabs ms) y <;> simp
end Go.Proofs.Ytoadgajhkhejiaa
