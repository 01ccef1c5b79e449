/- The document's Ends and Takes, walked. No condition. -/
import Derived.Test.YtoadgajhkhejiaaDc6
import Derived.Test.YtoadgajhkhejiaaPRTree
import Derived.Test.YtoadgajhkhejiaaPDoc5
import Derived.Test.YtoadgajhkhejiaaPBnd
import Derived.Test.YtoadgajhkhejiaaDc2
set_option linter.unusedSimpArgs false
set_option linter.unusedVariables false
namespace Go.Proofs.Ytoadgajhkhejiaa
open Go Go.Ab Rex
set_option maxRecDepth 100000

theorem ks_len (l : List Rex) : l.length ≤ nodesL l := by
  induction l with
  | nil => exact Nat.zero_le _
  | cons x xs ih => rw [nodesL, nodes_eq, List.length_cons]; omega
theorem kid_nodes {l : List Rex} {k : Rex} (h : k ∈ l) : k.nodes ≤ nodesL l := by
  induction l with
  | nil => cases h
  | cons x xs ih =>
    rw [nodesL]
    rcases List.mem_cons.1 h with rfl | h
    · omega
    · have := ih h; omega

theorem after_all (w : ByteArray) (hw : w.size ≤ 100000) : ∀ (N : Nat) (x : Rex), SizeOf.sizeOf x < N → x.is = true → x.nodes ≤ 1000 → After w x
  | 0, x, h, _, _ => absurd h (Nat.not_lt_zero _)
  | N + 1, x, hN, his, hn => by
    rw [nodes_eq] at hn
    have hl := ks_len x.ks
    have hk : Kids w x := ⟨fun k hk => after_all w hw N k (by have := lt_of_mem hk; omega) (is_kid his hk) (by have := kid_nodes hk; omega),
      fun k hk S hS => (daft_leads w _ k (Nat.lt_succ_self _) (is_kid his hk) S hS).1⟩
    rcases is_ops his with h1 | h1 | h1 | h1 | h1 | h1
    · exact after_one w hw x h1
    · exact after_seq w hw x h1 hk (by omega)
    · exact after_alt w hw x h1 hk (by omega)
    · obtain ⟨k, hks⟩ := is_one_kid his (.inl h1)
      exact after_star w hw x k h1 hks hk
    · obtain ⟨k, hks⟩ := is_one_kid his (.inr (.inl h1))
      exact after_plus w hw x k h1 hks hk
    · obtain ⟨k, hks⟩ := is_one_kid his (.inr (.inr h1))
      exact after_maybe w hw x k h1 hks hk

def endsL (D : List Bool) (i : Nat) : List Nat := (List.range i).filter fun j => D.getD j false
theorem endsL_succ (D : List Bool) (i : Nat) : endsL D (i + 1) = if D.getD i false then endsL D i ++ [i] else endsL D i := by
  unfold endsL
  rw [List.range_succ, List.filter_append, List.filter_cons]
  split <;> simp
theorem endsL_len (D : List Bool) (i : Nat) : (endsL D i).length ≤ i := by
  have := List.length_filter_le (fun j => D.getD j false) (List.range i)
  simpa [endsL] using this
abbrev nv (l : List Nat) : AV := .sl 1 (l.map fun n : Nat => I (n : Int))

theorem ends_ans (σ : St) (w : ByteArray) (hw : w.size ≤ 100000) (x : Rex) (his : x.is = true) (hn : x.nodes ≤ 1000) :
    Ans Try.prog 99 [x.av, Sx w, I 0] σ (nv (endsL (daft w x (oneB w)) (w.size + 1))) σ := by
  have hS : (oneB w).length = w.size + 1 := by simp [oneB]
  have hr := fun σ => after_all w hw _ x (Nat.lt_succ_self _) his hn σ (oneB w) hS
  have hD := (daft_leads w _ x (Nat.lt_succ_self _) his (oneB w) hS).1
  have hi := fun σ => ris_ans σ x hn
  rw [his] at hi
  generalize daft w x (oneB w) = D at hr hD ⊢
  simp only [av_eq] at hr hi ⊢
  refine Ans.of_run' t99 (fun hbel _ => ?_)
  have q0 : IntKind.i64.wrap ((w.size : Int) + 1) = ((w.size + 1 : Nat) : Int) := wrap_nat (by omega)
  have q1 : ((0 : Int) ≤ (w.size + 1 : Nat)) = True := by simp; omega
  have q2 : (((w.size + 1 : Nat) : Int) ≤ 4294967296) = True := by simp; omega
  have q3 : ((w.size : Int) < 0) = False := by simp
  have q4 : decide ((w.size : Int) < 0) = false := by simp
  have hrl2 : (w.size = (List.replicate w.size (AV.pl (Value.bool false))).length) = True := by simp
  have e0 : (oneB w).map Bo = Bo true :: List.replicate w.size (Bo false) := by simp [oneB]
  have q5 : ((0 : Int) < (w.size + 1 : Nat)) = True := by first | (simp; done) | (simp; omega)
  simp -implicitDefEqProofs only [c99, r99, go_sem, List.reduceReplicate, Nat.reduceAdd, Nat.reduceSub, Nat.reduceLT, Nat.reduceLeDiff, Nat.reduceMul, Nat.reduceEqDiff, reduceCtorEq, Int.reduceLE, Int.reduceLT, Int.reduceEq, Int.reduceNe, Int.reduceBEq, Int.reduceBNe, Int.reduceAdd, Int.reduceSub]
  refine CO.intro (hi _) ?_
  simp only [bv, e0] at hr
  simp -implicitDefEqProofs only [go_sem, List.reduceReplicate, Nat.reduceAdd, Nat.reduceSub, Nat.reduceLT, Nat.reduceLeDiff, Nat.reduceMul, Nat.reduceEqDiff, reduceCtorEq, Int.reduceLE, Int.reduceLT, Int.reduceEq, Int.reduceNe, Int.reduceBEq, Int.reduceBNe, Int.reduceAdd, Int.reduceSub, q0, q1, q2, q3, q4, q5, Int.le_refl, Int.toNat_natCast, rep_cells, rep_take, hrl2, g0, s0, List.length_map, List.length_replicate, Int.toNat_zero]
  refine CO.intro (hr _) ?_
  simp -implicitDefEqProofs only [go_sem, List.reduceReplicate, Nat.reduceAdd, Nat.reduceSub, Nat.reduceLT, Nat.reduceLeDiff, Nat.reduceMul, Nat.reduceEqDiff, reduceCtorEq, Int.reduceLE, Int.reduceLT, Int.reduceEq, Int.reduceNe, Int.reduceBEq, Int.reduceBNe, Int.reduceAdd, Int.reduceSub, List.append_assoc, List.length_append]
  refine Go.Ab.L.count (w.size + 1) (fun i => mkE 50 [(1, Sx w), (8, bv D), (9, .osl (σ.length + 1) (endsL D i).length), (10, I i)]) (fun i => σ ++ [.dead, .row 1 ((endsL D i).map fun n : Nat => I (n : Int))]) ?_ ?_ rfl rfl
  · intro i hi J hJ
    have h2 : (D.map Bo)[i]? = some (Bo (D.getD i false)) := by simp [show i < D.length by omega]
    have hd : decide ((i : Int) ≤ w.size) = true := by simp; omega
    have hlt2 : ((i : Int) < D.length) = True := by simp; omega
    have hin := wrap_nat (n := i) (by omega)
    have hel := endsL_len D i
    rw [endsL_succ] at hJ
    have p1 : (1 ≤ 2 ^ 32) = True := by simp
    cases hb : D.getD i false with
    | true =>
      rw [hb, if_pos rfl, List.map_append, List.length_append] at hJ
      generalize endsL D i = en at hel hJ ⊢
      have p2 : (en.length + 1 ≤ 2 ^ 32) = True := by simp; omega
      simp -implicitDefEqProofs only [mkE, List.foldl_cons, List.foldl_nil, go_sem, List.reduceReplicate, Nat.reduceAdd, Nat.reduceSub, Nat.reduceLT, Nat.reduceLeDiff, Nat.reduceMul, Nat.reduceEqDiff, reduceCtorEq, Int.reduceLE, Int.reduceLT, Int.reduceEq, Int.reduceNe, Int.reduceBEq, Int.reduceBNe, Int.reduceAdd, Int.reduceSub, List.length_map, hd, hlt2, h2, hb, hin, g0, s0, g1, s1, p1, p2]
      exact hJ
    | false =>
      rw [hb, if_neg Bool.false_ne_true] at hJ
      simp -implicitDefEqProofs only [mkE, List.foldl_cons, List.foldl_nil, go_sem, List.reduceReplicate, Nat.reduceAdd, Nat.reduceSub, Nat.reduceLT, Nat.reduceLeDiff, Nat.reduceMul, Nat.reduceEqDiff, reduceCtorEq, Int.reduceLE, Int.reduceLT, Int.reduceEq, Int.reduceNe, Int.reduceBEq, Int.reduceBNe, Int.reduceAdd, Int.reduceSub, List.length_map, hd, hlt2, h2, hb, hin, g0, s0, g1, s1]
      exact hJ
  · intro J
    have hd : decide (((w.size + 1 : Nat) : Int) ≤ w.size) = false := by simp; omega
    generalize endsL D (w.size + 1) = en
    simp -implicitDefEqProofs only [mkE, List.foldl_cons, List.foldl_nil, go_sem, List.reduceReplicate, Nat.reduceAdd, Nat.reduceSub, Nat.reduceLT, Nat.reduceLeDiff, Nat.reduceMul, Nat.reduceEqDiff, reduceCtorEq, Int.reduceLE, Int.reduceLT, Int.reduceEq, Int.reduceNe, Int.reduceBEq, Int.reduceBNe, Int.reduceAdd, Int.reduceSub, List.length_map, hd, g0, s0, g1, s1]
    exact Fini.trim2 (σ' := σ) rfl rfl (Nat.le_refl _) (.sl 1 _ fun i hi => by simp; exact .pl _) hbel
end Go.Proofs.Ytoadgajhkhejiaa

set_option linter.unusedSimpArgs false
set_option linter.unusedVariables false
namespace Go.Proofs.Ytoadgajhkhejiaa
open Go Go.Ab Rex
set_option maxRecDepth 100000

theorem takes_ans (σ : St) (w : ByteArray) (hw : w.size ≤ 100000) (x : Rex) (his : x.is = true) (hn : x.nodes ≤ 1000) :
    Ans Try.prog 58 [x.av, Sx w] σ (Bo (dtakes w x)) σ := by
  have he := fun σ => ends_ans σ w hw x his hn
  rw [dtakes, his, Bool.true_and]
  generalize daft w x (oneB w) = D at he ⊢
  have hlen := endsL_len D (w.size + 1)
  have hsucc := endsL_succ D w.size
  have hmem : ∀ a ∈ endsL D w.size, a < w.size := fun a ha => List.mem_range.1 (List.mem_filter.1 ha).1
  simp only [av_eq] at he ⊢
  refine Ans.of_run t58 ?_
  simp -implicitDefEqProofs only [c58, r58, go_sem, List.reduceReplicate, Nat.reduceAdd, Nat.reduceSub, Nat.reduceLT, Nat.reduceLeDiff, Nat.reduceMul, Nat.reduceEqDiff, reduceCtorEq, Int.reduceLE, Int.reduceLT, Int.reduceEq, Int.reduceNe, Int.reduceBEq, Int.reduceBNe, Int.reduceAdd, Int.reduceSub]
  refine CO.intro (he _) ?_
  cases hb : D.getD w.size false with
  | true =>
    rw [hb, if_pos rfl] at hsucc
    have hl : (endsL D (w.size + 1)).length = (endsL D w.size).length + 1 := by rw [hsucc]; simp
    have hg : (List.map (fun n : Nat => I (n : Int)) (endsL D (w.size + 1)))[(endsL D w.size).length]? = some (I (w.size : Int)) := by rw [hsucc]; simp
    have d0 : decide ((0 : Int) < ((endsL D w.size).length + 1 : Nat)) = true := by simp
    have d1 : IntKind.i64.wrap ((((endsL D w.size).length + 1 : Nat) : Int) - 1) = ((endsL D w.size).length : Int) := by rw [wrapN (by omega) (by omega)]; omega
    have d2 : (((endsL D w.size).length : Int) < ((endsL D w.size).length + 1 : Nat)) = True := by simp; omega
    simp -implicitDefEqProofs only [go_sem, List.reduceReplicate, Nat.reduceAdd, Nat.reduceSub, Nat.reduceLT, Nat.reduceLeDiff, Nat.reduceMul, Nat.reduceEqDiff, reduceCtorEq, Int.reduceLE, Int.reduceLT, Int.reduceEq, Int.reduceNe, Int.reduceBEq, Int.reduceBNe, Int.reduceAdd, Int.reduceSub, List.length_map, hl, d0, d1, d2, hg, Int.toNat_natCast, beq_self_eq_true]
    exact Fini.ret rfl
  | false =>
    rw [hb, if_neg Bool.false_ne_true] at hsucc
    rw [hsucc] at hlen ⊢
    generalize endsL D w.size = en at hlen hmem ⊢
    rcases List.eq_nil_or_concat en with rfl | ⟨en', a, rfl⟩
    · have d0 : decide ((0 : Int) < (0 : Nat)) = false := by decide
      simp -implicitDefEqProofs only [go_sem, List.reduceReplicate, Nat.reduceAdd, Nat.reduceSub, Nat.reduceLT, Nat.reduceLeDiff, Nat.reduceMul, Nat.reduceEqDiff, reduceCtorEq, Int.reduceLE, Int.reduceLT, Int.reduceEq, Int.reduceNe, Int.reduceBEq, Int.reduceBNe, Int.reduceAdd, Int.reduceSub, List.length_map, List.map_nil, List.length_nil, d0]
      exact Fini.ret rfl
    · rw [List.concat_eq_append] at hlen hmem ⊢
      have ha := hmem a (by simp)
      rw [List.length_append, List.length_singleton] at hlen
      have hl : (en' ++ [a]).length = en'.length + 1 := by simp
      have hg : (List.map (fun n : Nat => I (n : Int)) (en' ++ [a]))[en'.length]? = some (I (a : Int)) := by simp
      have d0 : decide ((0 : Int) < (en'.length + 1 : Nat)) = true := by simp
      have d1 : IntKind.i64.wrap (((en'.length + 1 : Nat) : Int) - 1) = (en'.length : Int) := by rw [wrapN (by omega) (by omega)]; omega
      have d2 : ((en'.length : Int) < (en'.length + 1 : Nat)) = True := by simp; omega
      have d3 : ((a : Int) == (w.size : Int)) = false := by rw [beq_cast]; simp; omega
      simp -implicitDefEqProofs only [go_sem, List.reduceReplicate, Nat.reduceAdd, Nat.reduceSub, Nat.reduceLT, Nat.reduceLeDiff, Nat.reduceMul, Nat.reduceEqDiff, reduceCtorEq, Int.reduceLE, Int.reduceLT, Int.reduceEq, Int.reduceNe, Int.reduceBEq, Int.reduceBNe, Int.reduceAdd, Int.reduceSub, List.length_map, hl, d0, d1, d2, d3, hg, Int.toNat_natCast]
      exact Fini.ret rfl

theorem likeD_ans (σ : St) (k : Int) (nm v : ByteArray) : Ans Try.prog 55 [mat k nm v] σ (Bo (likeB k)) σ := by
  refine Ans.of_run t55 ?_
  simp -implicitDefEqProofs only [c55, r55, go_sem, List.reduceReplicate, Nat.reduceAdd, Nat.reduceSub, Nat.reduceLT, Nat.reduceLeDiff, Nat.reduceMul, Nat.reduceEqDiff, reduceCtorEq, Int.reduceLE, Int.reduceLT, Int.reduceEq, Int.reduceNe, Int.reduceBEq, Int.reduceBNe, Int.reduceAdd, Int.reduceSub]
  unfold likeB
  cases h : k == 3
  · simp -implicitDefEqProofs only [go_sem, List.reduceReplicate, Nat.reduceAdd, Nat.reduceSub, Nat.reduceLT, Nat.reduceLeDiff, Nat.reduceMul, Nat.reduceEqDiff, reduceCtorEq, Int.reduceLE, Int.reduceLT, Int.reduceEq, Int.reduceNe, Int.reduceBEq, Int.reduceBNe, Int.reduceAdd, Int.reduceSub]
    exact Fini.ret rfl
  · simp -implicitDefEqProofs only [go_sem, List.reduceReplicate, Nat.reduceAdd, Nat.reduceSub, Nat.reduceLT, Nat.reduceLeDiff, Nat.reduceMul, Nat.reduceEqDiff, reduceCtorEq, Int.reduceLE, Int.reduceLT, Int.reduceEq, Int.reduceNe, Int.reduceBEq, Int.reduceBNe, Int.reduceAdd, Int.reduceSub]
    exact Fini.ret rfl

theorem getlab_ans (σ : St) (L : List Lab) (nm : ByteArray) (hl : L.length ≤ 1000) : Ans Try.prog 35 [.sl 2 (lvs L), Sx nm] σ (Sx (getL L nm)) σ := by
  refine Ans.of_run t35 ?_
  simp -implicitDefEqProofs only [c35, r35, go_sem, List.reduceReplicate, Nat.reduceAdd, Nat.reduceSub, Nat.reduceLT, Nat.reduceLeDiff, Nat.reduceMul, Nat.reduceEqDiff, reduceCtorEq, Int.reduceLE, Int.reduceLT, Int.reduceEq, Int.reduceNe, Int.reduceBEq, Int.reduceBNe, Int.reduceAdd, Int.reduceSub]
  generalize hres : getL L nm = res
  refine Go.Ab.L.intro (α := { i : Nat // i ≤ L.length ∧ getL (L.drop i) nm = res }) (fun x => L.length - x.1) (fun x => mkE 24 [(0, .sl 2 (lvs L)), (1, Sx nm), (5, I x.1)]) (fun _ => σ)
    (fun x J hJ => ?_) ⟨0, Nat.zero_le _, hres⟩ rfl rfl
  obtain ⟨i, h1, h2⟩ := x
  simp only at hJ ⊢
  by_cases hi : i < L.length
  · have hx := lvs_get L i hi
    rw [List.drop_eq_getElem_cons hi, getL] at h2
    generalize L[i] = y at hx h2
    obtain ⟨a, b⟩ := y
    simp only [lv] at hx
    have hin := wrap_nat (n := i) (by omega)
    cases hb : (a.toList == nm.toList) with
    | true =>
      rw [hb, if_pos rfl] at h2
      subst h2
      simp -implicitDefEqProofs only [mkE, List.foldl_cons, List.foldl_nil, go_sem, List.reduceReplicate, Nat.reduceAdd, Nat.reduceSub, Nat.reduceLT, Nat.reduceLeDiff, Nat.reduceMul, Nat.reduceEqDiff, reduceCtorEq, Int.reduceLE, Int.reduceLT, Int.reduceEq, Int.reduceNe, Int.reduceBEq, Int.reduceBNe, Int.reduceAdd, Int.reduceSub, lvs_len, nat_lt hi, dec_lt hi, hx, hb]
      exact Fini.ret rfl
    | false =>
      rw [hb, if_neg Bool.false_ne_true] at h2
      simp -implicitDefEqProofs only [mkE, List.foldl_cons, List.foldl_nil, go_sem, List.reduceReplicate, Nat.reduceAdd, Nat.reduceSub, Nat.reduceLT, Nat.reduceLeDiff, Nat.reduceMul, Nat.reduceEqDiff, reduceCtorEq, Int.reduceLE, Int.reduceLT, Int.reduceEq, Int.reduceNe, Int.reduceBEq, Int.reduceBNe, Int.reduceAdd, Int.reduceSub, lvs_len, nat_lt hi, dec_lt hi, hx, hb, hin]
      exact hJ ⟨i + 1, hi, h2⟩ (by simp only; omega)
  · rw [List.drop_eq_nil_iff.2 (by omega), getL] at h2
    subst h2
    simp -implicitDefEqProofs only [mkE, List.foldl_cons, List.foldl_nil, go_sem, List.reduceReplicate, Nat.reduceAdd, Nat.reduceSub, Nat.reduceLT, Nat.reduceLeDiff, Nat.reduceMul, Nat.reduceEqDiff, reduceCtorEq, Int.reduceLE, Int.reduceLT, Int.reduceEq, Int.reduceNe, Int.reduceBEq, Int.reduceBNe, Int.reduceAdd, Int.reduceSub, lvs_len, nat_nlt hi, dec_nlt hi]
    exact Fini.ret rfl
end Go.Proofs.Ytoadgajhkhejiaa

set_option linter.unusedSimpArgs false
set_option linter.unusedVariables false
namespace Go.Proofs.Ytoadgajhkhejiaa
open Go Go.Ab Rex
set_option maxRecDepth 100000

def okN (s : ByteArray) (i : Nat) : Bool := letterB (byteAt s i) || (!(i == 0) && digitB (byteAt s i))
def nameD (s : ByteArray) : Bool := (List.range s.size).all (okN s) && (decide (1 ≤ s.size) && decide (s.size ≤ 12))
theorem nameD_eq (s : ByteArray) : nameD s = nameB s := by
  unfold nameD nameB
  by_cases h1 : 1 ≤ s.size
  · by_cases h2 : s.size ≤ 12
    · rw [decide_eq_true h1, decide_eq_true h2]
      simp only [Bool.and_self, Bool.and_true, Bool.true_and]
      rw [Bool.eq_iff_iff]
      simp only [Bool.and_eq_true, List.all_eq_true, List.mem_range, okN, Bool.or_eq_true, Bool.not_eq_true', beq_eq_false_iff_ne]
      constructor
      · intro h
        refine ⟨?_, fun i hi => ?_⟩
        · rcases h 0 (by omega) with h | h
          · exact h
          · exact absurd rfl h.1
        · rcases h i hi with h | h
          · exact .inl h
          · exact .inr h.2
      · rintro ⟨h0, h⟩ i hi
        by_cases hz : i = 0
        · subst hz; exact .inl h0
        · rcases h i hi with h | h
          · exact .inl h
          · exact .inr ⟨hz, h⟩
    · rw [decide_eq_false h2]; simp
  · rw [decide_eq_false h1]; simp

set_option maxHeartbeats 16000000 in
theorem dname_ans (σ : St) (s : ByteArray) (hs : s.size ≤ 100000) : Ans Try.prog 54 [Sx s] σ (Bo (nameB s)) σ := by
  rw [← nameD_eq]
  refine Ans.of_run t54 ?_
  simp -implicitDefEqProofs only [c54, r54, go_sem, List.reduceReplicate, Nat.reduceAdd, Nat.reduceSub, Nat.reduceLT, Nat.reduceLeDiff, Nat.reduceMul, Nat.reduceEqDiff, reduceCtorEq, Int.reduceLE, Int.reduceLT, Int.reduceEq, Int.reduceNe, Int.reduceBEq, Int.reduceBNe, Int.reduceAdd, Int.reduceSub]
  refine Go.Ab.L.scan s.size (okN s) (fun i => mkE 55 [(0, Sx s), (3, I i)]) (fun _ => σ) ?_ ?_ rfl rfl
  · intro i hi hp J hJ
    have hlt : ((i : Int) < s.size) = True := by simp; omega
    have hdi : decide ((i : Int) < s.size) = true := by simp; omega
    have hin := wrap_nat (n := i) (by omega)
    have hF : okN s i = false → nameD s = false := fun h => by
      rw [nameD, List.all_eq_false.2 ⟨i, List.mem_range.2 hi, by simp [h]⟩]; rfl
    have e1 : decide ((97 : Int) ≤ (byteAt s i : Nat)) = decide (97 ≤ byteAt s i) := int_le 97 _
    have e2 : decide (((byteAt s i : Nat) : Int) ≤ 122) = decide (byteAt s i ≤ 122) := int_le _ 122
    have e3 : decide ((65 : Int) ≤ (byteAt s i : Nat)) = decide (65 ≤ byteAt s i) := int_le 65 _
    have e4 : decide (((byteAt s i : Nat) : Int) ≤ 90) = decide (byteAt s i ≤ 90) := int_le _ 90
    have e5 : (((byteAt s i : Nat) : Int) == 95) = (byteAt s i == 95) := beq_cast _ 95
    have e6 : decide (((byteAt s i : Nat) : Int) < 48) = decide (byteAt s i < 48) := decN _ 48
    have e7 : decide ((57 : Int) < (byteAt s i : Nat)) = decide (57 < byteAt s i) := decN 57 _
    have e8 : ((i : Int) == 0) = (i == 0) := beq_cast i 0
    have hd : digitB (byteAt s i) = (!decide (byteAt s i < 48) && !decide (57 < byteAt s i)) := by
      unfold digitB
      rw [Bool.eq_iff_iff]; simp
    have hL : letterB (byteAt s i) = (decide (97 ≤ byteAt s i) && decide (byteAt s i ≤ 122) || decide (65 ≤ byteAt s i) && decide (byteAt s i ≤ 90) || byteAt s i == 95) := rfl
    have hO : okN s i = (letterB (byteAt s i) || (!(i == 0) && digitB (byteAt s i))) := rfl
    rw [hO, hL, hd] at hF hJ
    generalize decide (97 ≤ byteAt s i) = b1 at *
    generalize decide (byteAt s i ≤ 122) = b2 at *
    generalize decide (65 ≤ byteAt s i) = b3 at *
    generalize decide (byteAt s i ≤ 90) = b4 at *
    generalize (byteAt s i == 95) = b5 at *
    generalize decide (byteAt s i < 48) = b6 at *
    generalize decide (57 < byteAt s i) = b7 at *
    generalize (i == 0) = b8 at *
    clear hL hd hO
    simp -implicitDefEqProofs only [mkE, List.foldl_cons, List.foldl_nil, go_sem, List.reduceReplicate, Nat.reduceAdd, Nat.reduceSub, Nat.reduceLT, Nat.reduceLeDiff, Nat.reduceMul, Nat.reduceEqDiff, reduceCtorEq, Int.reduceLE, Int.reduceLT, Int.reduceEq, Int.reduceNe, Int.reduceBEq, Int.reduceBNe, Int.reduceAdd, Int.reduceSub, hlt, hdi, byteAt_def]
    cases b1 <;> cases b2 <;> cases b3 <;> cases b4 <;> cases b5
    all_goals simp -implicitDefEqProofs only [go_sem, List.reduceReplicate, Nat.reduceAdd, Nat.reduceSub, Nat.reduceLT, Nat.reduceLeDiff, Nat.reduceMul, Nat.reduceEqDiff, reduceCtorEq, Int.reduceLE, Int.reduceLT, Int.reduceEq, Int.reduceNe, Int.reduceBEq, Int.reduceBNe, Int.reduceAdd, Int.reduceSub, e1, e2, e3, e4, e5, e6, e7, e8, hin]
    all_goals first
      | exact hJ rfl
      | (cases b8 <;> cases b6 <;> cases b7 <;> simp -implicitDefEqProofs only [go_sem, List.reduceReplicate, Nat.reduceAdd, Nat.reduceSub, Nat.reduceLT, Nat.reduceLeDiff, Nat.reduceMul, Nat.reduceEqDiff, reduceCtorEq, Int.reduceLE, Int.reduceLT, Int.reduceEq, Int.reduceNe, Int.reduceBEq, Int.reduceBNe, Int.reduceAdd, Int.reduceSub, e6, e7, e8, hin] <;> first
          | exact hJ rfl
          | (refine Fini.ret' rfl (bo_congr ?_); exact (hF rfl).symm))
  · intro hp J
    have hdi : decide ((s.size : Int) < s.size) = false := by simp
    have d1 : decide ((1 : Int) ≤ s.size) = decide (1 ≤ s.size) := int_le 1 _
    have d2 : decide ((s.size : Int) ≤ 12) = decide (s.size ≤ 12) := int_le _ 12
    have hA : (List.range s.size).all (okN s) = true := List.all_eq_true.2 fun i hi => hp i (List.mem_range.1 hi)
    rw [nameD, hA, Bool.true_and]
    cases h1 : decide (1 ≤ s.size) with
    | true =>
      rw [h1] at d1
      simp -implicitDefEqProofs only [mkE, List.foldl_cons, List.foldl_nil, go_sem, List.reduceReplicate, Nat.reduceAdd, Nat.reduceSub, Nat.reduceLT, Nat.reduceLeDiff, Nat.reduceMul, Nat.reduceEqDiff, reduceCtorEq, Int.reduceLE, Int.reduceLT, Int.reduceEq, Int.reduceNe, Int.reduceBEq, Int.reduceBNe, Int.reduceAdd, Int.reduceSub, hdi, d1, d2]
      exact Fini.ret rfl
    | false =>
      rw [h1] at d1
      simp -implicitDefEqProofs only [mkE, List.foldl_cons, List.foldl_nil, go_sem, List.reduceReplicate, Nat.reduceAdd, Nat.reduceSub, Nat.reduceLT, Nat.reduceLeDiff, Nat.reduceMul, Nat.reduceEqDiff, reduceCtorEq, Int.reduceLE, Int.reduceLT, Int.reduceEq, Int.reduceNe, Int.reduceBEq, Int.reduceBNe, Int.reduceAdd, Int.reduceSub, hdi, d1, d2]
      exact Fini.ret rfl
end Go.Proofs.Ytoadgajhkhejiaa

set_option linter.unusedSimpArgs false
set_option linter.unusedVariables false
namespace Go.Proofs.Ytoadgajhkhejiaa
open Go Go.Ab Rex
set_option maxRecDepth 100000

theorem dis_any (σ : St) (k : Int) (nm v : ByteArray) (hs : nm.size ≤ 100000) : Ans Try.prog 17 [mat k nm v] σ (Bo (isB k nm v)) σ := by
  refine Ans.of_run t17 ?_
  unfold isB
  simp -implicitDefEqProofs only [c17, r17, go_sem, List.reduceReplicate, Nat.reduceAdd, Nat.reduceSub, Nat.reduceLT, Nat.reduceLeDiff, Nat.reduceMul, Nat.reduceEqDiff, reduceCtorEq, Int.reduceLE, Int.reduceLT, Int.reduceEq, Int.reduceNe, Int.reduceBEq, Int.reduceBNe, Int.reduceAdd, Int.reduceSub]
  refine CO.intro (dname_ans σ nm hs) ?_
  cases hn : nameB nm with
  | false =>
    simp -implicitDefEqProofs only [go_sem, List.reduceReplicate, Nat.reduceAdd, Nat.reduceSub, Nat.reduceLT, Nat.reduceLeDiff, Nat.reduceMul, Nat.reduceEqDiff, reduceCtorEq, Int.reduceLE, Int.reduceLT, Int.reduceEq, Int.reduceNe, Int.reduceBEq, Int.reduceBNe, Int.reduceAdd, Int.reduceSub]
    exact Fini.ret rfl
  | true =>
  simp -implicitDefEqProofs only [go_sem, List.reduceReplicate, Nat.reduceAdd, Nat.reduceSub, Nat.reduceLT, Nat.reduceLeDiff, Nat.reduceMul, Nat.reduceEqDiff, reduceCtorEq, Int.reduceLE, Int.reduceLT, Int.reduceEq, Int.reduceNe, Int.reduceBEq, Int.reduceBNe, Int.reduceAdd, Int.reduceSub]
  refine CO.intro (likeD_ans σ k nm v) ?_
  cases hk : likeB k with
  | true =>
    simp -implicitDefEqProofs only [go_sem, List.reduceReplicate, Nat.reduceAdd, Nat.reduceSub, Nat.reduceLT, Nat.reduceLeDiff, Nat.reduceMul, Nat.reduceEqDiff, reduceCtorEq, Int.reduceLE, Int.reduceLT, Int.reduceEq, Int.reduceNe, Int.reduceBEq, Int.reduceBNe, Int.reduceAdd, Int.reduceSub]
    refine CO.intro (dparse_ans v σ) ?_
    rw [dparse_eq]
    have hrv := Rex.rv_eq (pparse v).1
    generalize (pparse v).1 = x at hrv ⊢
    generalize (pparse v).2 = b
    rw [hrv]
    rcases Rex.rvK_cases x.ks with e | ⟨l, e⟩ <;> rw [e]
    all_goals (simp -implicitDefEqProofs only [go_sem, List.reduceReplicate, Nat.reduceAdd, Nat.reduceSub, Nat.reduceLT, Nat.reduceLeDiff, Nat.reduceMul, Nat.reduceEqDiff, reduceCtorEq, Int.reduceLE, Int.reduceLT, Int.reduceEq, Int.reduceNe, Int.reduceBEq, Int.reduceBNe, Int.reduceAdd, Int.reduceSub]; exact Fini.ret rfl)
  | false =>
    have d : decide ((v.size : Int) ≤ 24) = decide (v.size ≤ 24) := int_le v.size 24
    simp -implicitDefEqProofs only [go_sem, List.reduceReplicate, Nat.reduceAdd, Nat.reduceSub, Nat.reduceLT, Nat.reduceLeDiff, Nat.reduceMul, Nat.reduceEqDiff, reduceCtorEq, Int.reduceLE, Int.reduceLT, Int.reduceEq, Int.reduceNe, Int.reduceBEq, Int.reduceBNe, Int.reduceAdd, Int.reduceSub]
    cases h1 : k == 1 with
    | true =>
      simp -implicitDefEqProofs only [go_sem, List.reduceReplicate, Nat.reduceAdd, Nat.reduceSub, Nat.reduceLT, Nat.reduceLeDiff, Nat.reduceMul, Nat.reduceEqDiff, reduceCtorEq, Int.reduceLE, Int.reduceLT, Int.reduceEq, Int.reduceNe, Int.reduceBEq, Int.reduceBNe, Int.reduceAdd, Int.reduceSub, d]
      exact Fini.ret rfl
    | false =>
      simp -implicitDefEqProofs only [go_sem, List.reduceReplicate, Nat.reduceAdd, Nat.reduceSub, Nat.reduceLT, Nat.reduceLeDiff, Nat.reduceMul, Nat.reduceEqDiff, reduceCtorEq, Int.reduceLE, Int.reduceLT, Int.reduceEq, Int.reduceNe, Int.reduceBEq, Int.reduceBNe, Int.reduceAdd, Int.reduceSub]
      cases h2 : k == 2 with
      | true =>
        simp -implicitDefEqProofs only [go_sem, List.reduceReplicate, Nat.reduceAdd, Nat.reduceSub, Nat.reduceLT, Nat.reduceLeDiff, Nat.reduceMul, Nat.reduceEqDiff, reduceCtorEq, Int.reduceLE, Int.reduceLT, Int.reduceEq, Int.reduceNe, Int.reduceBEq, Int.reduceBNe, Int.reduceAdd, Int.reduceSub, d]
        exact Fini.ret rfl
      | false =>
        simp -implicitDefEqProofs only [go_sem, List.reduceReplicate, Nat.reduceAdd, Nat.reduceSub, Nat.reduceLT, Nat.reduceLeDiff, Nat.reduceMul, Nat.reduceEqDiff, reduceCtorEq, Int.reduceLE, Int.reduceLT, Int.reduceEq, Int.reduceNe, Int.reduceBEq, Int.reduceBNe, Int.reduceAdd, Int.reduceSub]
        exact Fini.ret rfl

/-- The document's own: too large. -/
def dlargeB (k : Int) (nm v : ByteArray) : Bool := isB k nm v && (likeB k && decide ((40 : Int) < full (pparse v).1))
theorem dlarge_any (σ : St) (k : Int) (nm v : ByteArray) (hs : nm.size ≤ 100000) : Ans Try.prog 19 [mat k nm v] σ (Bo (dlargeB k nm v)) σ := by
  refine Ans.of_run t19 ?_
  unfold dlargeB
  simp -implicitDefEqProofs only [c19, r19, go_sem, List.reduceReplicate, Nat.reduceAdd, Nat.reduceSub, Nat.reduceLT, Nat.reduceLeDiff, Nat.reduceMul, Nat.reduceEqDiff, reduceCtorEq, Int.reduceLE, Int.reduceLT, Int.reduceEq, Int.reduceNe, Int.reduceBEq, Int.reduceBNe, Int.reduceAdd, Int.reduceSub]
  refine CO.intro (dis_any σ k nm v hs) ?_
  cases hi : isB k nm v with
  | false =>
    simp -implicitDefEqProofs only [go_sem, List.reduceReplicate, Nat.reduceAdd, Nat.reduceSub, Nat.reduceLT, Nat.reduceLeDiff, Nat.reduceMul, Nat.reduceEqDiff, reduceCtorEq, Int.reduceLE, Int.reduceLT, Int.reduceEq, Int.reduceNe, Int.reduceBEq, Int.reduceBNe, Int.reduceAdd, Int.reduceSub]
    exact Fini.ret rfl
  | true =>
  simp -implicitDefEqProofs only [go_sem, List.reduceReplicate, Nat.reduceAdd, Nat.reduceSub, Nat.reduceLT, Nat.reduceLeDiff, Nat.reduceMul, Nat.reduceEqDiff, reduceCtorEq, Int.reduceLE, Int.reduceLT, Int.reduceEq, Int.reduceNe, Int.reduceBEq, Int.reduceBNe, Int.reduceAdd, Int.reduceSub]
  refine CO.intro (likeD_ans σ k nm v) ?_
  cases hk : likeB k with
  | false =>
    simp -implicitDefEqProofs only [go_sem, List.reduceReplicate, Nat.reduceAdd, Nat.reduceSub, Nat.reduceLT, Nat.reduceLeDiff, Nat.reduceMul, Nat.reduceEqDiff, reduceCtorEq, Int.reduceLE, Int.reduceLT, Int.reduceEq, Int.reduceNe, Int.reduceBEq, Int.reduceBNe, Int.reduceAdd, Int.reduceSub]
    exact Fini.ret rfl
  | true =>
  simp -implicitDefEqProofs only [go_sem, List.reduceReplicate, Nat.reduceAdd, Nat.reduceSub, Nat.reduceLT, Nat.reduceLeDiff, Nat.reduceMul, Nat.reduceEqDiff, reduceCtorEq, Int.reduceLE, Int.reduceLT, Int.reduceEq, Int.reduceNe, Int.reduceBEq, Int.reduceBNe, Int.reduceAdd, Int.reduceSub]
  refine CO.intro (dparse_ans v σ) ?_
  rw [dparse_eq]
  have hrv := Rex.rv_eq (pparse v).1
  have hno := pparse_nodes v
  generalize (pparse v).1 = x at hrv hno ⊢
  generalize (pparse v).2 = b
  have hz : Ans Try.prog 57 [x.rv] σ (I (full x)) σ := Ans.sub (rSize_ans σ x (by omega))
  rw [hrv] at hz ⊢
  rcases Rex.rvK_cases x.ks with e | ⟨l, e⟩ <;> rw [e] at hz ⊢
  all_goals
    simp -implicitDefEqProofs only [go_sem, List.reduceReplicate, Nat.reduceAdd, Nat.reduceSub, Nat.reduceLT, Nat.reduceLeDiff, Nat.reduceMul, Nat.reduceEqDiff, reduceCtorEq, Int.reduceLE, Int.reduceLT, Int.reduceEq, Int.reduceNe, Int.reduceBEq, Int.reduceBNe, Int.reduceAdd, Int.reduceSub]
    refine CO.intro hz ?_
    simp -implicitDefEqProofs only [go_sem, List.reduceReplicate, Nat.reduceAdd, Nat.reduceSub, Nat.reduceLT, Nat.reduceLeDiff, Nat.reduceMul, Nat.reduceEqDiff, reduceCtorEq, Int.reduceLE, Int.reduceLT, Int.reduceEq, Int.reduceNe, Int.reduceBEq, Int.reduceBNe, Int.reduceAdd, Int.reduceSub]
    exact Fini.ret rfl
end Go.Proofs.Ytoadgajhkhejiaa

set_option linter.unusedSimpArgs false
set_option linter.unusedVariables false
namespace Go.Proofs.Ytoadgajhkhejiaa
open Go Go.Ab Rex
set_option maxRecDepth 100000

def IsF (F : PF) : Prop := ∀ a b, (F a b).1.is = true
theorem is_ofSet (S : List Int) : (ofSet S).is = true := by rw [is_eq]; rfl
theorem is_kids {op : Int} {K : List Rex} (h : ∀ k ∈ K, k.is = true) (ho : op = 2 ∨ (op = 3 ∧ K ≠ []) ∨ ((op = 4 ∨ op = 5 ∨ op = 6) ∧ ∃ k, K = [k])) : (Rex.mk op 0 0 0 0 K).is = true := by
  have hn : (K.any fun k => !k.is) = false := by
    rw [List.any_eq_false]; intro k hk; simp [h k hk]
  rw [is_eq]
  simp only [Rex.op, Rex.ks, plain, Rex.a, Rex.b, Rex.c, Rex.d, hn]
  rcases ho with rfl | ⟨rfl, hne⟩ | ⟨rfl | rfl | rfl, k, rfl⟩
  · rfl
  · have : ((K.length : Int) == 0) = false := by
      cases K with
      | nil => exact absurd rfl hne
      | cons _ _ => simp; omega
    simp [this]
  · rfl
  · rfl
  · rfl
variable (s : ByteArray)
theorem isF_atom {F : PF} {d : Nat} (h : IsF F) : IsF (patom s F d) := fun a b => by
  unfold patom
  simp only
  repeat' split
  all_goals first
    | exact is_ofSet _
    | exact h _ _
theorem isF_factor {F : PF} (h : IsF F) : IsF (pfactor s F) := fun a b => by
  have hx : ∀ k ∈ [(F a b).1], k.is = true := fun k hk => by
    simp only [List.mem_cons, List.not_mem_nil, or_false] at hk
    rw [hk]; exact h a b
  unfold pfactor
  simp only
  repeat' split
  · exact is_kids hx (.inr (.inr ⟨.inl rfl, _, rfl⟩))
  · exact is_kids hx (.inr (.inr ⟨.inr (.inl rfl), _, rfl⟩))
  · exact is_kids hx (.inr (.inr ⟨.inr (.inr rfl), _, rfl⟩))
  · exact h a b
theorem is_one2 {K : List Rex} (h : ∀ k ∈ K, k.is = true) : (one 2 K).is = true := by
  unfold one
  split
  · exact h _ (by simp)
  · exact is_kids h (.inl rfl)
theorem is_one3 {K : List Rex} (h : ∀ k ∈ K, k.is = true) (hne : K ≠ []) : (one 3 K).is = true := by
  unfold one
  split
  · exact h _ (by simp)
  · exact is_kids h (.inr (.inl ⟨rfl, hne⟩))
theorem isF_wayL {F : PF} (h : IsF F) : ∀ (n : Nat) (K : List Rex) (a : Nat) (b : Bool), (∀ k ∈ K, k.is = true) → ∀ k ∈ (pwayL s F n K a b).1, k.is = true
  | 0, K, a, b, hK => hK
  | n + 1, K, a, b, hK => by
    rw [pwayL]; split
    · refine isF_wayL h n _ _ _ fun k hk => ?_
      rcases List.mem_append.1 hk with hk | hk
      · exact hK k hk
      · simp only [List.mem_cons, List.not_mem_nil, or_false] at hk
        rw [hk]; exact h _ _
    · exact hK
theorem isF_way {F : PF} (h : IsF F) : IsF (pway s F) := fun a b => is_one2 (isF_wayL s h _ _ _ _ (fun k hk => absurd hk (by simp)))
theorem isF_waysL {F : PF} (h : IsF F) : ∀ (n : Nat) (K : List Rex) (a : Nat) (b : Bool), (∀ k ∈ K, k.is = true) → K ≠ [] → (∀ k ∈ (pwaysL s F n K a b).1, k.is = true) ∧ (pwaysL s F n K a b).1 ≠ []
  | 0, K, a, b, hK, hne => ⟨hK, hne⟩
  | n + 1, K, a, b, hK, hne => by
    rw [pwaysL]; split
    · refine isF_waysL h n _ _ _ (fun k hk => ?_) (by simp)
      rcases List.mem_append.1 hk with hk | hk
      · exact hK k hk
      · simp only [List.mem_cons, List.not_mem_nil, or_false] at hk
        rw [hk]; exact h _ _
    · exact ⟨hK, hne⟩
theorem isF_ways {F : PF} (h : IsF F) : IsF (pways s F) := fun a b => by
  have := isF_waysL s h (s.size + 1) [(F a b).1] (F a b).2.1 (F a b).2.2 (fun k hk => by
    simp only [List.mem_cons, List.not_mem_nil, or_false] at hk
    rw [hk]; exact h _ _) (by simp)
  exact is_one3 this.1 this.2
theorem isF_lvl {W : PF} (h : IsF W) (d : Nat) : IsF (lvl s W d) := isF_ways s (isF_way s (isF_factor s (isF_atom s h)))
theorem isF_PW : ∀ k, IsF (PW s k)
  | 0 => isF_lvl s (fun _ _ => is_ofSet _) 8
  | k + 1 => isF_lvl s (isF_PW k) _
theorem pparse_is (h : (pparse s).2 = true) : (pparse s).1.is = true := by
  unfold pparse at h ⊢
  simp only at h ⊢
  split at h
  · cases h
  · rename_i hc
    rw [if_neg hc]
    exact isF_PW s 8 _ _
end Go.Proofs.Ytoadgajhkhejiaa

set_option linter.unusedSimpArgs false
set_option linter.unusedVariables false
namespace Go.Proofs.Ytoadgajhkhejiaa
open Go Go.Ab Rex
set_option maxRecDepth 100000

theorem Ans.sub' {P : Program} {f : FuncId} {x : Rex} {l : List AV} {σ σ' : St} {r : AV} (h : Ans P f (x.av :: l) σ r σ') : Ans P f (x.rv :: l) σ r σ' := by
  intro M ν w vs hg hr
  refine h M ν w vs hg ⟨by simpa using hr.1, fun j hj hj' => ?_⟩
  cases j with
  | zero => exact sub_rv x _ (hr.2 0 (by simp) hj')
  | succ j => exact hr.2 (j + 1) (by simpa using hj) hj'

theorem large_eq (k : Int) (nm v : ByteArray) : dlargeB k nm v = largeB k nm v := by
  unfold dlargeB largeB
  cases hi : isB k nm v with
  | false => simp
  | true =>
  cases hk : likeB k with
  | false => simp
  | true =>
    have hp : (pparse v).2 = true := by
      unfold isB at hi
      rw [hk, if_pos rfl] at hi
      simp only [Bool.and_eq_true] at hi
      exact hi.2
    have his := pparse_is v hp
    unfold progO full Rex.made
    rw [hp, his]
    simp only [Bool.not_true, Bool.false_eq_true, if_false, if_true, Bool.true_and, true_and, Bool.and_self]
    by_cases h : (pparse v).1.size + 1 ≤ 40
    · rw [if_pos h, decide_eq_false (by omega)]; rfl
    · rw [if_neg h, decide_eq_true (by omega)]; rfl

theorem dholds_any (σ : St) (k : Int) (nm v : ByteArray) (L : List Lab) (hl : L.length ≤ 1000) (hs : nm.size ≤ 100000) (hw : (getL L nm).size ≤ 100000) :
    Ans Try.prog 20 [mat k nm v, .sl 2 (lvs L)] σ (Bo (holdsB k nm v (getL L nm))) σ := by
  have hla : largeB k nm v = (likeB k && isB k nm v && (progO v).isNone) := rfl
  refine Ans.of_run t20 ?_
  unfold holdsB
  simp -implicitDefEqProofs only [c20, r20, go_sem, List.reduceReplicate, Nat.reduceAdd, Nat.reduceSub, Nat.reduceLT, Nat.reduceLeDiff, Nat.reduceMul, Nat.reduceEqDiff, reduceCtorEq, Int.reduceLE, Int.reduceLT, Int.reduceEq, Int.reduceNe, Int.reduceBEq, Int.reduceBNe, Int.reduceAdd, Int.reduceSub]
  refine CO.intro (dis_any σ k nm v hs) ?_
  cases hi : isB k nm v with
  | false =>
    simp -implicitDefEqProofs only [go_sem, List.reduceReplicate, Nat.reduceAdd, Nat.reduceSub, Nat.reduceLT, Nat.reduceLeDiff, Nat.reduceMul, Nat.reduceEqDiff, reduceCtorEq, Int.reduceLE, Int.reduceLT, Int.reduceEq, Int.reduceNe, Int.reduceBEq, Int.reduceBNe, Int.reduceAdd, Int.reduceSub]
    exact Fini.ret rfl
  | true =>
  simp -implicitDefEqProofs only [go_sem, List.reduceReplicate, Nat.reduceAdd, Nat.reduceSub, Nat.reduceLT, Nat.reduceLeDiff, Nat.reduceMul, Nat.reduceEqDiff, reduceCtorEq, Int.reduceLE, Int.reduceLT, Int.reduceEq, Int.reduceNe, Int.reduceBEq, Int.reduceBNe, Int.reduceAdd, Int.reduceSub]
  refine CO.intro (dlarge_any σ k nm v hs) ?_
  rw [large_eq, hla, hi]
  have hk12 : likeB k = true → (k == 1) = false ∧ (k == 2) = false := fun h => by
    unfold likeB at h
    simp only [Bool.or_eq_true, beq_iff_eq] at h
    constructor <;> simp <;> omega
  have hnl : likeB k = false → (k == 1) = false → (k == 2) = true := fun h h1 => by
    unfold isB at hi
    rw [h] at hi
    simp [h1] at hi
    simpa using hi.2.1
  cases hk : likeB k with
  | false =>
    simp -implicitDefEqProofs only [go_sem, List.reduceReplicate, Nat.reduceAdd, Nat.reduceSub, Nat.reduceLT, Nat.reduceLeDiff, Nat.reduceMul, Nat.reduceEqDiff, reduceCtorEq, Int.reduceLE, Int.reduceLT, Int.reduceEq, Int.reduceNe, Int.reduceBEq, Int.reduceBNe, Int.reduceAdd, Int.reduceSub, Bool.false_and]
    refine CO.intro (getlab_ans σ L nm hl) ?_
    cases h1 : k == 1 with
    | true =>
      simp -implicitDefEqProofs only [go_sem, List.reduceReplicate, Nat.reduceAdd, Nat.reduceSub, Nat.reduceLT, Nat.reduceLeDiff, Nat.reduceMul, Nat.reduceEqDiff, reduceCtorEq, Int.reduceLE, Int.reduceLT, Int.reduceEq, Int.reduceNe, Int.reduceBEq, Int.reduceBNe, Int.reduceAdd, Int.reduceSub, h1]
      exact Fini.ret rfl
    | false =>
      have h2 := hnl hk h1
      simp -implicitDefEqProofs only [go_sem, List.reduceReplicate, Nat.reduceAdd, Nat.reduceSub, Nat.reduceLT, Nat.reduceLeDiff, Nat.reduceMul, Nat.reduceEqDiff, reduceCtorEq, Int.reduceLE, Int.reduceLT, Int.reduceEq, Int.reduceNe, Int.reduceBEq, Int.reduceBNe, Int.reduceAdd, Int.reduceSub, h1, h2]
      exact Fini.ret rfl
  | true =>
    obtain ⟨h1, h2⟩ := hk12 hk
    have hp : (pparse v).2 = true := by
      unfold isB at hi
      rw [hk, if_pos rfl] at hi
      simp only [Bool.and_eq_true] at hi
      exact hi.2
    cases hpr : progO v with
    | none =>
      simp -implicitDefEqProofs only [go_sem, List.reduceReplicate, Nat.reduceAdd, Nat.reduceSub, Nat.reduceLT, Nat.reduceLeDiff, Nat.reduceMul, Nat.reduceEqDiff, reduceCtorEq, Int.reduceLE, Int.reduceLT, Int.reduceEq, Int.reduceNe, Int.reduceBEq, Int.reduceBNe, Int.reduceAdd, Int.reduceSub, Option.isNone, Bool.true_and, h1, h2]
      exact Fini.ret rfl
    | some l =>
      have hmd : (pparse v).1.made = some l := by unfold progO at hpr; rwa [hp, if_pos rfl] at hpr
      have hdt := dtakes_made (getL L nm) hmd
      simp -implicitDefEqProofs only [go_sem, List.reduceReplicate, Nat.reduceAdd, Nat.reduceSub, Nat.reduceLT, Nat.reduceLeDiff, Nat.reduceMul, Nat.reduceEqDiff, reduceCtorEq, Int.reduceLE, Int.reduceLT, Int.reduceEq, Int.reduceNe, Int.reduceBEq, Int.reduceBNe, Int.reduceAdd, Int.reduceSub, Option.isNone, Bool.true_and, Bool.and_false, Bool.false_and]
      refine CO.intro (getlab_ans σ L nm hl) ?_
      simp -implicitDefEqProofs only [go_sem, List.reduceReplicate, Nat.reduceAdd, Nat.reduceSub, Nat.reduceLT, Nat.reduceLeDiff, Nat.reduceMul, Nat.reduceEqDiff, reduceCtorEq, Int.reduceLE, Int.reduceLT, Int.reduceEq, Int.reduceNe, Int.reduceBEq, Int.reduceBNe, Int.reduceAdd, Int.reduceSub, h1, h2]
      refine CO.intro (dparse_ans v σ) ?_
      rw [dparse_eq]
      have hta := fun σ => Ans.sub' (takes_ans σ (getL L nm) hw (pparse v).1 (pparse_is v hp) (by have := pparse_nodes v; omega))
      rw [hdt] at hta
      have hrv := Rex.rv_eq (pparse v).1
      generalize (pparse v).1 = x at hrv hta ⊢
      generalize (pparse v).2 = b
      rw [hrv] at hta ⊢
      rcases Rex.rvK_cases x.ks with e | ⟨l, e⟩ <;> rw [e] at hta ⊢
      all_goals
        simp -implicitDefEqProofs only [go_sem, List.reduceReplicate, Nat.reduceAdd, Nat.reduceSub, Nat.reduceLT, Nat.reduceLeDiff, Nat.reduceMul, Nat.reduceEqDiff, reduceCtorEq, Int.reduceLE, Int.reduceLT, Int.reduceEq, Int.reduceNe, Int.reduceBEq, Int.reduceBNe, Int.reduceAdd, Int.reduceSub]
        refine CD.intro (hta _) ?_
        simp -implicitDefEqProofs only [go_sem, List.reduceReplicate, Nat.reduceAdd, Nat.reduceSub, Nat.reduceLT, Nat.reduceLeDiff, Nat.reduceMul, Nat.reduceEqDiff, reduceCtorEq, Int.reduceLE, Int.reduceLT, Int.reduceEq, Int.reduceNe, Int.reduceBEq, Int.reduceBNe, Int.reduceAdd, Int.reduceSub]
        exact Fini.ret rfl
end Go.Proofs.Ytoadgajhkhejiaa

set_option linter.unusedSimpArgs false
set_option linter.unusedVariables false
namespace Go.Proofs.Ytoadgajhkhejiaa
open Go Go.Ab
set_option maxRecDepth 100000

abbrev Mtr := Int × ByteArray × ByteArray
def mv3 (x : Mtr) : AV := mat x.1 x.2.1 x.2.2
def mvs3 (L : List Mtr) : List AV := L.map mv3
def labP (x : Lab) : Nat × Nat := (x.1.size, x.2.size)
def matP (x : Mtr) : Nat × Nat := (x.2.1.size, x.2.2.size)
def weighL : List (Nat × Nat) → Nat → Nat
  | [], n => min n 301
  | (a, b) :: l, n => if n ≤ 300 then if 300 < a ∨ 300 < b then 301 else weighL l (n + 1 + a + b) else 301
theorem weighL_len : ∀ (l : List (Nat × Nat)) (n : Nat), weighL l n ≤ 300 → n + l.length ≤ 300 ∧ ∀ x ∈ l, x.1 ≤ 300 ∧ x.2 ≤ 300
  | [], n, h => by
    simp only [weighL] at h
    refine ⟨by simp; omega, by simp⟩
  | (a, b) :: l, n, h => by
    simp only [weighL] at h
    split at h
    · split at h
      · omega
      · have := weighL_len l _ h
        refine ⟨by simp; omega, fun x hx => ?_⟩
        rcases List.mem_cons.1 hx with rfl | hx
        · simp only; omega
        · exact this.2 x hx
    · omega
theorem weigh_labs_ans (σ : St) (L : List Lab) : Ans Try.prog 47 [.sl 2 (lvs L), I 300] σ (I (weighL (L.map labP) 0 : Nat)) σ := by
  refine Ans.of_run t47 ?_
  have hlen : ((lvs L)).length = L.length := by simp [lvs]
  simp -implicitDefEqProofs only [c47, r47, go_sem, List.reduceReplicate, Nat.reduceAdd, Nat.reduceSub, Nat.reduceLT, Nat.reduceLeDiff, Nat.reduceMul, Nat.reduceEqDiff, reduceCtorEq, Int.reduceLE, Int.reduceLT, Int.reduceEq, Int.reduceNe, Int.reduceBEq, Int.reduceBNe, Int.reduceAdd, Int.reduceSub]
  generalize hres : weighL (L.map labP) 0 = res
  refine Go.Ab.L.intro (α := { x : Nat × Nat // x.1 ≤ L.length ∧ weighL ((L.drop x.1).map labP) x.2 = res ∧ x.2 ≤ 1000 ∧ x.1 ≤ x.2 })
    (fun x => L.length - x.1.1)
    (fun x => mkE 58 [(0, .sl 2 (lvs L)), (1, I 300), (5, I x.1.2), (6, I x.1.1)])
    (fun x => σ)
    (fun x J hJ => ?_) ⟨(0, 0), Nat.zero_le _, hres, by omega, Nat.le_refl _⟩ ?_ rfl
  · obtain ⟨⟨i, n⟩, h1, h2, h3, h4⟩ := x
    simp only at h1 h2 h3 hJ ⊢
    have d2 : decide ((n : Int) ≤ 300) = decide (n ≤ 300) := int_le n 300
    by_cases hi : i < L.length
    · have d1 : decide ((i : Int) < L.length) = true := by simp; omega
      have d1' : ((i : Int) < L.length) = True := by simp; omega
      have hget : ((lvs L))[i]? = some (lv L[i]) := by simp [lvs, hi]
      rw [List.drop_eq_getElem_cons hi, List.map_cons] at h2
      have hJ' := hJ
      generalize L[i] = y at h2 hget
      obtain ⟨nm, v⟩ := y
      simp only [lv] at hget
      simp only [labP] at h2
      rw [weighL] at h2
      by_cases hn : n ≤ 300
      · rw [if_pos hn] at h2
        have e2 : decide (n ≤ 300) = true := by simpa using hn
        rw [e2] at d2
        have d3 : decide ((300 : Int) < nm.size) = decide (300 < nm.size) := decN 300 _
        have d4 : decide ((300 : Int) < v.size) = decide (300 < v.size) := decN 300 _
        have w0 : IntKind.i64.wrap (300 + 1) = 301 := by decide
        by_cases ha : 300 < nm.size
        · rw [if_pos (.inl ha)] at h2
          rw [decide_eq_true ha] at d3
          simp -implicitDefEqProofs only [mkE, List.foldl_cons, List.foldl_nil, go_sem, List.reduceReplicate, Nat.reduceAdd, Nat.reduceSub, Nat.reduceLT, Nat.reduceLeDiff, Nat.reduceMul, Nat.reduceEqDiff, reduceCtorEq, Int.reduceLE, Int.reduceLT, Int.reduceEq, Int.reduceNe, Int.reduceBEq, Int.reduceBNe, Int.reduceAdd, Int.reduceSub, hlen, d1, d1', d2, d3, hget, w0]
          subst h2
          exact Fini.ret rfl
        · rw [decide_eq_false ha] at d3
          by_cases hb : 300 < v.size
          · rw [if_pos (.inr hb)] at h2
            rw [decide_eq_true hb] at d4
            simp -implicitDefEqProofs only [mkE, List.foldl_cons, List.foldl_nil, go_sem, List.reduceReplicate, Nat.reduceAdd, Nat.reduceSub, Nat.reduceLT, Nat.reduceLeDiff, Nat.reduceMul, Nat.reduceEqDiff, reduceCtorEq, Int.reduceLE, Int.reduceLT, Int.reduceEq, Int.reduceNe, Int.reduceBEq, Int.reduceBNe, Int.reduceAdd, Int.reduceSub, hlen, d1, d1', d2, d3, d4, hget, w0]
            subst h2
            exact Fini.ret rfl
          · rw [if_neg (by omega)] at h2
            rw [decide_eq_false hb] at d4
            have a1 : IntKind.i64.wrap ((n : Int) + 1) = ((n + 1 : Nat) : Int) := wrap_nat (by omega)
            have a2 : IntKind.i64.wrap (((n + 1 : Nat) : Int) + (nm.size : Nat)) = ((n + 1 + nm.size : Nat) : Int) := by rw [wrapN (by omega) (by omega)]; omega
            have a3 : IntKind.i64.wrap (((n + 1 + nm.size : Nat) : Int) + (v.size : Nat)) = ((n + 1 + nm.size + v.size : Nat) : Int) := by rw [wrapN (by omega) (by omega)]; omega
            have a4 : IntKind.i64.wrap ((i : Int) + 1) = ((i + 1 : Nat) : Int) := wrap_nat (by omega)
            simp -implicitDefEqProofs only [mkE, List.foldl_cons, List.foldl_nil, go_sem, List.reduceReplicate, Nat.reduceAdd, Nat.reduceSub, Nat.reduceLT, Nat.reduceLeDiff, Nat.reduceMul, Nat.reduceEqDiff, reduceCtorEq, Int.reduceLE, Int.reduceLT, Int.reduceEq, Int.reduceNe, Int.reduceBEq, Int.reduceBNe, Int.reduceAdd, Int.reduceSub, hlen, d1, d1', d2, d3, d4, hget, a1, a2, a3, a4]
            exact hJ' ⟨(i + 1, n + 1 + nm.size + v.size), by omega, h2, by omega, by simp only; omega⟩ (by simp only; omega)
      · rw [if_neg hn] at h2
        rw [decide_eq_false hn] at d2
        have w0 : IntKind.i64.wrap (300 + 1) = 301 := by decide
        simp -implicitDefEqProofs only [mkE, List.foldl_cons, List.foldl_nil, go_sem, List.reduceReplicate, Nat.reduceAdd, Nat.reduceSub, Nat.reduceLT, Nat.reduceLeDiff, Nat.reduceMul, Nat.reduceEqDiff, reduceCtorEq, Int.reduceLE, Int.reduceLT, Int.reduceEq, Int.reduceNe, Int.reduceBEq, Int.reduceBNe, Int.reduceAdd, Int.reduceSub, hlen, d1, d1', d2, hget, w0]
        refine Fini.ret' rfl (int_congr ?_)
        rw [show IntKind.i64.wrap 301 = 301 by decide]
        split <;> omega
    · have d1 : decide ((i : Int) < L.length) = false := by simp; omega
      have d1' : ((i : Int) < L.length) = False := by simp; omega
      have w0 : IntKind.i64.wrap (300 + 1) = 301 := by decide
      simp -implicitDefEqProofs only [mkE, List.foldl_cons, List.foldl_nil, go_sem, List.reduceReplicate, Nat.reduceAdd, Nat.reduceSub, Nat.reduceLT, Nat.reduceLeDiff, Nat.reduceMul, Nat.reduceEqDiff, reduceCtorEq, Int.reduceLE, Int.reduceLT, Int.reduceEq, Int.reduceNe, Int.reduceBEq, Int.reduceBNe, Int.reduceAdd, Int.reduceSub, hlen, d1, d1', w0]
      refine Fini.ret' rfl (int_congr ?_)
      have he : L.drop i = [] := List.drop_eq_nil_iff.2 (by omega)
      rw [he, List.map_nil, weighL] at h2
      rw [show IntKind.i64.wrap 301 = 301 by decide]
      split <;> omega
  · rfl
theorem weigh_mats_ans (σ : St) (L : List Mtr) : Ans Try.prog 46 [.sl 3 (mvs3 L), I 300] σ (I (weighL (L.map matP) 0 : Nat)) σ := by
  refine Ans.of_run t46 ?_
  have hlen : ((mvs3 L)).length = L.length := by simp [mvs3]
  simp -implicitDefEqProofs only [c46, r46, go_sem, List.reduceReplicate, Nat.reduceAdd, Nat.reduceSub, Nat.reduceLT, Nat.reduceLeDiff, Nat.reduceMul, Nat.reduceEqDiff, reduceCtorEq, Int.reduceLE, Int.reduceLT, Int.reduceEq, Int.reduceNe, Int.reduceBEq, Int.reduceBNe, Int.reduceAdd, Int.reduceSub]
  generalize hres : weighL (L.map matP) 0 = res
  refine Go.Ab.L.intro (α := { x : Nat × Nat // x.1 ≤ L.length ∧ weighL ((L.drop x.1).map matP) x.2 = res ∧ x.2 ≤ 1000 ∧ x.1 ≤ x.2 })
    (fun x => L.length - x.1.1)
    (fun x => mkE 58 [(0, .sl 3 (mvs3 L)), (1, I 300), (5, I x.1.2), (6, I x.1.1)])
    (fun x => σ)
    (fun x J hJ => ?_) ⟨(0, 0), Nat.zero_le _, hres, by omega, Nat.le_refl _⟩ ?_ rfl
  · obtain ⟨⟨i, n⟩, h1, h2, h3, h4⟩ := x
    simp only at h1 h2 h3 hJ ⊢
    have d2 : decide ((n : Int) ≤ 300) = decide (n ≤ 300) := int_le n 300
    by_cases hi : i < L.length
    · have d1 : decide ((i : Int) < L.length) = true := by simp; omega
      have d1' : ((i : Int) < L.length) = True := by simp; omega
      have hget : ((mvs3 L))[i]? = some (mv3 L[i]) := by simp [mvs3, hi]
      rw [List.drop_eq_getElem_cons hi, List.map_cons] at h2
      have hJ' := hJ
      generalize L[i] = y at h2 hget
      obtain ⟨k, nm, v⟩ := y
      simp only [mv3] at hget
      simp only [matP] at h2
      rw [weighL] at h2
      by_cases hn : n ≤ 300
      · rw [if_pos hn] at h2
        have e2 : decide (n ≤ 300) = true := by simpa using hn
        rw [e2] at d2
        have d3 : decide ((300 : Int) < nm.size) = decide (300 < nm.size) := decN 300 _
        have d4 : decide ((300 : Int) < v.size) = decide (300 < v.size) := decN 300 _
        have w0 : IntKind.i64.wrap (300 + 1) = 301 := by decide
        by_cases ha : 300 < nm.size
        · rw [if_pos (.inl ha)] at h2
          rw [decide_eq_true ha] at d3
          simp -implicitDefEqProofs only [mkE, List.foldl_cons, List.foldl_nil, go_sem, List.reduceReplicate, Nat.reduceAdd, Nat.reduceSub, Nat.reduceLT, Nat.reduceLeDiff, Nat.reduceMul, Nat.reduceEqDiff, reduceCtorEq, Int.reduceLE, Int.reduceLT, Int.reduceEq, Int.reduceNe, Int.reduceBEq, Int.reduceBNe, Int.reduceAdd, Int.reduceSub, hlen, d1, d1', d2, d3, hget, w0]
          subst h2
          exact Fini.ret rfl
        · rw [decide_eq_false ha] at d3
          by_cases hb : 300 < v.size
          · rw [if_pos (.inr hb)] at h2
            rw [decide_eq_true hb] at d4
            simp -implicitDefEqProofs only [mkE, List.foldl_cons, List.foldl_nil, go_sem, List.reduceReplicate, Nat.reduceAdd, Nat.reduceSub, Nat.reduceLT, Nat.reduceLeDiff, Nat.reduceMul, Nat.reduceEqDiff, reduceCtorEq, Int.reduceLE, Int.reduceLT, Int.reduceEq, Int.reduceNe, Int.reduceBEq, Int.reduceBNe, Int.reduceAdd, Int.reduceSub, hlen, d1, d1', d2, d3, d4, hget, w0]
            subst h2
            exact Fini.ret rfl
          · rw [if_neg (by omega)] at h2
            rw [decide_eq_false hb] at d4
            have a1 : IntKind.i64.wrap ((n : Int) + 1) = ((n + 1 : Nat) : Int) := wrap_nat (by omega)
            have a2 : IntKind.i64.wrap (((n + 1 : Nat) : Int) + (nm.size : Nat)) = ((n + 1 + nm.size : Nat) : Int) := by rw [wrapN (by omega) (by omega)]; omega
            have a3 : IntKind.i64.wrap (((n + 1 + nm.size : Nat) : Int) + (v.size : Nat)) = ((n + 1 + nm.size + v.size : Nat) : Int) := by rw [wrapN (by omega) (by omega)]; omega
            have a4 : IntKind.i64.wrap ((i : Int) + 1) = ((i + 1 : Nat) : Int) := wrap_nat (by omega)
            simp -implicitDefEqProofs only [mkE, List.foldl_cons, List.foldl_nil, go_sem, List.reduceReplicate, Nat.reduceAdd, Nat.reduceSub, Nat.reduceLT, Nat.reduceLeDiff, Nat.reduceMul, Nat.reduceEqDiff, reduceCtorEq, Int.reduceLE, Int.reduceLT, Int.reduceEq, Int.reduceNe, Int.reduceBEq, Int.reduceBNe, Int.reduceAdd, Int.reduceSub, hlen, d1, d1', d2, d3, d4, hget, a1, a2, a3, a4]
            exact hJ' ⟨(i + 1, n + 1 + nm.size + v.size), by omega, h2, by omega, by simp only; omega⟩ (by simp only; omega)
      · rw [if_neg hn] at h2
        rw [decide_eq_false hn] at d2
        have w0 : IntKind.i64.wrap (300 + 1) = 301 := by decide
        simp -implicitDefEqProofs only [mkE, List.foldl_cons, List.foldl_nil, go_sem, List.reduceReplicate, Nat.reduceAdd, Nat.reduceSub, Nat.reduceLT, Nat.reduceLeDiff, Nat.reduceMul, Nat.reduceEqDiff, reduceCtorEq, Int.reduceLE, Int.reduceLT, Int.reduceEq, Int.reduceNe, Int.reduceBEq, Int.reduceBNe, Int.reduceAdd, Int.reduceSub, hlen, d1, d1', d2, hget, w0]
        refine Fini.ret' rfl (int_congr ?_)
        rw [show IntKind.i64.wrap 301 = 301 by decide]
        split <;> omega
    · have d1 : decide ((i : Int) < L.length) = false := by simp; omega
      have d1' : ((i : Int) < L.length) = False := by simp; omega
      have w0 : IntKind.i64.wrap (300 + 1) = 301 := by decide
      simp -implicitDefEqProofs only [mkE, List.foldl_cons, List.foldl_nil, go_sem, List.reduceReplicate, Nat.reduceAdd, Nat.reduceSub, Nat.reduceLT, Nat.reduceLeDiff, Nat.reduceMul, Nat.reduceEqDiff, reduceCtorEq, Int.reduceLE, Int.reduceLT, Int.reduceEq, Int.reduceNe, Int.reduceBEq, Int.reduceBNe, Int.reduceAdd, Int.reduceSub, hlen, d1, d1', w0]
      refine Fini.ret' rfl (int_congr ?_)
      have he : L.drop i = [] := List.drop_eq_nil_iff.2 (by omega)
      rw [he, List.map_nil, weighL] at h2
      rw [show IntKind.i64.wrap 301 = 301 by decide]
      split <;> omega
  · rfl

def smallB (M : List Mtr) (L : List Lab) : Bool := decide (weighL (M.map matP) 0 ≤ 300) && decide (weighL (L.map labP) 0 ≤ 300)
theorem small_ans (σ : St) (M : List Mtr) (L : List Lab) : Ans Try.prog 13 [.sl 3 (mvs3 M), .sl 2 (lvs L)] σ (Bo (smallB M L)) σ := by
  refine Ans.of_run t13 ?_
  unfold smallB
  simp -implicitDefEqProofs only [c13, r13, go_sem, List.reduceReplicate, Nat.reduceAdd, Nat.reduceSub, Nat.reduceLT, Nat.reduceLeDiff, Nat.reduceMul, Nat.reduceEqDiff, reduceCtorEq, Int.reduceLE, Int.reduceLT, Int.reduceEq, Int.reduceNe, Int.reduceBEq, Int.reduceBNe, Int.reduceAdd, Int.reduceSub]
  refine CO.intro (weigh_mats_ans σ M) ?_
  have e1 : decide (((weighL (M.map matP) 0 : Nat) : Int) ≤ 300) = decide (weighL (M.map matP) 0 ≤ 300) := int_le _ 300
  have e2 : decide (((weighL (L.map labP) 0 : Nat) : Int) ≤ 300) = decide (weighL (L.map labP) 0 ≤ 300) := int_le _ 300
  cases h1 : decide (weighL (M.map matP) 0 ≤ 300) with
  | false =>
    rw [h1] at e1
    simp -implicitDefEqProofs only [go_sem, List.reduceReplicate, Nat.reduceAdd, Nat.reduceSub, Nat.reduceLT, Nat.reduceLeDiff, Nat.reduceMul, Nat.reduceEqDiff, reduceCtorEq, Int.reduceLE, Int.reduceLT, Int.reduceEq, Int.reduceNe, Int.reduceBEq, Int.reduceBNe, Int.reduceAdd, Int.reduceSub, e1]
    exact Fini.ret rfl
  | true =>
    rw [h1] at e1
    simp -implicitDefEqProofs only [go_sem, List.reduceReplicate, Nat.reduceAdd, Nat.reduceSub, Nat.reduceLT, Nat.reduceLeDiff, Nat.reduceMul, Nat.reduceEqDiff, reduceCtorEq, Int.reduceLE, Int.reduceLT, Int.reduceEq, Int.reduceNe, Int.reduceBEq, Int.reduceBNe, Int.reduceAdd, Int.reduceSub, e1]
    refine CO.intro (weigh_labs_ans σ L) ?_
    simp -implicitDefEqProofs only [go_sem, List.reduceReplicate, Nat.reduceAdd, Nat.reduceSub, Nat.reduceLT, Nat.reduceLeDiff, Nat.reduceMul, Nat.reduceEqDiff, reduceCtorEq, Int.reduceLE, Int.reduceLT, Int.reduceEq, Int.reduceNe, Int.reduceBEq, Int.reduceBNe, Int.reduceAdd, Int.reduceSub, e2]
    exact Fini.ret rfl
end Go.Proofs.Ytoadgajhkhejiaa
