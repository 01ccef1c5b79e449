/- The document's Ends and Takes, walked. No condition. -/
import Derived.Test.YtoadgajhkhejiaaDc6
import Derived.Test.YtoadgajhkhejiaaPRTree
import Derived.Test.YtoadgajhkhejiaaPDoc5
import Derived.Test.YtoadgajhkhejiaaPBnd
import Derived.Test.YtoadgajhkhejiaaDc2
import Derived.Test.YtoadgajhkhejiaaDr4
import GoSem.Extern.BytealgCompare
import Derived.Laws.Strings
set_option linter.unusedSimpArgs false
set_option linter.unusedVariables false
namespace Go.Proofs.Ytoadgajhkhejiaa
open Go Go.Ab Rex
set_option maxRecDepth 100000
theorem ks_len (l : List Rex) : l.length ≤ nodesL l := by
  induction l with
  | nil => exact Nat.zero_le _
  | cons x xs ih => rw [nodesL, nodes_eq, List.length_cons]; omega
theorem kid_nodes {l : List Rex} {k : Rex} (h : k ∈ l) : k.nodes ≤ nodesL l := by
  induction l with
  | nil => cases h
  | cons x xs ih =>
    rw [nodesL]
    rcases List.mem_cons.1 h with rfl | h
    · omega
    · have := ih h; omega
theorem after_all (w : ByteArray) (hw : w.size ≤ 100000) : ∀ (N : Nat) (x : Rex), SizeOf.sizeOf x < N → x.is = true → x.nodes ≤ 1000 → After w x
  | 0, x, h, _, _ => absurd h (Nat.not_lt_zero _)
  | N + 1, x, hN, his, hn => by
    rw [nodes_eq] at hn
    have hl := ks_len x.ks
    have hk : Kids w x := ⟨fun k hk => after_all w hw N k (by have := lt_of_mem hk; omega) (is_kid his hk) (by have := kid_nodes hk; omega),
      fun k hk S hS => (daft_leads w _ k (Nat.lt_succ_self _) (is_kid his hk) S hS).1⟩
    rcases is_ops his with h1 | h1 | h1 | h1 | h1 | h1
    · exact after_one w hw x h1
    · exact after_seq w hw x h1 hk (by omega)
    · exact after_alt w hw x h1 hk (by omega)
    · obtain ⟨k, hks⟩ := is_one_kid his (.inl h1)
      exact after_star w hw x k h1 hks hk
    · obtain ⟨k, hks⟩ := is_one_kid his (.inr (.inl h1))
      exact after_plus w hw x k h1 hks hk
    · obtain ⟨k, hks⟩ := is_one_kid his (.inr (.inr h1))
      exact after_maybe w hw x k h1 hks hk
def endsL (D : List Bool) (i : Nat) : List Nat := (List.range i).filter fun j => D.getD j false
theorem endsL_succ (D : List Bool) (i : Nat) : endsL D (i + 1) = if D.getD i false then endsL D i ++ [i] else endsL D i := by
  unfold endsL
  rw [List.range_succ, List.filter_append, List.filter_cons]
  split <;> simp
theorem endsL_len (D : List Bool) (i : Nat) : (endsL D i).length ≤ i := by
  have := List.length_filter_le (fun j => D.getD j false) (List.range i)
  simpa [endsL] using this
abbrev nv (l : List Nat) : AV := .sl 1 (l.map fun n : Nat => I (n : Int))
theorem ends_ans (σ : St) (w : ByteArray) (hw : w.size ≤ 100000) (x : Rex) (his : x.is = true) (hn : x.nodes ≤ 1000) :
    Ans Try.prog 99 [x.av, Sx w, I 0] σ (nv (endsL (daft w x (oneB w)) (w.size + 1))) σ := by
  have hS : (oneB w).length = w.size + 1 := by simp [oneB]
  have hr := fun σ => after_all w hw _ x (Nat.lt_succ_self _) his hn σ (oneB w) hS
  have hD := (daft_leads w _ x (Nat.lt_succ_self _) his (oneB w) hS).1
  have hi := fun σ => ris_ans σ x hn
  rw [his] at hi
  generalize daft w x (oneB w) = D at hr hD ⊢
  simp only [av_eq] at hr hi ⊢
  refine Ans.of_run' t99 (fun hbel _ => ?_)
  have q0 : IntKind.i64.wrap ((w.size : Int) + 1) = ((w.size + 1 : Nat) : Int) := wrap_nat (by omega)
  have q1 : ((0 : Int) ≤ (w.size + 1 : Nat)) = True := by simp; omega
  have q2 : (((w.size + 1 : Nat) : Int) ≤ 4294967296) = True := by simp; omega
  have q3 : ((w.size : Int) < 0) = False := by simp
  have q4 : decide ((w.size : Int) < 0) = false := by simp
  have hrl2 : (w.size = (List.replicate w.size (AV.pl (Value.bool false))).length) = True := by simp
  have e0 : (oneB w).map Bo = Bo true :: List.replicate w.size (Bo false) := by simp [oneB]
  have q5 : ((0 : Int) < (w.size + 1 : Nat)) = True := by first | (simp; done) | (simp; omega)
  simp -implicitDefEqProofs only [c99, r99, go_sem, List.reduceReplicate, Nat.reduceAdd, Nat.reduceSub, Nat.reduceLT, Nat.reduceLeDiff, Nat.reduceMul, Nat.reduceEqDiff, reduceCtorEq, Int.reduceLE, Int.reduceLT, Int.reduceEq, Int.reduceNe, Int.reduceBEq, Int.reduceBNe, Int.reduceAdd, Int.reduceSub]
  refine CO.intro (hi _) ?_
  simp only [bv, e0] at hr
  simp -implicitDefEqProofs only [go_sem, List.reduceReplicate, Nat.reduceAdd, Nat.reduceSub, Nat.reduceLT, Nat.reduceLeDiff, Nat.reduceMul, Nat.reduceEqDiff, reduceCtorEq, Int.reduceLE, Int.reduceLT, Int.reduceEq, Int.reduceNe, Int.reduceBEq, Int.reduceBNe, Int.reduceAdd, Int.reduceSub, q0, q1, q2, q3, q4, q5, Int.le_refl, Int.toNat_natCast, rep_cells, rep_take, hrl2, g0, s0, List.length_map, List.length_replicate, Int.toNat_zero]
  refine CO.intro (hr _) ?_
  simp -implicitDefEqProofs only [go_sem, List.reduceReplicate, Nat.reduceAdd, Nat.reduceSub, Nat.reduceLT, Nat.reduceLeDiff, Nat.reduceMul, Nat.reduceEqDiff, reduceCtorEq, Int.reduceLE, Int.reduceLT, Int.reduceEq, Int.reduceNe, Int.reduceBEq, Int.reduceBNe, Int.reduceAdd, Int.reduceSub, List.append_assoc, List.length_append]
  refine Go.Ab.L.count (w.size + 1) (fun i => mkE 50 [(1, Sx w), (8, bv D), (9, .osl (σ.length + 1) (endsL D i).length), (10, I i)]) (fun i => σ ++ [.dead, .row 1 ((endsL D i).map fun n : Nat => I (n : Int))]) ?_ ?_ rfl rfl
  · intro i hi J hJ
    have h2 : (D.map Bo)[i]? = some (Bo (D.getD i false)) := by simp [show i < D.length by omega]
    have hd : decide ((i : Int) ≤ w.size) = true := by simp; omega
    have hlt2 : ((i : Int) < D.length) = True := by simp; omega
    have hin := wrap_nat (n := i) (by omega)
    have hel := endsL_len D i
    rw [endsL_succ] at hJ
    have p1 : (1 ≤ 2 ^ 32) = True := by simp
    cases hb : D.getD i false with
    | true =>
      rw [hb, if_pos rfl, List.map_append, List.length_append] at hJ
      generalize endsL D i = en at hel hJ ⊢
      have p2 : (en.length + 1 ≤ 2 ^ 32) = True := by simp; omega
      simp -implicitDefEqProofs only [mkE, List.foldl_cons, List.foldl_nil, go_sem, List.reduceReplicate, Nat.reduceAdd, Nat.reduceSub, Nat.reduceLT, Nat.reduceLeDiff, Nat.reduceMul, Nat.reduceEqDiff, reduceCtorEq, Int.reduceLE, Int.reduceLT, Int.reduceEq, Int.reduceNe, Int.reduceBEq, Int.reduceBNe, Int.reduceAdd, Int.reduceSub, List.length_map, hd, hlt2, h2, hb, hin, g0, s0, g1, s1, p1, p2]
      exact hJ
    | false =>
      rw [hb, if_neg Bool.false_ne_true] at hJ
      simp -implicitDefEqProofs only [mkE, List.foldl_cons, List.foldl_nil, go_sem, List.reduceReplicate, Nat.reduceAdd, Nat.reduceSub, Nat.reduceLT, Nat.reduceLeDiff, Nat.reduceMul, Nat.reduceEqDiff, reduceCtorEq, Int.reduceLE, Int.reduceLT, Int.reduceEq, Int.reduceNe, Int.reduceBEq, Int.reduceBNe, Int.reduceAdd, Int.reduceSub, List.length_map, hd, hlt2, h2, hb, hin, g0, s0, g1, s1]
      exact hJ
  · intro J
    have hd : decide (((w.size + 1 : Nat) : Int) ≤ w.size) = false := by simp; omega
    generalize endsL D (w.size + 1) = en
    simp -implicitDefEqProofs only [mkE, List.foldl_cons, List.foldl_nil, go_sem, List.reduceReplicate, Nat.reduceAdd, Nat.reduceSub, Nat.reduceLT, Nat.reduceLeDiff, Nat.reduceMul, Nat.reduceEqDiff, reduceCtorEq, Int.reduceLE, Int.reduceLT, Int.reduceEq, Int.reduceNe, Int.reduceBEq, Int.reduceBNe, Int.reduceAdd, Int.reduceSub, List.length_map, hd, g0, s0, g1, s1]
    exact Fini.trim2 (σ' := σ) rfl rfl (Nat.le_refl _) (.sl 1 _ fun i hi => by simp; exact .pl _) hbel
end Go.Proofs.Ytoadgajhkhejiaa
namespace Go.Proofs.Ytoadgajhkhejiaa
open Go Go.Ab Rex
set_option maxRecDepth 100000
theorem takes_ans (σ : St) (w : ByteArray) (hw : w.size ≤ 100000) (x : Rex) (his : x.is = true) (hn : x.nodes ≤ 1000) :
    Ans Try.prog 58 [x.av, Sx w] σ (Bo (dtakes w x)) σ := by
  have he := fun σ => ends_ans σ w hw x his hn
  rw [dtakes, his, Bool.true_and]
  generalize daft w x (oneB w) = D at he ⊢
  have hlen := endsL_len D (w.size + 1)
  have hsucc := endsL_succ D w.size
  have hmem : ∀ a ∈ endsL D w.size, a < w.size := fun a ha => List.mem_range.1 (List.mem_filter.1 ha).1
  simp only [av_eq] at he ⊢
  refine Ans.of_run t58 ?_
  simp -implicitDefEqProofs only [c58, r58, go_sem, List.reduceReplicate, Nat.reduceAdd, Nat.reduceSub, Nat.reduceLT, Nat.reduceLeDiff, Nat.reduceMul, Nat.reduceEqDiff, reduceCtorEq, Int.reduceLE, Int.reduceLT, Int.reduceEq, Int.reduceNe, Int.reduceBEq, Int.reduceBNe, Int.reduceAdd, Int.reduceSub]
  refine CO.intro (he _) ?_
  cases hb : D.getD w.size false with
  | true =>
    rw [hb, if_pos rfl] at hsucc
    have hl : (endsL D (w.size + 1)).length = (endsL D w.size).length + 1 := by rw [hsucc]; simp
    have hg : (List.map (fun n : Nat => I (n : Int)) (endsL D (w.size + 1)))[(endsL D w.size).length]? = some (I (w.size : Int)) := by rw [hsucc]; simp
    have d0 : decide ((0 : Int) < ((endsL D w.size).length + 1 : Nat)) = true := by simp
    have d1 : IntKind.i64.wrap ((((endsL D w.size).length + 1 : Nat) : Int) - 1) = ((endsL D w.size).length : Int) := by rw [wrapN (by omega) (by omega)]; omega
    have d2 : (((endsL D w.size).length : Int) < ((endsL D w.size).length + 1 : Nat)) = True := by simp; omega
    simp -implicitDefEqProofs only [go_sem, List.reduceReplicate, Nat.reduceAdd, Nat.reduceSub, Nat.reduceLT, Nat.reduceLeDiff, Nat.reduceMul, Nat.reduceEqDiff, reduceCtorEq, Int.reduceLE, Int.reduceLT, Int.reduceEq, Int.reduceNe, Int.reduceBEq, Int.reduceBNe, Int.reduceAdd, Int.reduceSub, List.length_map, hl, d0, d1, d2, hg, Int.toNat_natCast, beq_self_eq_true]
    exact Fini.ret rfl
  | false =>
    rw [hb, if_neg Bool.false_ne_true] at hsucc
    rw [hsucc] at hlen ⊢
    generalize endsL D w.size = en at hlen hmem ⊢
    rcases List.eq_nil_or_concat en with rfl | ⟨en', a, rfl⟩
    · have d0 : decide ((0 : Int) < (0 : Nat)) = false := by decide
      simp -implicitDefEqProofs only [go_sem, List.reduceReplicate, Nat.reduceAdd, Nat.reduceSub, Nat.reduceLT, Nat.reduceLeDiff, Nat.reduceMul, Nat.reduceEqDiff, reduceCtorEq, Int.reduceLE, Int.reduceLT, Int.reduceEq, Int.reduceNe, Int.reduceBEq, Int.reduceBNe, Int.reduceAdd, Int.reduceSub, List.length_map, List.map_nil, List.length_nil, d0]
      exact Fini.ret rfl
    · rw [List.concat_eq_append] at hlen hmem ⊢
      have ha := hmem a (by simp)
      rw [List.length_append, List.length_singleton] at hlen
      have hl : (en' ++ [a]).length = en'.length + 1 := by simp
      have hg : (List.map (fun n : Nat => I (n : Int)) (en' ++ [a]))[en'.length]? = some (I (a : Int)) := by simp
      have d0 : decide ((0 : Int) < (en'.length + 1 : Nat)) = true := by simp
      have d1 : IntKind.i64.wrap (((en'.length + 1 : Nat) : Int) - 1) = (en'.length : Int) := by rw [wrapN (by omega) (by omega)]; omega
      have d2 : ((en'.length : Int) < (en'.length + 1 : Nat)) = True := by simp; omega
      have d3 : ((a : Int) == (w.size : Int)) = false := by rw [beq_cast]; simp; omega
      simp -implicitDefEqProofs only [go_sem, List.reduceReplicate, Nat.reduceAdd, Nat.reduceSub, Nat.reduceLT, Nat.reduceLeDiff, Nat.reduceMul, Nat.reduceEqDiff, reduceCtorEq, Int.reduceLE, Int.reduceLT, Int.reduceEq, Int.reduceNe, Int.reduceBEq, Int.reduceBNe, Int.reduceAdd, Int.reduceSub, List.length_map, hl, d0, d1, d2, d3, hg, Int.toNat_natCast]
      exact Fini.ret rfl
theorem likeD_ans (σ : St) (k : Int) (nm v : ByteArray) : Ans Try.prog 55 [mat k nm v] σ (Bo (likeB k)) σ := by
  refine Ans.of_run t55 ?_
  simp -implicitDefEqProofs only [c55, r55, go_sem, List.reduceReplicate, Nat.reduceAdd, Nat.reduceSub, Nat.reduceLT, Nat.reduceLeDiff, Nat.reduceMul, Nat.reduceEqDiff, reduceCtorEq, Int.reduceLE, Int.reduceLT, Int.reduceEq, Int.reduceNe, Int.reduceBEq, Int.reduceBNe, Int.reduceAdd, Int.reduceSub]
  unfold likeB
  cases h : k == 3
  · simp -implicitDefEqProofs only [go_sem, List.reduceReplicate, Nat.reduceAdd, Nat.reduceSub, Nat.reduceLT, Nat.reduceLeDiff, Nat.reduceMul, Nat.reduceEqDiff, reduceCtorEq, Int.reduceLE, Int.reduceLT, Int.reduceEq, Int.reduceNe, Int.reduceBEq, Int.reduceBNe, Int.reduceAdd, Int.reduceSub]
    exact Fini.ret rfl
  · simp -implicitDefEqProofs only [go_sem, List.reduceReplicate, Nat.reduceAdd, Nat.reduceSub, Nat.reduceLT, Nat.reduceLeDiff, Nat.reduceMul, Nat.reduceEqDiff, reduceCtorEq, Int.reduceLE, Int.reduceLT, Int.reduceEq, Int.reduceNe, Int.reduceBEq, Int.reduceBNe, Int.reduceAdd, Int.reduceSub]
    exact Fini.ret rfl
theorem getlab_ans (σ : St) (L : List Lab) (nm : ByteArray) (hl : L.length ≤ 1000) : Ans Try.prog 35 [.sl 2 (lvs L), Sx nm] σ (Sx (getL L nm)) σ := by
  refine Ans.of_run t35 ?_
  simp -implicitDefEqProofs only [c35, r35, go_sem, List.reduceReplicate, Nat.reduceAdd, Nat.reduceSub, Nat.reduceLT, Nat.reduceLeDiff, Nat.reduceMul, Nat.reduceEqDiff, reduceCtorEq, Int.reduceLE, Int.reduceLT, Int.reduceEq, Int.reduceNe, Int.reduceBEq, Int.reduceBNe, Int.reduceAdd, Int.reduceSub]
  generalize hres : getL L nm = res
  refine Go.Ab.L.intro (α := { i : Nat // i ≤ L.length ∧ getL (L.drop i) nm = res }) (fun x => L.length - x.1) (fun x => mkE 24 [(0, .sl 2 (lvs L)), (1, Sx nm), (5, I x.1)]) (fun _ => σ)
    (fun x J hJ => ?_) ⟨0, Nat.zero_le _, hres⟩ rfl rfl
  obtain ⟨i, h1, h2⟩ := x
  simp only at hJ ⊢
  by_cases hi : i < L.length
  · have hx := lvs_get L i hi
    rw [List.drop_eq_getElem_cons hi, getL] at h2
    generalize L[i] = y at hx h2
    obtain ⟨a, b⟩ := y
    simp only [lv] at hx
    have hin := wrap_nat (n := i) (by omega)
    cases hb : (a.toList == nm.toList) with
    | true =>
      rw [hb, if_pos rfl] at h2
      subst h2
      simp -implicitDefEqProofs only [mkE, List.foldl_cons, List.foldl_nil, go_sem, List.reduceReplicate, Nat.reduceAdd, Nat.reduceSub, Nat.reduceLT, Nat.reduceLeDiff, Nat.reduceMul, Nat.reduceEqDiff, reduceCtorEq, Int.reduceLE, Int.reduceLT, Int.reduceEq, Int.reduceNe, Int.reduceBEq, Int.reduceBNe, Int.reduceAdd, Int.reduceSub, lvs_len, nat_lt hi, dec_lt hi, hx, hb]
      exact Fini.ret rfl
    | false =>
      rw [hb, if_neg Bool.false_ne_true] at h2
      simp -implicitDefEqProofs only [mkE, List.foldl_cons, List.foldl_nil, go_sem, List.reduceReplicate, Nat.reduceAdd, Nat.reduceSub, Nat.reduceLT, Nat.reduceLeDiff, Nat.reduceMul, Nat.reduceEqDiff, reduceCtorEq, Int.reduceLE, Int.reduceLT, Int.reduceEq, Int.reduceNe, Int.reduceBEq, Int.reduceBNe, Int.reduceAdd, Int.reduceSub, lvs_len, nat_lt hi, dec_lt hi, hx, hb, hin]
      exact hJ ⟨i + 1, hi, h2⟩ (by simp only; omega)
  · rw [List.drop_eq_nil_iff.2 (by omega), getL] at h2
    subst h2
    simp -implicitDefEqProofs only [mkE, List.foldl_cons, List.foldl_nil, go_sem, List.reduceReplicate, Nat.reduceAdd, Nat.reduceSub, Nat.reduceLT, Nat.reduceLeDiff, Nat.reduceMul, Nat.reduceEqDiff, reduceCtorEq, Int.reduceLE, Int.reduceLT, Int.reduceEq, Int.reduceNe, Int.reduceBEq, Int.reduceBNe, Int.reduceAdd, Int.reduceSub, lvs_len, nat_nlt hi, dec_nlt hi]
    exact Fini.ret rfl
end Go.Proofs.Ytoadgajhkhejiaa
namespace Go.Proofs.Ytoadgajhkhejiaa
open Go Go.Ab Rex
set_option maxRecDepth 100000
def okN (s : ByteArray) (i : Nat) : Bool := letterB (byteAt s i) || (!(i == 0) && digitB (byteAt s i))
def nameD (s : ByteArray) : Bool := (List.range s.size).all (okN s) && (decide (1 ≤ s.size) && decide (s.size ≤ 12))
theorem nameD_eq (s : ByteArray) : nameD s = nameB s := by
  unfold nameD nameB
  by_cases h1 : 1 ≤ s.size
  · by_cases h2 : s.size ≤ 12
    · rw [decide_eq_true h1, decide_eq_true h2]
      simp only [Bool.and_self, Bool.and_true, Bool.true_and]
      rw [Bool.eq_iff_iff]
      simp only [Bool.and_eq_true, List.all_eq_true, List.mem_range, okN, Bool.or_eq_true, Bool.not_eq_true', beq_eq_false_iff_ne]
      constructor
      · intro h
        refine ⟨?_, fun i hi => ?_⟩
        · rcases h 0 (by omega) with h | h
          · exact h
          · exact absurd rfl h.1
        · rcases h i hi with h | h
          · exact .inl h
          · exact .inr h.2
      · rintro ⟨h0, h⟩ i hi
        by_cases hz : i = 0
        · subst hz; exact .inl h0
        · rcases h i hi with h | h
          · exact .inl h
          · exact .inr ⟨hz, h⟩
    · rw [decide_eq_false h2]; simp
  · rw [decide_eq_false h1]; simp
set_option maxHeartbeats 16000000 in
theorem dname_ans (σ : St) (s : ByteArray) (hs : s.size ≤ 100000) : Ans Try.prog 54 [Sx s] σ (Bo (nameB s)) σ := by
  rw [← nameD_eq]
  refine Ans.of_run t54 ?_
  simp -implicitDefEqProofs only [c54, r54, go_sem, List.reduceReplicate, Nat.reduceAdd, Nat.reduceSub, Nat.reduceLT, Nat.reduceLeDiff, Nat.reduceMul, Nat.reduceEqDiff, reduceCtorEq, Int.reduceLE, Int.reduceLT, Int.reduceEq, Int.reduceNe, Int.reduceBEq, Int.reduceBNe, Int.reduceAdd, Int.reduceSub]
  refine Go.Ab.L.scan s.size (okN s) (fun i => mkE 55 [(0, Sx s), (3, I i)]) (fun _ => σ) ?_ ?_ rfl rfl
  · intro i hi hp J hJ
    have hlt : ((i : Int) < s.size) = True := by simp; omega
    have hdi : decide ((i : Int) < s.size) = true := by simp; omega
    have hin := wrap_nat (n := i) (by omega)
    have hF : okN s i = false → nameD s = false := fun h => by
      rw [nameD, List.all_eq_false.2 ⟨i, List.mem_range.2 hi, by simp [h]⟩]; rfl
    have e1 : decide ((97 : Int) ≤ (byteAt s i : Nat)) = decide (97 ≤ byteAt s i) := int_le 97 _
    have e2 : decide (((byteAt s i : Nat) : Int) ≤ 122) = decide (byteAt s i ≤ 122) := int_le _ 122
    have e3 : decide ((65 : Int) ≤ (byteAt s i : Nat)) = decide (65 ≤ byteAt s i) := int_le 65 _
    have e4 : decide (((byteAt s i : Nat) : Int) ≤ 90) = decide (byteAt s i ≤ 90) := int_le _ 90
    have e5 : (((byteAt s i : Nat) : Int) == 95) = (byteAt s i == 95) := beq_cast _ 95
    have e6 : decide (((byteAt s i : Nat) : Int) < 48) = decide (byteAt s i < 48) := decN _ 48
    have e7 : decide ((57 : Int) < (byteAt s i : Nat)) = decide (57 < byteAt s i) := decN 57 _
    have e8 : ((i : Int) == 0) = (i == 0) := beq_cast i 0
    have hd : digitB (byteAt s i) = (!decide (byteAt s i < 48) && !decide (57 < byteAt s i)) := by
      unfold digitB
      rw [Bool.eq_iff_iff]; simp
    have hL : letterB (byteAt s i) = (decide (97 ≤ byteAt s i) && decide (byteAt s i ≤ 122) || decide (65 ≤ byteAt s i) && decide (byteAt s i ≤ 90) || byteAt s i == 95) := rfl
    have hO : okN s i = (letterB (byteAt s i) || (!(i == 0) && digitB (byteAt s i))) := rfl
    rw [hO, hL, hd] at hF hJ
    generalize decide (97 ≤ byteAt s i) = b1 at *
    generalize decide (byteAt s i ≤ 122) = b2 at *
    generalize decide (65 ≤ byteAt s i) = b3 at *
    generalize decide (byteAt s i ≤ 90) = b4 at *
    generalize (byteAt s i == 95) = b5 at *
    generalize decide (byteAt s i < 48) = b6 at *
    generalize decide (57 < byteAt s i) = b7 at *
    generalize (i == 0) = b8 at *
    clear hL hd hO
    simp -implicitDefEqProofs only [mkE, List.foldl_cons, List.foldl_nil, go_sem, List.reduceReplicate, Nat.reduceAdd, Nat.reduceSub, Nat.reduceLT, Nat.reduceLeDiff, Nat.reduceMul, Nat.reduceEqDiff, reduceCtorEq, Int.reduceLE, Int.reduceLT, Int.reduceEq, Int.reduceNe, Int.reduceBEq, Int.reduceBNe, Int.reduceAdd, Int.reduceSub, hlt, hdi, byteAt_def]
    cases b1 <;> cases b2 <;> cases b3 <;> cases b4 <;> cases b5
    all_goals simp -implicitDefEqProofs only [go_sem, List.reduceReplicate, Nat.reduceAdd, Nat.reduceSub, Nat.reduceLT, Nat.reduceLeDiff, Nat.reduceMul, Nat.reduceEqDiff, reduceCtorEq, Int.reduceLE, Int.reduceLT, Int.reduceEq, Int.reduceNe, Int.reduceBEq, Int.reduceBNe, Int.reduceAdd, Int.reduceSub, e1, e2, e3, e4, e5, e6, e7, e8, hin]
    all_goals first
      | exact hJ rfl
      | (cases b8 <;> cases b6 <;> cases b7 <;> simp -implicitDefEqProofs only [go_sem, List.reduceReplicate, Nat.reduceAdd, Nat.reduceSub, Nat.reduceLT, Nat.reduceLeDiff, Nat.reduceMul, Nat.reduceEqDiff, reduceCtorEq, Int.reduceLE, Int.reduceLT, Int.reduceEq, Int.reduceNe, Int.reduceBEq, Int.reduceBNe, Int.reduceAdd, Int.reduceSub, e6, e7, e8, hin] <;> first
          | exact hJ rfl
          | (refine Fini.ret' rfl (bo_congr ?_); exact (hF rfl).symm))
  · intro hp J
    have hdi : decide ((s.size : Int) < s.size) = false := by simp
    have d1 : decide ((1 : Int) ≤ s.size) = decide (1 ≤ s.size) := int_le 1 _
    have d2 : decide ((s.size : Int) ≤ 12) = decide (s.size ≤ 12) := int_le _ 12
    have hA : (List.range s.size).all (okN s) = true := List.all_eq_true.2 fun i hi => hp i (List.mem_range.1 hi)
    rw [nameD, hA, Bool.true_and]
    cases h1 : decide (1 ≤ s.size) with
    | true =>
      rw [h1] at d1
      simp -implicitDefEqProofs only [mkE, List.foldl_cons, List.foldl_nil, go_sem, List.reduceReplicate, Nat.reduceAdd, Nat.reduceSub, Nat.reduceLT, Nat.reduceLeDiff, Nat.reduceMul, Nat.reduceEqDiff, reduceCtorEq, Int.reduceLE, Int.reduceLT, Int.reduceEq, Int.reduceNe, Int.reduceBEq, Int.reduceBNe, Int.reduceAdd, Int.reduceSub, hdi, d1, d2]
      exact Fini.ret rfl
    | false =>
      rw [h1] at d1
      simp -implicitDefEqProofs only [mkE, List.foldl_cons, List.foldl_nil, go_sem, List.reduceReplicate, Nat.reduceAdd, Nat.reduceSub, Nat.reduceLT, Nat.reduceLeDiff, Nat.reduceMul, Nat.reduceEqDiff, reduceCtorEq, Int.reduceLE, Int.reduceLT, Int.reduceEq, Int.reduceNe, Int.reduceBEq, Int.reduceBNe, Int.reduceAdd, Int.reduceSub, hdi, d1, d2]
      exact Fini.ret rfl
end Go.Proofs.Ytoadgajhkhejiaa
namespace Go.Proofs.Ytoadgajhkhejiaa
open Go Go.Ab Rex
set_option maxRecDepth 100000
theorem dis_any (σ : St) (k : Int) (nm v : ByteArray) (hs : nm.size ≤ 100000) : Ans Try.prog 17 [mat k nm v] σ (Bo (isB k nm v)) σ := by
  refine Ans.of_run t17 ?_
  unfold isB
  simp -implicitDefEqProofs only [c17, r17, go_sem, List.reduceReplicate, Nat.reduceAdd, Nat.reduceSub, Nat.reduceLT, Nat.reduceLeDiff, Nat.reduceMul, Nat.reduceEqDiff, reduceCtorEq, Int.reduceLE, Int.reduceLT, Int.reduceEq, Int.reduceNe, Int.reduceBEq, Int.reduceBNe, Int.reduceAdd, Int.reduceSub]
  refine CO.intro (dname_ans σ nm hs) ?_
  cases hn : nameB nm with
  | false =>
    simp -implicitDefEqProofs only [go_sem, List.reduceReplicate, Nat.reduceAdd, Nat.reduceSub, Nat.reduceLT, Nat.reduceLeDiff, Nat.reduceMul, Nat.reduceEqDiff, reduceCtorEq, Int.reduceLE, Int.reduceLT, Int.reduceEq, Int.reduceNe, Int.reduceBEq, Int.reduceBNe, Int.reduceAdd, Int.reduceSub]
    exact Fini.ret rfl
  | true =>
  simp -implicitDefEqProofs only [go_sem, List.reduceReplicate, Nat.reduceAdd, Nat.reduceSub, Nat.reduceLT, Nat.reduceLeDiff, Nat.reduceMul, Nat.reduceEqDiff, reduceCtorEq, Int.reduceLE, Int.reduceLT, Int.reduceEq, Int.reduceNe, Int.reduceBEq, Int.reduceBNe, Int.reduceAdd, Int.reduceSub]
  refine CO.intro (likeD_ans σ k nm v) ?_
  cases hk : likeB k with
  | true =>
    simp -implicitDefEqProofs only [go_sem, List.reduceReplicate, Nat.reduceAdd, Nat.reduceSub, Nat.reduceLT, Nat.reduceLeDiff, Nat.reduceMul, Nat.reduceEqDiff, reduceCtorEq, Int.reduceLE, Int.reduceLT, Int.reduceEq, Int.reduceNe, Int.reduceBEq, Int.reduceBNe, Int.reduceAdd, Int.reduceSub]
    refine CO.intro (dparse_ans v σ) ?_
    rw [dparse_eq]
    have hrv := Rex.rv_eq (pparse v).1
    generalize (pparse v).1 = x at hrv ⊢
    generalize (pparse v).2 = b
    rw [hrv]
    rcases Rex.rvK_cases x.ks with e | ⟨l, e⟩ <;> rw [e]
    all_goals (simp -implicitDefEqProofs only [go_sem, List.reduceReplicate, Nat.reduceAdd, Nat.reduceSub, Nat.reduceLT, Nat.reduceLeDiff, Nat.reduceMul, Nat.reduceEqDiff, reduceCtorEq, Int.reduceLE, Int.reduceLT, Int.reduceEq, Int.reduceNe, Int.reduceBEq, Int.reduceBNe, Int.reduceAdd, Int.reduceSub]; exact Fini.ret rfl)
  | false =>
    have d : decide ((v.size : Int) ≤ 24) = decide (v.size ≤ 24) := int_le v.size 24
    simp -implicitDefEqProofs only [go_sem, List.reduceReplicate, Nat.reduceAdd, Nat.reduceSub, Nat.reduceLT, Nat.reduceLeDiff, Nat.reduceMul, Nat.reduceEqDiff, reduceCtorEq, Int.reduceLE, Int.reduceLT, Int.reduceEq, Int.reduceNe, Int.reduceBEq, Int.reduceBNe, Int.reduceAdd, Int.reduceSub]
    cases h1 : k == 1 with
    | true =>
      simp -implicitDefEqProofs only [go_sem, List.reduceReplicate, Nat.reduceAdd, Nat.reduceSub, Nat.reduceLT, Nat.reduceLeDiff, Nat.reduceMul, Nat.reduceEqDiff, reduceCtorEq, Int.reduceLE, Int.reduceLT, Int.reduceEq, Int.reduceNe, Int.reduceBEq, Int.reduceBNe, Int.reduceAdd, Int.reduceSub, d]
      exact Fini.ret rfl
    | false =>
      simp -implicitDefEqProofs only [go_sem, List.reduceReplicate, Nat.reduceAdd, Nat.reduceSub, Nat.reduceLT, Nat.reduceLeDiff, Nat.reduceMul, Nat.reduceEqDiff, reduceCtorEq, Int.reduceLE, Int.reduceLT, Int.reduceEq, Int.reduceNe, Int.reduceBEq, Int.reduceBNe, Int.reduceAdd, Int.reduceSub]
      cases h2 : k == 2 with
      | true =>
        simp -implicitDefEqProofs only [go_sem, List.reduceReplicate, Nat.reduceAdd, Nat.reduceSub, Nat.reduceLT, Nat.reduceLeDiff, Nat.reduceMul, Nat.reduceEqDiff, reduceCtorEq, Int.reduceLE, Int.reduceLT, Int.reduceEq, Int.reduceNe, Int.reduceBEq, Int.reduceBNe, Int.reduceAdd, Int.reduceSub, d]
        exact Fini.ret rfl
      | false =>
        simp -implicitDefEqProofs only [go_sem, List.reduceReplicate, Nat.reduceAdd, Nat.reduceSub, Nat.reduceLT, Nat.reduceLeDiff, Nat.reduceMul, Nat.reduceEqDiff, reduceCtorEq, Int.reduceLE, Int.reduceLT, Int.reduceEq, Int.reduceNe, Int.reduceBEq, Int.reduceBNe, Int.reduceAdd, Int.reduceSub]
        exact Fini.ret rfl
def dlargeB (k : Int) (nm v : ByteArray) : Bool := isB k nm v && (likeB k && decide ((40 : Int) < full (pparse v).1))
theorem dlarge_any (σ : St) (k : Int) (nm v : ByteArray) (hs : nm.size ≤ 100000) : Ans Try.prog 19 [mat k nm v] σ (Bo (dlargeB k nm v)) σ := by
  refine Ans.of_run t19 ?_
  unfold dlargeB
  simp -implicitDefEqProofs only [c19, r19, go_sem, List.reduceReplicate, Nat.reduceAdd, Nat.reduceSub, Nat.reduceLT, Nat.reduceLeDiff, Nat.reduceMul, Nat.reduceEqDiff, reduceCtorEq, Int.reduceLE, Int.reduceLT, Int.reduceEq, Int.reduceNe, Int.reduceBEq, Int.reduceBNe, Int.reduceAdd, Int.reduceSub]
  refine CO.intro (dis_any σ k nm v hs) ?_
  cases hi : isB k nm v with
  | false =>
    simp -implicitDefEqProofs only [go_sem, List.reduceReplicate, Nat.reduceAdd, Nat.reduceSub, Nat.reduceLT, Nat.reduceLeDiff, Nat.reduceMul, Nat.reduceEqDiff, reduceCtorEq, Int.reduceLE, Int.reduceLT, Int.reduceEq, Int.reduceNe, Int.reduceBEq, Int.reduceBNe, Int.reduceAdd, Int.reduceSub]
    exact Fini.ret rfl
  | true =>
  simp -implicitDefEqProofs only [go_sem, List.reduceReplicate, Nat.reduceAdd, Nat.reduceSub, Nat.reduceLT, Nat.reduceLeDiff, Nat.reduceMul, Nat.reduceEqDiff, reduceCtorEq, Int.reduceLE, Int.reduceLT, Int.reduceEq, Int.reduceNe, Int.reduceBEq, Int.reduceBNe, Int.reduceAdd, Int.reduceSub]
  refine CO.intro (likeD_ans σ k nm v) ?_
  cases hk : likeB k with
  | false =>
    simp -implicitDefEqProofs only [go_sem, List.reduceReplicate, Nat.reduceAdd, Nat.reduceSub, Nat.reduceLT, Nat.reduceLeDiff, Nat.reduceMul, Nat.reduceEqDiff, reduceCtorEq, Int.reduceLE, Int.reduceLT, Int.reduceEq, Int.reduceNe, Int.reduceBEq, Int.reduceBNe, Int.reduceAdd, Int.reduceSub]
    exact Fini.ret rfl
  | true =>
  simp -implicitDefEqProofs only [go_sem, List.reduceReplicate, Nat.reduceAdd, Nat.reduceSub, Nat.reduceLT, Nat.reduceLeDiff, Nat.reduceMul, Nat.reduceEqDiff, reduceCtorEq, Int.reduceLE, Int.reduceLT, Int.reduceEq, Int.reduceNe, Int.reduceBEq, Int.reduceBNe, Int.reduceAdd, Int.reduceSub]
  refine CO.intro (dparse_ans v σ) ?_
  rw [dparse_eq]
  have hrv := Rex.rv_eq (pparse v).1
  have hno := pparse_nodes v
  generalize (pparse v).1 = x at hrv hno ⊢
  generalize (pparse v).2 = b
  have hz : Ans Try.prog 57 [x.rv] σ (I (full x)) σ := Ans.sub (rSize_ans σ x (by omega))
  rw [hrv] at hz ⊢
  rcases Rex.rvK_cases x.ks with e | ⟨l, e⟩ <;> rw [e] at hz ⊢
  all_goals
    simp -implicitDefEqProofs only [go_sem, List.reduceReplicate, Nat.reduceAdd, Nat.reduceSub, Nat.reduceLT, Nat.reduceLeDiff, Nat.reduceMul, Nat.reduceEqDiff, reduceCtorEq, Int.reduceLE, Int.reduceLT, Int.reduceEq, Int.reduceNe, Int.reduceBEq, Int.reduceBNe, Int.reduceAdd, Int.reduceSub]
    refine CO.intro hz ?_
    simp -implicitDefEqProofs only [go_sem, List.reduceReplicate, Nat.reduceAdd, Nat.reduceSub, Nat.reduceLT, Nat.reduceLeDiff, Nat.reduceMul, Nat.reduceEqDiff, reduceCtorEq, Int.reduceLE, Int.reduceLT, Int.reduceEq, Int.reduceNe, Int.reduceBEq, Int.reduceBNe, Int.reduceAdd, Int.reduceSub]
    exact Fini.ret rfl
end Go.Proofs.Ytoadgajhkhejiaa
namespace Go.Proofs.Ytoadgajhkhejiaa
open Go Go.Ab Rex
set_option maxRecDepth 100000
def IsF (F : PF) : Prop := ∀ a b, (F a b).1.is = true
theorem is_ofSet (S : List Int) : (ofSet S).is = true := by rw [is_eq]; rfl
theorem is_kids {op : Int} {K : List Rex} (h : ∀ k ∈ K, k.is = true) (ho : op = 2 ∨ (op = 3 ∧ K ≠ []) ∨ ((op = 4 ∨ op = 5 ∨ op = 6) ∧ ∃ k, K = [k])) : (Rex.mk op 0 0 0 0 K).is = true := by
  have hn : (K.any fun k => !k.is) = false := by
    rw [List.any_eq_false]; intro k hk; simp [h k hk]
  rw [is_eq]
  simp only [Rex.op, Rex.ks, plain, Rex.a, Rex.b, Rex.c, Rex.d, hn]
  rcases ho with rfl | ⟨rfl, hne⟩ | ⟨rfl | rfl | rfl, k, rfl⟩
  · rfl
  · have : ((K.length : Int) == 0) = false := by
      cases K with
      | nil => exact absurd rfl hne
      | cons _ _ => simp; omega
    simp [this]
  · rfl
  · rfl
  · rfl
variable (s : ByteArray)
theorem isF_atom {F : PF} {d : Nat} (h : IsF F) : IsF (patom s F d) := fun a b => by
  unfold patom
  simp only
  repeat' split
  all_goals first
    | exact is_ofSet _
    | exact h _ _
theorem isF_factor {F : PF} (h : IsF F) : IsF (pfactor s F) := fun a b => by
  have hx : ∀ k ∈ [(F a b).1], k.is = true := fun k hk => by
    simp only [List.mem_cons, List.not_mem_nil, or_false] at hk
    rw [hk]; exact h a b
  unfold pfactor
  simp only
  repeat' split
  · exact is_kids hx (.inr (.inr ⟨.inl rfl, _, rfl⟩))
  · exact is_kids hx (.inr (.inr ⟨.inr (.inl rfl), _, rfl⟩))
  · exact is_kids hx (.inr (.inr ⟨.inr (.inr rfl), _, rfl⟩))
  · exact h a b
theorem is_one2 {K : List Rex} (h : ∀ k ∈ K, k.is = true) : (one 2 K).is = true := by
  unfold one
  split
  · exact h _ (by simp)
  · exact is_kids h (.inl rfl)
theorem is_one3 {K : List Rex} (h : ∀ k ∈ K, k.is = true) (hne : K ≠ []) : (one 3 K).is = true := by
  unfold one
  split
  · exact h _ (by simp)
  · exact is_kids h (.inr (.inl ⟨rfl, hne⟩))
theorem isF_wayL {F : PF} (h : IsF F) : ∀ (n : Nat) (K : List Rex) (a : Nat) (b : Bool), (∀ k ∈ K, k.is = true) → ∀ k ∈ (pwayL s F n K a b).1, k.is = true
  | 0, K, a, b, hK => hK
  | n + 1, K, a, b, hK => by
    rw [pwayL]; split
    · refine isF_wayL h n _ _ _ fun k hk => ?_
      rcases List.mem_append.1 hk with hk | hk
      · exact hK k hk
      · simp only [List.mem_cons, List.not_mem_nil, or_false] at hk
        rw [hk]; exact h _ _
    · exact hK
theorem isF_way {F : PF} (h : IsF F) : IsF (pway s F) := fun a b => is_one2 (isF_wayL s h _ _ _ _ (fun k hk => absurd hk (by simp)))
theorem isF_waysL {F : PF} (h : IsF F) : ∀ (n : Nat) (K : List Rex) (a : Nat) (b : Bool), (∀ k ∈ K, k.is = true) → K ≠ [] → (∀ k ∈ (pwaysL s F n K a b).1, k.is = true) ∧ (pwaysL s F n K a b).1 ≠ []
  | 0, K, a, b, hK, hne => ⟨hK, hne⟩
  | n + 1, K, a, b, hK, hne => by
    rw [pwaysL]; split
    · refine isF_waysL h n _ _ _ (fun k hk => ?_) (by simp)
      rcases List.mem_append.1 hk with hk | hk
      · exact hK k hk
      · simp only [List.mem_cons, List.not_mem_nil, or_false] at hk
        rw [hk]; exact h _ _
    · exact ⟨hK, hne⟩
theorem isF_ways {F : PF} (h : IsF F) : IsF (pways s F) := fun a b => by
  have := isF_waysL s h (s.size + 1) [(F a b).1] (F a b).2.1 (F a b).2.2 (fun k hk => by
    simp only [List.mem_cons, List.not_mem_nil, or_false] at hk
    rw [hk]; exact h _ _) (by simp)
  exact is_one3 this.1 this.2
theorem isF_lvl {W : PF} (h : IsF W) (d : Nat) : IsF (lvl s W d) := isF_ways s (isF_way s (isF_factor s (isF_atom s h)))
theorem isF_PW : ∀ k, IsF (PW s k)
  | 0 => isF_lvl s (fun _ _ => is_ofSet _) 8
  | k + 1 => isF_lvl s (isF_PW k) _
theorem pparse_is (h : (pparse s).2 = true) : (pparse s).1.is = true := by
  unfold pparse at h ⊢
  simp only at h ⊢
  split at h
  · cases h
  · rename_i hc
    rw [if_neg hc]
    exact isF_PW s 8 _ _
end Go.Proofs.Ytoadgajhkhejiaa
namespace Go.Proofs.Ytoadgajhkhejiaa
open Go Go.Ab Rex
set_option maxRecDepth 100000
theorem Ans.sub' {P : Program} {f : FuncId} {x : Rex} {l : List AV} {σ σ' : St} {r : AV} (h : Ans P f (x.av :: l) σ r σ') : Ans P f (x.rv :: l) σ r σ' := by
  intro M ν w vs hg hr
  refine h M ν w vs hg ⟨by simpa using hr.1, fun j hj hj' => ?_⟩
  cases j with
  | zero => exact sub_rv x _ (hr.2 0 (by simp) hj')
  | succ j => exact hr.2 (j + 1) (by simpa using hj) hj'
theorem large_eq (k : Int) (nm v : ByteArray) : dlargeB k nm v = largeB k nm v := by
  unfold dlargeB largeB
  cases hi : isB k nm v with
  | false => simp
  | true =>
  cases hk : likeB k with
  | false => simp
  | true =>
    have hp : (pparse v).2 = true := by
      unfold isB at hi
      rw [hk, if_pos rfl] at hi
      simp only [Bool.and_eq_true] at hi
      exact hi.2
    have his := pparse_is v hp
    unfold progO full Rex.made
    rw [hp, his]
    simp only [Bool.not_true, Bool.false_eq_true, if_false, if_true, Bool.true_and, true_and, Bool.and_self]
    by_cases h : (pparse v).1.size + 1 ≤ 40
    · rw [if_pos h, decide_eq_false (by omega)]; rfl
    · rw [if_neg h, decide_eq_true (by omega)]; rfl
theorem dholds_any (σ : St) (k : Int) (nm v : ByteArray) (L : List Lab) (hl : L.length ≤ 1000) (hs : nm.size ≤ 100000) (hw : (getL L nm).size ≤ 100000) :
    Ans Try.prog 20 [mat k nm v, .sl 2 (lvs L)] σ (Bo (holdsB k nm v (getL L nm))) σ := by
  have hla : largeB k nm v = (likeB k && isB k nm v && (progO v).isNone) := rfl
  refine Ans.of_run t20 ?_
  unfold holdsB
  simp -implicitDefEqProofs only [c20, r20, go_sem, List.reduceReplicate, Nat.reduceAdd, Nat.reduceSub, Nat.reduceLT, Nat.reduceLeDiff, Nat.reduceMul, Nat.reduceEqDiff, reduceCtorEq, Int.reduceLE, Int.reduceLT, Int.reduceEq, Int.reduceNe, Int.reduceBEq, Int.reduceBNe, Int.reduceAdd, Int.reduceSub]
  refine CO.intro (dis_any σ k nm v hs) ?_
  cases hi : isB k nm v with
  | false =>
    simp -implicitDefEqProofs only [go_sem, List.reduceReplicate, Nat.reduceAdd, Nat.reduceSub, Nat.reduceLT, Nat.reduceLeDiff, Nat.reduceMul, Nat.reduceEqDiff, reduceCtorEq, Int.reduceLE, Int.reduceLT, Int.reduceEq, Int.reduceNe, Int.reduceBEq, Int.reduceBNe, Int.reduceAdd, Int.reduceSub]
    exact Fini.ret rfl
  | true =>
  simp -implicitDefEqProofs only [go_sem, List.reduceReplicate, Nat.reduceAdd, Nat.reduceSub, Nat.reduceLT, Nat.reduceLeDiff, Nat.reduceMul, Nat.reduceEqDiff, reduceCtorEq, Int.reduceLE, Int.reduceLT, Int.reduceEq, Int.reduceNe, Int.reduceBEq, Int.reduceBNe, Int.reduceAdd, Int.reduceSub]
  refine CO.intro (dlarge_any σ k nm v hs) ?_
  rw [large_eq, hla, hi]
  have hk12 : likeB k = true → (k == 1) = false ∧ (k == 2) = false := fun h => by
    unfold likeB at h
    simp only [Bool.or_eq_true, beq_iff_eq] at h
    constructor <;> simp <;> omega
  have hnl : likeB k = false → (k == 1) = false → (k == 2) = true := fun h h1 => by
    unfold isB at hi
    rw [h] at hi
    simp [h1] at hi
    simpa using hi.2.1
  cases hk : likeB k with
  | false =>
    simp -implicitDefEqProofs only [go_sem, List.reduceReplicate, Nat.reduceAdd, Nat.reduceSub, Nat.reduceLT, Nat.reduceLeDiff, Nat.reduceMul, Nat.reduceEqDiff, reduceCtorEq, Int.reduceLE, Int.reduceLT, Int.reduceEq, Int.reduceNe, Int.reduceBEq, Int.reduceBNe, Int.reduceAdd, Int.reduceSub, Bool.false_and]
    refine CO.intro (getlab_ans σ L nm hl) ?_
    cases h1 : k == 1 with
    | true =>
      simp -implicitDefEqProofs only [go_sem, List.reduceReplicate, Nat.reduceAdd, Nat.reduceSub, Nat.reduceLT, Nat.reduceLeDiff, Nat.reduceMul, Nat.reduceEqDiff, reduceCtorEq, Int.reduceLE, Int.reduceLT, Int.reduceEq, Int.reduceNe, Int.reduceBEq, Int.reduceBNe, Int.reduceAdd, Int.reduceSub, h1]
      exact Fini.ret rfl
    | false =>
      have h2 := hnl hk h1
      simp -implicitDefEqProofs only [go_sem, List.reduceReplicate, Nat.reduceAdd, Nat.reduceSub, Nat.reduceLT, Nat.reduceLeDiff, Nat.reduceMul, Nat.reduceEqDiff, reduceCtorEq, Int.reduceLE, Int.reduceLT, Int.reduceEq, Int.reduceNe, Int.reduceBEq, Int.reduceBNe, Int.reduceAdd, Int.reduceSub, h1, h2]
      exact Fini.ret rfl
  | true =>
    obtain ⟨h1, h2⟩ := hk12 hk
    have hp : (pparse v).2 = true := by
      unfold isB at hi
      rw [hk, if_pos rfl] at hi
      simp only [Bool.and_eq_true] at hi
      exact hi.2
    cases hpr : progO v with
    | none =>
      simp -implicitDefEqProofs only [go_sem, List.reduceReplicate, Nat.reduceAdd, Nat.reduceSub, Nat.reduceLT, Nat.reduceLeDiff, Nat.reduceMul, Nat.reduceEqDiff, reduceCtorEq, Int.reduceLE, Int.reduceLT, Int.reduceEq, Int.reduceNe, Int.reduceBEq, Int.reduceBNe, Int.reduceAdd, Int.reduceSub, Option.isNone, Bool.true_and, h1, h2]
      exact Fini.ret rfl
    | some l =>
      have hmd : (pparse v).1.made = some l := by unfold progO at hpr; rwa [hp, if_pos rfl] at hpr
      have hdt := dtakes_made (getL L nm) hmd
      simp -implicitDefEqProofs only [go_sem, List.reduceReplicate, Nat.reduceAdd, Nat.reduceSub, Nat.reduceLT, Nat.reduceLeDiff, Nat.reduceMul, Nat.reduceEqDiff, reduceCtorEq, Int.reduceLE, Int.reduceLT, Int.reduceEq, Int.reduceNe, Int.reduceBEq, Int.reduceBNe, Int.reduceAdd, Int.reduceSub, Option.isNone, Bool.true_and, Bool.and_false, Bool.false_and]
      refine CO.intro (getlab_ans σ L nm hl) ?_
      simp -implicitDefEqProofs only [go_sem, List.reduceReplicate, Nat.reduceAdd, Nat.reduceSub, Nat.reduceLT, Nat.reduceLeDiff, Nat.reduceMul, Nat.reduceEqDiff, reduceCtorEq, Int.reduceLE, Int.reduceLT, Int.reduceEq, Int.reduceNe, Int.reduceBEq, Int.reduceBNe, Int.reduceAdd, Int.reduceSub, h1, h2]
      refine CO.intro (dparse_ans v σ) ?_
      rw [dparse_eq]
      have hta := fun σ => Ans.sub' (takes_ans σ (getL L nm) hw (pparse v).1 (pparse_is v hp) (by have := pparse_nodes v; omega))
      rw [hdt] at hta
      have hrv := Rex.rv_eq (pparse v).1
      generalize (pparse v).1 = x at hrv hta ⊢
      generalize (pparse v).2 = b
      rw [hrv] at hta ⊢
      rcases Rex.rvK_cases x.ks with e | ⟨l, e⟩ <;> rw [e] at hta ⊢
      all_goals
        simp -implicitDefEqProofs only [go_sem, List.reduceReplicate, Nat.reduceAdd, Nat.reduceSub, Nat.reduceLT, Nat.reduceLeDiff, Nat.reduceMul, Nat.reduceEqDiff, reduceCtorEq, Int.reduceLE, Int.reduceLT, Int.reduceEq, Int.reduceNe, Int.reduceBEq, Int.reduceBNe, Int.reduceAdd, Int.reduceSub]
        refine CD.intro (hta _) ?_
        simp -implicitDefEqProofs only [go_sem, List.reduceReplicate, Nat.reduceAdd, Nat.reduceSub, Nat.reduceLT, Nat.reduceLeDiff, Nat.reduceMul, Nat.reduceEqDiff, reduceCtorEq, Int.reduceLE, Int.reduceLT, Int.reduceEq, Int.reduceNe, Int.reduceBEq, Int.reduceBNe, Int.reduceAdd, Int.reduceSub]
        exact Fini.ret rfl
end Go.Proofs.Ytoadgajhkhejiaa
namespace Go.Proofs.Ytoadgajhkhejiaa
open Go Go.Ab
set_option maxRecDepth 100000
abbrev Mtr := Int × ByteArray × ByteArray
def mv3 (x : Mtr) : AV := mat x.1 x.2.1 x.2.2
def mvs3 (L : List Mtr) : List AV := L.map mv3
def labP (x : Lab) : Nat × Nat := (x.1.size, x.2.size)
def matP (x : Mtr) : Nat × Nat := (x.2.1.size, x.2.2.size)
def weighL : List (Nat × Nat) → Nat → Nat
  | [], n => min n 301
  | (a, b) :: l, n => if n ≤ 300 then if 300 < a ∨ 300 < b then 301 else weighL l (n + 1 + a + b) else 301
theorem weighL_len : ∀ (l : List (Nat × Nat)) (n : Nat), weighL l n ≤ 300 → n + l.length ≤ 300 ∧ ∀ x ∈ l, x.1 ≤ 300 ∧ x.2 ≤ 300
  | [], n, h => by
    simp only [weighL] at h
    refine ⟨by simp; omega, by simp⟩
  | (a, b) :: l, n, h => by
    simp only [weighL] at h
    split at h
    · split at h
      · omega
      · have := weighL_len l _ h
        refine ⟨by simp; omega, fun x hx => ?_⟩
        rcases List.mem_cons.1 hx with rfl | hx
        · simp only; omega
        · exact this.2 x hx
    · omega
theorem weigh_labs_ans (σ : St) (L : List Lab) : Ans Try.prog 47 [.sl 2 (lvs L), I 300] σ (I (weighL (L.map labP) 0 : Nat)) σ := by
  refine Ans.of_run t47 ?_
  have hlen : ((lvs L)).length = L.length := by simp [lvs]
  simp -implicitDefEqProofs only [c47, r47, go_sem, List.reduceReplicate, Nat.reduceAdd, Nat.reduceSub, Nat.reduceLT, Nat.reduceLeDiff, Nat.reduceMul, Nat.reduceEqDiff, reduceCtorEq, Int.reduceLE, Int.reduceLT, Int.reduceEq, Int.reduceNe, Int.reduceBEq, Int.reduceBNe, Int.reduceAdd, Int.reduceSub]
  generalize hres : weighL (L.map labP) 0 = res
  refine Go.Ab.L.intro (α := { x : Nat × Nat // x.1 ≤ L.length ∧ weighL ((L.drop x.1).map labP) x.2 = res ∧ x.2 ≤ 1000 ∧ x.1 ≤ x.2 })
    (fun x => L.length - x.1.1)
    (fun x => mkE 58 [(0, .sl 2 (lvs L)), (1, I 300), (5, I x.1.2), (6, I x.1.1)])
    (fun x => σ)
    (fun x J hJ => ?_) ⟨(0, 0), Nat.zero_le _, hres, by omega, Nat.le_refl _⟩ ?_ rfl
  · obtain ⟨⟨i, n⟩, h1, h2, h3, h4⟩ := x
    simp only at h1 h2 h3 hJ ⊢
    have d2 : decide ((n : Int) ≤ 300) = decide (n ≤ 300) := int_le n 300
    by_cases hi : i < L.length
    · have d1 : decide ((i : Int) < L.length) = true := by simp; omega
      have d1' : ((i : Int) < L.length) = True := by simp; omega
      have hget : ((lvs L))[i]? = some (lv L[i]) := by simp [lvs, hi]
      rw [List.drop_eq_getElem_cons hi, List.map_cons] at h2
      have hJ' := hJ
      generalize L[i] = y at h2 hget
      obtain ⟨nm, v⟩ := y
      simp only [lv] at hget
      simp only [labP] at h2
      rw [weighL] at h2
      by_cases hn : n ≤ 300
      · rw [if_pos hn] at h2
        have e2 : decide (n ≤ 300) = true := by simpa using hn
        rw [e2] at d2
        have d3 : decide ((300 : Int) < nm.size) = decide (300 < nm.size) := decN 300 _
        have d4 : decide ((300 : Int) < v.size) = decide (300 < v.size) := decN 300 _
        have w0 : IntKind.i64.wrap (300 + 1) = 301 := by decide
        by_cases ha : 300 < nm.size
        · rw [if_pos (.inl ha)] at h2
          rw [decide_eq_true ha] at d3
          simp -implicitDefEqProofs only [mkE, List.foldl_cons, List.foldl_nil, go_sem, List.reduceReplicate, Nat.reduceAdd, Nat.reduceSub, Nat.reduceLT, Nat.reduceLeDiff, Nat.reduceMul, Nat.reduceEqDiff, reduceCtorEq, Int.reduceLE, Int.reduceLT, Int.reduceEq, Int.reduceNe, Int.reduceBEq, Int.reduceBNe, Int.reduceAdd, Int.reduceSub, hlen, d1, d1', d2, d3, hget, w0]
          subst h2
          exact Fini.ret rfl
        · rw [decide_eq_false ha] at d3
          by_cases hb : 300 < v.size
          · rw [if_pos (.inr hb)] at h2
            rw [decide_eq_true hb] at d4
            simp -implicitDefEqProofs only [mkE, List.foldl_cons, List.foldl_nil, go_sem, List.reduceReplicate, Nat.reduceAdd, Nat.reduceSub, Nat.reduceLT, Nat.reduceLeDiff, Nat.reduceMul, Nat.reduceEqDiff, reduceCtorEq, Int.reduceLE, Int.reduceLT, Int.reduceEq, Int.reduceNe, Int.reduceBEq, Int.reduceBNe, Int.reduceAdd, Int.reduceSub, hlen, d1, d1', d2, d3, d4, hget, w0]
            subst h2
            exact Fini.ret rfl
          · rw [if_neg (by omega)] at h2
            rw [decide_eq_false hb] at d4
            have a1 : IntKind.i64.wrap ((n : Int) + 1) = ((n + 1 : Nat) : Int) := wrap_nat (by omega)
            have a2 : IntKind.i64.wrap (((n + 1 : Nat) : Int) + (nm.size : Nat)) = ((n + 1 + nm.size : Nat) : Int) := by rw [wrapN (by omega) (by omega)]; omega
            have a3 : IntKind.i64.wrap (((n + 1 + nm.size : Nat) : Int) + (v.size : Nat)) = ((n + 1 + nm.size + v.size : Nat) : Int) := by rw [wrapN (by omega) (by omega)]; omega
            have a4 : IntKind.i64.wrap ((i : Int) + 1) = ((i + 1 : Nat) : Int) := wrap_nat (by omega)
            simp -implicitDefEqProofs only [mkE, List.foldl_cons, List.foldl_nil, go_sem, List.reduceReplicate, Nat.reduceAdd, Nat.reduceSub, Nat.reduceLT, Nat.reduceLeDiff, Nat.reduceMul, Nat.reduceEqDiff, reduceCtorEq, Int.reduceLE, Int.reduceLT, Int.reduceEq, Int.reduceNe, Int.reduceBEq, Int.reduceBNe, Int.reduceAdd, Int.reduceSub, hlen, d1, d1', d2, d3, d4, hget, a1, a2, a3, a4]
            exact hJ' ⟨(i + 1, n + 1 + nm.size + v.size), by omega, h2, by omega, by simp only; omega⟩ (by simp only; omega)
      · rw [if_neg hn] at h2
        rw [decide_eq_false hn] at d2
        have w0 : IntKind.i64.wrap (300 + 1) = 301 := by decide
        simp -implicitDefEqProofs only [mkE, List.foldl_cons, List.foldl_nil, go_sem, List.reduceReplicate, Nat.reduceAdd, Nat.reduceSub, Nat.reduceLT, Nat.reduceLeDiff, Nat.reduceMul, Nat.reduceEqDiff, reduceCtorEq, Int.reduceLE, Int.reduceLT, Int.reduceEq, Int.reduceNe, Int.reduceBEq, Int.reduceBNe, Int.reduceAdd, Int.reduceSub, hlen, d1, d1', d2, hget, w0]
        refine Fini.ret' rfl (int_congr ?_)
        rw [show IntKind.i64.wrap 301 = 301 by decide]
        split <;> omega
    · have d1 : decide ((i : Int) < L.length) = false := by simp; omega
      have d1' : ((i : Int) < L.length) = False := by simp; omega
      have w0 : IntKind.i64.wrap (300 + 1) = 301 := by decide
      simp -implicitDefEqProofs only [mkE, List.foldl_cons, List.foldl_nil, go_sem, List.reduceReplicate, Nat.reduceAdd, Nat.reduceSub, Nat.reduceLT, Nat.reduceLeDiff, Nat.reduceMul, Nat.reduceEqDiff, reduceCtorEq, Int.reduceLE, Int.reduceLT, Int.reduceEq, Int.reduceNe, Int.reduceBEq, Int.reduceBNe, Int.reduceAdd, Int.reduceSub, hlen, d1, d1', w0]
      refine Fini.ret' rfl (int_congr ?_)
      have he : L.drop i = [] := List.drop_eq_nil_iff.2 (by omega)
      rw [he, List.map_nil, weighL] at h2
      rw [show IntKind.i64.wrap 301 = 301 by decide]
      split <;> omega
  · rfl
theorem weigh_mats_ans (σ : St) (L : List Mtr) : Ans Try.prog 46 [.sl 3 (mvs3 L), I 300] σ (I (weighL (L.map matP) 0 : Nat)) σ := by
  refine Ans.of_run t46 ?_
  have hlen : ((mvs3 L)).length = L.length := by simp [mvs3]
  simp -implicitDefEqProofs only [c46, r46, go_sem, List.reduceReplicate, Nat.reduceAdd, Nat.reduceSub, Nat.reduceLT, Nat.reduceLeDiff, Nat.reduceMul, Nat.reduceEqDiff, reduceCtorEq, Int.reduceLE, Int.reduceLT, Int.reduceEq, Int.reduceNe, Int.reduceBEq, Int.reduceBNe, Int.reduceAdd, Int.reduceSub]
  generalize hres : weighL (L.map matP) 0 = res
  refine Go.Ab.L.intro (α := { x : Nat × Nat // x.1 ≤ L.length ∧ weighL ((L.drop x.1).map matP) x.2 = res ∧ x.2 ≤ 1000 ∧ x.1 ≤ x.2 })
    (fun x => L.length - x.1.1)
    (fun x => mkE 58 [(0, .sl 3 (mvs3 L)), (1, I 300), (5, I x.1.2), (6, I x.1.1)])
    (fun x => σ)
    (fun x J hJ => ?_) ⟨(0, 0), Nat.zero_le _, hres, by omega, Nat.le_refl _⟩ ?_ rfl
  · obtain ⟨⟨i, n⟩, h1, h2, h3, h4⟩ := x
    simp only at h1 h2 h3 hJ ⊢
    have d2 : decide ((n : Int) ≤ 300) = decide (n ≤ 300) := int_le n 300
    by_cases hi : i < L.length
    · have d1 : decide ((i : Int) < L.length) = true := by simp; omega
      have d1' : ((i : Int) < L.length) = True := by simp; omega
      have hget : ((mvs3 L))[i]? = some (mv3 L[i]) := by simp [mvs3, hi]
      rw [List.drop_eq_getElem_cons hi, List.map_cons] at h2
      have hJ' := hJ
      generalize L[i] = y at h2 hget
      obtain ⟨k, nm, v⟩ := y
      simp only [mv3] at hget
      simp only [matP] at h2
      rw [weighL] at h2
      by_cases hn : n ≤ 300
      · rw [if_pos hn] at h2
        have e2 : decide (n ≤ 300) = true := by simpa using hn
        rw [e2] at d2
        have d3 : decide ((300 : Int) < nm.size) = decide (300 < nm.size) := decN 300 _
        have d4 : decide ((300 : Int) < v.size) = decide (300 < v.size) := decN 300 _
        have w0 : IntKind.i64.wrap (300 + 1) = 301 := by decide
        by_cases ha : 300 < nm.size
        · rw [if_pos (.inl ha)] at h2
          rw [decide_eq_true ha] at d3
          simp -implicitDefEqProofs only [mkE, List.foldl_cons, List.foldl_nil, go_sem, List.reduceReplicate, Nat.reduceAdd, Nat.reduceSub, Nat.reduceLT, Nat.reduceLeDiff, Nat.reduceMul, Nat.reduceEqDiff, reduceCtorEq, Int.reduceLE, Int.reduceLT, Int.reduceEq, Int.reduceNe, Int.reduceBEq, Int.reduceBNe, Int.reduceAdd, Int.reduceSub, hlen, d1, d1', d2, d3, hget, w0]
          subst h2
          exact Fini.ret rfl
        · rw [decide_eq_false ha] at d3
          by_cases hb : 300 < v.size
          · rw [if_pos (.inr hb)] at h2
            rw [decide_eq_true hb] at d4
            simp -implicitDefEqProofs only [mkE, List.foldl_cons, List.foldl_nil, go_sem, List.reduceReplicate, Nat.reduceAdd, Nat.reduceSub, Nat.reduceLT, Nat.reduceLeDiff, Nat.reduceMul, Nat.reduceEqDiff, reduceCtorEq, Int.reduceLE, Int.reduceLT, Int.reduceEq, Int.reduceNe, Int.reduceBEq, Int.reduceBNe, Int.reduceAdd, Int.reduceSub, hlen, d1, d1', d2, d3, d4, hget, w0]
            subst h2
            exact Fini.ret rfl
          · rw [if_neg (by omega)] at h2
            rw [decide_eq_false hb] at d4
            have a1 : IntKind.i64.wrap ((n : Int) + 1) = ((n + 1 : Nat) : Int) := wrap_nat (by omega)
            have a2 : IntKind.i64.wrap (((n + 1 : Nat) : Int) + (nm.size : Nat)) = ((n + 1 + nm.size : Nat) : Int) := by rw [wrapN (by omega) (by omega)]; omega
            have a3 : IntKind.i64.wrap (((n + 1 + nm.size : Nat) : Int) + (v.size : Nat)) = ((n + 1 + nm.size + v.size : Nat) : Int) := by rw [wrapN (by omega) (by omega)]; omega
            have a4 : IntKind.i64.wrap ((i : Int) + 1) = ((i + 1 : Nat) : Int) := wrap_nat (by omega)
            simp -implicitDefEqProofs only [mkE, List.foldl_cons, List.foldl_nil, go_sem, List.reduceReplicate, Nat.reduceAdd, Nat.reduceSub, Nat.reduceLT, Nat.reduceLeDiff, Nat.reduceMul, Nat.reduceEqDiff, reduceCtorEq, Int.reduceLE, Int.reduceLT, Int.reduceEq, Int.reduceNe, Int.reduceBEq, Int.reduceBNe, Int.reduceAdd, Int.reduceSub, hlen, d1, d1', d2, d3, d4, hget, a1, a2, a3, a4]
            exact hJ' ⟨(i + 1, n + 1 + nm.size + v.size), by omega, h2, by omega, by simp only; omega⟩ (by simp only; omega)
      · rw [if_neg hn] at h2
        rw [decide_eq_false hn] at d2
        have w0 : IntKind.i64.wrap (300 + 1) = 301 := by decide
        simp -implicitDefEqProofs only [mkE, List.foldl_cons, List.foldl_nil, go_sem, List.reduceReplicate, Nat.reduceAdd, Nat.reduceSub, Nat.reduceLT, Nat.reduceLeDiff, Nat.reduceMul, Nat.reduceEqDiff, reduceCtorEq, Int.reduceLE, Int.reduceLT, Int.reduceEq, Int.reduceNe, Int.reduceBEq, Int.reduceBNe, Int.reduceAdd, Int.reduceSub, hlen, d1, d1', d2, hget, w0]
        refine Fini.ret' rfl (int_congr ?_)
        rw [show IntKind.i64.wrap 301 = 301 by decide]
        split <;> omega
    · have d1 : decide ((i : Int) < L.length) = false := by simp; omega
      have d1' : ((i : Int) < L.length) = False := by simp; omega
      have w0 : IntKind.i64.wrap (300 + 1) = 301 := by decide
      simp -implicitDefEqProofs only [mkE, List.foldl_cons, List.foldl_nil, go_sem, List.reduceReplicate, Nat.reduceAdd, Nat.reduceSub, Nat.reduceLT, Nat.reduceLeDiff, Nat.reduceMul, Nat.reduceEqDiff, reduceCtorEq, Int.reduceLE, Int.reduceLT, Int.reduceEq, Int.reduceNe, Int.reduceBEq, Int.reduceBNe, Int.reduceAdd, Int.reduceSub, hlen, d1, d1', w0]
      refine Fini.ret' rfl (int_congr ?_)
      have he : L.drop i = [] := List.drop_eq_nil_iff.2 (by omega)
      rw [he, List.map_nil, weighL] at h2
      rw [show IntKind.i64.wrap 301 = 301 by decide]
      split <;> omega
  · rfl
def smallB (M : List Mtr) (L : List Lab) : Bool := decide (weighL (M.map matP) 0 ≤ 300) && decide (weighL (L.map labP) 0 ≤ 300)
theorem small_ans (σ : St) (M : List Mtr) (L : List Lab) : Ans Try.prog 13 [.sl 3 (mvs3 M), .sl 2 (lvs L)] σ (Bo (smallB M L)) σ := by
  refine Ans.of_run t13 ?_
  unfold smallB
  simp -implicitDefEqProofs only [c13, r13, go_sem, List.reduceReplicate, Nat.reduceAdd, Nat.reduceSub, Nat.reduceLT, Nat.reduceLeDiff, Nat.reduceMul, Nat.reduceEqDiff, reduceCtorEq, Int.reduceLE, Int.reduceLT, Int.reduceEq, Int.reduceNe, Int.reduceBEq, Int.reduceBNe, Int.reduceAdd, Int.reduceSub]
  refine CO.intro (weigh_mats_ans σ M) ?_
  have e1 : decide (((weighL (M.map matP) 0 : Nat) : Int) ≤ 300) = decide (weighL (M.map matP) 0 ≤ 300) := int_le _ 300
  have e2 : decide (((weighL (L.map labP) 0 : Nat) : Int) ≤ 300) = decide (weighL (L.map labP) 0 ≤ 300) := int_le _ 300
  cases h1 : decide (weighL (M.map matP) 0 ≤ 300) with
  | false =>
    rw [h1] at e1
    simp -implicitDefEqProofs only [go_sem, List.reduceReplicate, Nat.reduceAdd, Nat.reduceSub, Nat.reduceLT, Nat.reduceLeDiff, Nat.reduceMul, Nat.reduceEqDiff, reduceCtorEq, Int.reduceLE, Int.reduceLT, Int.reduceEq, Int.reduceNe, Int.reduceBEq, Int.reduceBNe, Int.reduceAdd, Int.reduceSub, e1]
    exact Fini.ret rfl
  | true =>
    rw [h1] at e1
    simp -implicitDefEqProofs only [go_sem, List.reduceReplicate, Nat.reduceAdd, Nat.reduceSub, Nat.reduceLT, Nat.reduceLeDiff, Nat.reduceMul, Nat.reduceEqDiff, reduceCtorEq, Int.reduceLE, Int.reduceLT, Int.reduceEq, Int.reduceNe, Int.reduceBEq, Int.reduceBNe, Int.reduceAdd, Int.reduceSub, e1]
    refine CO.intro (weigh_labs_ans σ L) ?_
    simp -implicitDefEqProofs only [go_sem, List.reduceReplicate, Nat.reduceAdd, Nat.reduceSub, Nat.reduceLT, Nat.reduceLeDiff, Nat.reduceMul, Nat.reduceEqDiff, reduceCtorEq, Int.reduceLE, Int.reduceLT, Int.reduceEq, Int.reduceNe, Int.reduceBEq, Int.reduceBNe, Int.reduceAdd, Int.reduceSub, e2]
    exact Fini.ret rfl
end Go.Proofs.Ytoadgajhkhejiaa
namespace Go.Proofs.Ytoadgajhkhejiaa
open Go Go.Ab
def cmpL : List UInt8 → List UInt8 → Int
  | [], [] => 0
  | [], _ :: _ => -1
  | _ :: _, [] => 1
  | a :: x, b :: y => if a != b then (if a < b then -1 else 1) else cmpL x y
def cmpI2 (x y : List UInt8) : Int := match (List.range (min x.length y.length)).find? fun i => x.getD i 0 != y.getD i 0 with
  | some i => if x.getD i 0 < y.getD i 0 then -1 else 1
  | none => if x.length < y.length then -1 else if x.length > y.length then 1 else 0
theorem cmpI2_eq : ∀ x y : List UInt8, cmpI2 x y = cmpL x y
  | [], [] => rfl
  | [], b :: y => by simp [cmpI2, cmpL]
  | a :: x, [] => by simp [cmpI2, cmpL]
  | a :: x, b :: y => by
    rw [cmpL, ← cmpI2_eq x y]
    unfold cmpI2
    rw [List.length_cons, List.length_cons, Nat.succ_min_succ, List.range_succ_eq_map, List.find?_cons]
    simp only [List.getD_cons_zero]
    cases h : (a != b) with
    | true => simp
    | false =>
      simp only [Bool.false_eq_true, if_false]
      rw [List.find?_map]
      simp only [Function.comp_def, List.getD_cons_succ]
      cases (List.range (min x.length y.length)).find? fun i => x.getD i 0 != y.getD i 0 with
      | none => simp
      | some i => simp
theorem cmpL_less : ∀ x y : List UInt8, cmpL x y = if x == y then 0 else if Op.bytesLess x y then -1 else 1
  | [], [] => rfl
  | [], b :: y => by simp [cmpL, Op.bytesLess]
  | a :: x, [] => by simp [cmpL, Op.bytesLess]
  | a :: x, b :: y => by
    rw [cmpL, cmpL_less x y, Op.bytesLess]
    by_cases h : a = b
    · subst h
      have : ¬ a < a := by simp
      simp [this]
    · by_cases hl : a < b
      · simp [h, hl]
      · simp [h, hl]
theorem cmp_data (a b : ByteArray) : Extern.BytealgCompare.cmp a b = cmpL a.data.toList b.data.toList := by
  rw [← cmpI2_eq]
  unfold Extern.BytealgCompare.cmp cmpI2
  have hg : ∀ (a : ByteArray) (i : Nat), a[i]! = a.data.toList.getD i 0 := fun a i => by
    rw [List.getD_eq_getElem?_getD, Array.getElem?_toList, getElem!_def]
    by_cases h : i < a.size
    · have h1 : a[i]? = some a[i] := by rw [getElem?_pos]
      have h2 : a.data[i]? = some a[i] := Array.getElem?_eq_getElem h
      rw [h1, h2]; rfl
    · have h1 : a[i]? = none := by rw [getElem?_neg]; exact h
      have h2 : a.data[i]? = none := Array.getElem?_eq_none (by simpa using h)
      rw [h1, h2]; rfl
  simp only [hg]
  rfl
end Go.Proofs.Ytoadgajhkhejiaa
namespace Go.Proofs.Ytoadgajhkhejiaa
open Go Go.Ab
set_option maxRecDepth 100000
def cmpS (a b : ByteArray) : Int := Extern.BytealgCompare.cmp a b
def cmpI (a b : Int) : Int := if a < b then -1 else if b < a then 1 else 0
def or3 (a b c : Int) : Int := if a != 0 then a else if b != 0 then b else c
def cmp3 (x y : Mtr) : Int := or3 (cmpS x.2.1 y.2.1) (cmpI x.1 y.1) (cmpS x.2.2 y.2.2)
section
variable (σ : St)
theorem strcmp_ans (a b : ByteArray) : Ans Try.prog 102 [Sx a, Sx b] σ (I (cmpS a b)) σ := by
  have h139 : Ans Try.prog 139 [Sx a, Sx b] σ (I (cmpS a b)) σ := cmp_ok _ _ _ _ rfl
  have h123 : Ans Try.prog 123 [Sx a, Sx b] σ (I (cmpS a b)) σ := by
    refine Ans.of_run t123 ?_
    simp -implicitDefEqProofs only [c123, r123, go_sem, List.reduceReplicate, Nat.reduceAdd, Nat.reduceSub, Nat.reduceLT, Nat.reduceLeDiff, Nat.reduceMul, Nat.reduceEqDiff, reduceCtorEq, Int.reduceLE, Int.reduceLT, Int.reduceEq, Int.reduceNe, Int.reduceBEq, Int.reduceBNe, Int.reduceAdd, Int.reduceSub]
    refine CO.intro h139 ?_
    simp -implicitDefEqProofs only [go_sem, List.reduceReplicate, Nat.reduceAdd, Nat.reduceSub, Nat.reduceLT, Nat.reduceLeDiff, Nat.reduceMul, Nat.reduceEqDiff, reduceCtorEq, Int.reduceLE, Int.reduceLT, Int.reduceEq, Int.reduceNe, Int.reduceBEq, Int.reduceBNe, Int.reduceAdd, Int.reduceSub]
    exact Fini.ret rfl
  refine Ans.of_run t102 ?_
  simp -implicitDefEqProofs only [c102, r102, go_sem, List.reduceReplicate, Nat.reduceAdd, Nat.reduceSub, Nat.reduceLT, Nat.reduceLeDiff, Nat.reduceMul, Nat.reduceEqDiff, reduceCtorEq, Int.reduceLE, Int.reduceLT, Int.reduceEq, Int.reduceNe, Int.reduceBEq, Int.reduceBNe, Int.reduceAdd, Int.reduceSub]
  refine CO.intro h123 ?_
  simp -implicitDefEqProofs only [go_sem, List.reduceReplicate, Nat.reduceAdd, Nat.reduceSub, Nat.reduceLT, Nat.reduceLeDiff, Nat.reduceMul, Nat.reduceEqDiff, reduceCtorEq, Int.reduceLE, Int.reduceLT, Int.reduceEq, Int.reduceNe, Int.reduceBEq, Int.reduceBNe, Int.reduceAdd, Int.reduceSub]
  exact Fini.ret rfl
theorem nan_ans (a : Int) : Ans Try.prog 124 [I a] σ (Bo false) σ := by
  have h : (a != a) = false := by simp
  refine Ans.of_run t124 ?_
  simp -implicitDefEqProofs only [c124, r124, go_sem, List.reduceReplicate, Nat.reduceAdd, Nat.reduceSub, Nat.reduceLT, Nat.reduceLeDiff, Nat.reduceMul, Nat.reduceEqDiff, reduceCtorEq, Int.reduceLE, Int.reduceLT, Int.reduceEq, Int.reduceNe, Int.reduceBEq, Int.reduceBNe, Int.reduceAdd, Int.reduceSub, h]
  exact Fini.ret rfl
theorem intcmp_ans (a b : Int) : Ans Try.prog 103 [I a, I b] σ (I (cmpI a b)) σ := by
  unfold cmpI
  refine Ans.of_run t103 ?_
  simp -implicitDefEqProofs only [c103, r103, go_sem, List.reduceReplicate, Nat.reduceAdd, Nat.reduceSub, Nat.reduceLT, Nat.reduceLeDiff, Nat.reduceMul, Nat.reduceEqDiff, reduceCtorEq, Int.reduceLE, Int.reduceLT, Int.reduceEq, Int.reduceNe, Int.reduceBEq, Int.reduceBNe, Int.reduceAdd, Int.reduceSub]
  refine CO.intro (nan_ans σ a) ?_
  simp -implicitDefEqProofs only [go_sem, List.reduceReplicate, Nat.reduceAdd, Nat.reduceSub, Nat.reduceLT, Nat.reduceLeDiff, Nat.reduceMul, Nat.reduceEqDiff, reduceCtorEq, Int.reduceLE, Int.reduceLT, Int.reduceEq, Int.reduceNe, Int.reduceBEq, Int.reduceBNe, Int.reduceAdd, Int.reduceSub]
  refine CO.intro (nan_ans σ b) ?_
  simp -implicitDefEqProofs only [go_sem, List.reduceReplicate, Nat.reduceAdd, Nat.reduceSub, Nat.reduceLT, Nat.reduceLeDiff, Nat.reduceMul, Nat.reduceEqDiff, reduceCtorEq, Int.reduceLE, Int.reduceLT, Int.reduceEq, Int.reduceNe, Int.reduceBEq, Int.reduceBNe, Int.reduceAdd, Int.reduceSub]
  by_cases h1 : a < b
  · have h1' : decide (a < b) = true := by simpa using h1
    simp -implicitDefEqProofs only [go_sem, List.reduceReplicate, Nat.reduceAdd, Nat.reduceSub, Nat.reduceLT, Nat.reduceLeDiff, Nat.reduceMul, Nat.reduceEqDiff, reduceCtorEq, Int.reduceLE, Int.reduceLT, Int.reduceEq, Int.reduceNe, Int.reduceBEq, Int.reduceBNe, Int.reduceAdd, Int.reduceSub, h1']
    rw [if_pos h1]
    exact Fini.ret rfl
  · have h1' : decide (a < b) = false := by simpa using h1
    simp -implicitDefEqProofs only [go_sem, List.reduceReplicate, Nat.reduceAdd, Nat.reduceSub, Nat.reduceLT, Nat.reduceLeDiff, Nat.reduceMul, Nat.reduceEqDiff, reduceCtorEq, Int.reduceLE, Int.reduceLT, Int.reduceEq, Int.reduceNe, Int.reduceBEq, Int.reduceBNe, Int.reduceAdd, Int.reduceSub, h1']
    rw [if_neg h1]
    by_cases h2 : b < a
    · have h2' : decide (b < a) = true := by simpa using h2
      simp -implicitDefEqProofs only [go_sem, List.reduceReplicate, Nat.reduceAdd, Nat.reduceSub, Nat.reduceLT, Nat.reduceLeDiff, Nat.reduceMul, Nat.reduceEqDiff, reduceCtorEq, Int.reduceLE, Int.reduceLT, Int.reduceEq, Int.reduceNe, Int.reduceBEq, Int.reduceBNe, Int.reduceAdd, Int.reduceSub, h2']
      rw [if_pos h2]
      exact Fini.ret rfl
    · have h2' : decide (b < a) = false := by simpa using h2
      simp -implicitDefEqProofs only [go_sem, List.reduceReplicate, Nat.reduceAdd, Nat.reduceSub, Nat.reduceLT, Nat.reduceLeDiff, Nat.reduceMul, Nat.reduceEqDiff, reduceCtorEq, Int.reduceLE, Int.reduceLT, Int.reduceEq, Int.reduceNe, Int.reduceBEq, Int.reduceBNe, Int.reduceAdd, Int.reduceSub, h2']
      rw [if_neg h2]
      exact Fini.ret rfl
def orF (a b c : Int) : Nat → Int
  | 0 => or3 a b c
  | 1 => if b != 0 then b else c
  | 2 => c
  | _ => 0
theorem or_ans (a b c : Int) : Ans Try.prog 101 [.sl 1 [I a, I b, I c]] σ (I (or3 a b c)) σ := by
  refine Ans.of_run t101 ?_
  simp -implicitDefEqProofs only [c101, r101, go_sem, List.reduceReplicate, Nat.reduceAdd, Nat.reduceSub, Nat.reduceLT, Nat.reduceLeDiff, Nat.reduceMul, Nat.reduceEqDiff, reduceCtorEq, Int.reduceLE, Int.reduceLT, Int.reduceEq, Int.reduceNe, Int.reduceBEq, Int.reduceBNe, Int.reduceAdd, Int.reduceSub]
  generalize hres : or3 a b c = res
  refine Go.Ab.L.intro (α := { i : Nat // i ≤ 3 ∧ orF a b c i = res }) (fun x => 3 - x.1)
    (fun x => mkE 18 [(3, I 0), (6, .sl 1 [I a, I b, I c]), (7, I ((3 : Nat) : Int)), (8, I x.1)]) (fun _ => σ) (fun x J hJ => ?_) ⟨0, Nat.zero_le _, hres⟩ rfl rfl
  obtain ⟨i, hi, hg⟩ := x
  simp only at hJ ⊢
  have i4 : i = 0 ∨ i = 1 ∨ i = 2 ∨ i = 3 := by omega
  have w0 : IntKind.i64.wrap (((0 : Nat) : Int) + 1) = ((1 : Nat) : Int) := by decide
  have w1 : IntKind.i64.wrap (((1 : Nat) : Int) + 1) = ((2 : Nat) : Int) := by decide
  have w2 : IntKind.i64.wrap (((2 : Nat) : Int) + 1) = ((3 : Nat) : Int) := by decide
  rcases i4 with rfl | rfl | rfl | rfl
  · have d1 : decide (((0 : Nat) : Int) < ((3 : Nat) : Int)) = true := by decide
    have d2 : (((0 : Nat) : Int) < ((3 : Nat) : Int)) = True := by simp
    simp only [orF, or3] at hg
    simp -implicitDefEqProofs only [mkE, List.foldl_cons, List.foldl_nil, go_sem, List.reduceReplicate, Nat.reduceAdd, Nat.reduceSub, Nat.reduceLT, Nat.reduceLeDiff, Nat.reduceMul, Nat.reduceEqDiff, reduceCtorEq, Int.reduceLE, Int.reduceLT, Int.reduceEq, Int.reduceNe, Int.reduceBEq, Int.reduceBNe, Int.reduceAdd, Int.reduceSub, d1, d2]
    cases h : a != 0
    · rw [h, if_neg Bool.false_ne_true] at hg
      have hJ' := hJ ⟨1, by omega, hg⟩ (by simp only; omega)
      simp only at hJ'
      simp -implicitDefEqProofs only [go_sem, List.reduceReplicate, Nat.reduceAdd, Nat.reduceSub, Nat.reduceLT, Nat.reduceLeDiff, Nat.reduceMul, Nat.reduceEqDiff, reduceCtorEq, Int.reduceLE, Int.reduceLT, Int.reduceEq, Int.reduceNe, Int.reduceBEq, Int.reduceBNe, Int.reduceAdd, Int.reduceSub, w0]
      exact hJ'
    · rw [h, if_pos rfl] at hg
      simp -implicitDefEqProofs only [go_sem, List.reduceReplicate, Nat.reduceAdd, Nat.reduceSub, Nat.reduceLT, Nat.reduceLeDiff, Nat.reduceMul, Nat.reduceEqDiff, reduceCtorEq, Int.reduceLE, Int.reduceLT, Int.reduceEq, Int.reduceNe, Int.reduceBEq, Int.reduceBNe, Int.reduceAdd, Int.reduceSub]
      rw [← hg]
      exact Fini.ret rfl
  · have d1 : decide (((1 : Nat) : Int) < ((3 : Nat) : Int)) = true := by decide
    have d2 : (((1 : Nat) : Int) < ((3 : Nat) : Int)) = True := by simp
    simp only [orF] at hg
    simp -implicitDefEqProofs only [mkE, List.foldl_cons, List.foldl_nil, go_sem, List.reduceReplicate, Nat.reduceAdd, Nat.reduceSub, Nat.reduceLT, Nat.reduceLeDiff, Nat.reduceMul, Nat.reduceEqDiff, reduceCtorEq, Int.reduceLE, Int.reduceLT, Int.reduceEq, Int.reduceNe, Int.reduceBEq, Int.reduceBNe, Int.reduceAdd, Int.reduceSub, d1, d2]
    cases h : b != 0
    · rw [h, if_neg Bool.false_ne_true] at hg
      have hJ' := hJ ⟨2, by omega, hg⟩ (by simp only; omega)
      simp only at hJ'
      simp -implicitDefEqProofs only [go_sem, List.reduceReplicate, Nat.reduceAdd, Nat.reduceSub, Nat.reduceLT, Nat.reduceLeDiff, Nat.reduceMul, Nat.reduceEqDiff, reduceCtorEq, Int.reduceLE, Int.reduceLT, Int.reduceEq, Int.reduceNe, Int.reduceBEq, Int.reduceBNe, Int.reduceAdd, Int.reduceSub, w1]
      exact hJ'
    · rw [h, if_pos rfl] at hg
      simp -implicitDefEqProofs only [go_sem, List.reduceReplicate, Nat.reduceAdd, Nat.reduceSub, Nat.reduceLT, Nat.reduceLeDiff, Nat.reduceMul, Nat.reduceEqDiff, reduceCtorEq, Int.reduceLE, Int.reduceLT, Int.reduceEq, Int.reduceNe, Int.reduceBEq, Int.reduceBNe, Int.reduceAdd, Int.reduceSub]
      rw [← hg]
      exact Fini.ret rfl
  · have d1 : decide (((2 : Nat) : Int) < ((3 : Nat) : Int)) = true := by decide
    have d2 : (((2 : Nat) : Int) < ((3 : Nat) : Int)) = True := by simp
    simp only [orF] at hg
    simp -implicitDefEqProofs only [mkE, List.foldl_cons, List.foldl_nil, go_sem, List.reduceReplicate, Nat.reduceAdd, Nat.reduceSub, Nat.reduceLT, Nat.reduceLeDiff, Nat.reduceMul, Nat.reduceEqDiff, reduceCtorEq, Int.reduceLE, Int.reduceLT, Int.reduceEq, Int.reduceNe, Int.reduceBEq, Int.reduceBNe, Int.reduceAdd, Int.reduceSub, d1, d2]
    cases h : c != 0
    · have hc : c = 0 := by simpa using h
      have hJ' := hJ ⟨3, by omega, by rw [← hg, hc]; rfl⟩ (by simp only; omega)
      simp only at hJ'
      simp -implicitDefEqProofs only [go_sem, List.reduceReplicate, Nat.reduceAdd, Nat.reduceSub, Nat.reduceLT, Nat.reduceLeDiff, Nat.reduceMul, Nat.reduceEqDiff, reduceCtorEq, Int.reduceLE, Int.reduceLT, Int.reduceEq, Int.reduceNe, Int.reduceBEq, Int.reduceBNe, Int.reduceAdd, Int.reduceSub, w2]
      exact hJ'
    · simp -implicitDefEqProofs only [go_sem, List.reduceReplicate, Nat.reduceAdd, Nat.reduceSub, Nat.reduceLT, Nat.reduceLeDiff, Nat.reduceMul, Nat.reduceEqDiff, reduceCtorEq, Int.reduceLE, Int.reduceLT, Int.reduceEq, Int.reduceNe, Int.reduceBEq, Int.reduceBNe, Int.reduceAdd, Int.reduceSub]
      rw [← hg]
      exact Fini.ret rfl
  · have d1 : decide (((3 : Nat) : Int) < ((3 : Nat) : Int)) = false := by decide
    have d2 : (((3 : Nat) : Int) < ((3 : Nat) : Int)) = False := by simp
    simp only [orF] at hg
    simp -implicitDefEqProofs only [mkE, List.foldl_cons, List.foldl_nil, go_sem, List.reduceReplicate, Nat.reduceAdd, Nat.reduceSub, Nat.reduceLT, Nat.reduceLeDiff, Nat.reduceMul, Nat.reduceEqDiff, reduceCtorEq, Int.reduceLE, Int.reduceLT, Int.reduceEq, Int.reduceNe, Int.reduceBEq, Int.reduceBNe, Int.reduceAdd, Int.reduceSub, d1, d2]
    rw [← hg]
    exact Fini.ret rfl
theorem compare_ans (x y : Mtr) : Ans Try.prog 66 [mv3 x, mv3 y] σ (I (cmp3 x y)) σ := by
  have h1 := fun s => strcmp_ans s x.2.1 y.2.1
  have h2 := fun s => intcmp_ans s x.1 y.1
  have h3 := fun s => strcmp_ans s x.2.2 y.2.2
  have h4 := fun s => or_ans s (cmpS x.2.1 y.2.1) (cmpI x.1 y.1) (cmpS x.2.2 y.2.2)
  unfold cmp3
  refine Ans.of_run t66 ?_
  simp -implicitDefEqProofs only [c66, r66, go_sem, List.reduceReplicate, Nat.reduceAdd, Nat.reduceSub, Nat.reduceLT, Nat.reduceLeDiff, Nat.reduceMul, Nat.reduceEqDiff, reduceCtorEq, Int.reduceLE, Int.reduceLT, Int.reduceEq, Int.reduceNe, Int.reduceBEq, Int.reduceBNe, Int.reduceAdd, Int.reduceSub, D_callS, mv3]
  first | refine CD.intro (h1 _) ?_ | refine CS.intro h1 ?_
  simp -implicitDefEqProofs only [go_sem, List.reduceReplicate, Nat.reduceAdd, Nat.reduceSub, Nat.reduceLT, Nat.reduceLeDiff, Nat.reduceMul, Nat.reduceEqDiff, reduceCtorEq, Int.reduceLE, Int.reduceLT, Int.reduceEq, Int.reduceNe, Int.reduceBEq, Int.reduceBNe, Int.reduceAdd, Int.reduceSub, D_callS]
  first | refine CD.intro (h2 _) ?_ | refine CS.intro h2 ?_
  simp -implicitDefEqProofs only [go_sem, List.reduceReplicate, Nat.reduceAdd, Nat.reduceSub, Nat.reduceLT, Nat.reduceLeDiff, Nat.reduceMul, Nat.reduceEqDiff, reduceCtorEq, Int.reduceLE, Int.reduceLT, Int.reduceEq, Int.reduceNe, Int.reduceBEq, Int.reduceBNe, Int.reduceAdd, Int.reduceSub, D_callS]
  first | refine CD.intro (h3 _) ?_ | refine CS.intro h3 ?_
  simp -implicitDefEqProofs only [go_sem, List.reduceReplicate, Nat.reduceAdd, Nat.reduceSub, Nat.reduceLT, Nat.reduceLeDiff, Nat.reduceMul, Nat.reduceEqDiff, reduceCtorEq, Int.reduceLE, Int.reduceLT, Int.reduceEq, Int.reduceNe, Int.reduceBEq, Int.reduceBNe, Int.reduceAdd, Int.reduceSub, D_callS]
  first | refine CD.intro (h4 _) ?_ | refine CS.intro h4 ?_
  simp -implicitDefEqProofs only [go_sem, List.reduceReplicate, Nat.reduceAdd, Nat.reduceSub, Nat.reduceLT, Nat.reduceLeDiff, Nat.reduceMul, Nat.reduceEqDiff, reduceCtorEq, Int.reduceLE, Int.reduceLT, Int.reduceEq, Int.reduceNe, Int.reduceBEq, Int.reduceBNe, Int.reduceAdd, Int.reduceSub]
  exact Fini.ret rfl
end
theorem cmpS_eq (a b : ByteArray) : cmpS a b = (if a.toList == b.toList then 0 else if Op.bytesLess a.toList b.toList then -1 else 1) := by
  rw [cmpS, cmp_data, cmpL_less, ByteArray.toList_eq, ByteArray.toList_eq]
def aheadD (x y : Mtr) : Bool :=
  if !(x.2.1.toList == y.2.1.toList) then Op.bytesLess x.2.1.toList y.2.1.toList
  else if !(x.1 == y.1) then decide (x.1 < y.1)
  else Op.bytesLess x.2.2.toList y.2.2.toList
theorem less_irrefl : ∀ x : List UInt8, Op.bytesLess x x = false
  | [] => rfl
  | a :: x => by rw [Op.bytesLess, less_irrefl x]; simp
theorem cmp3_aheadD (x y : Mtr) : decide (0 ≤ cmp3 x y) = !aheadD x y := by
  unfold cmp3 or3 aheadD
  rw [cmpS_eq, cmpS_eq]
  cases h1 : (x.2.1.toList == y.2.1.toList) with
  | false =>
    cases h2 : Op.bytesLess x.2.1.toList y.2.1.toList <;> simp
  | true =>
    simp only [Bool.not_true, Bool.false_eq_true, if_false, if_true]
    unfold cmpI
    by_cases h3 : x.1 < y.1
    · have : (x.1 == y.1) = false := by simp; omega
      simp [h3, this]
    · by_cases h4 : y.1 < x.1
      · have : (x.1 == y.1) = false := by simp; omega
        simp [h3, h4, this]
      · have h5 : (x.1 == y.1) = true := by simp; omega
        simp only [h3, h4, h5, if_false, Bool.not_true, Bool.false_eq_true]
        cases h6 : (x.2.2.toList == y.2.2.toList) with
        | true =>
          have : x.2.2.toList = y.2.2.toList := by simpa using h6
          rw [this, less_irrefl]; rfl
        | false => cases h7 : Op.bytesLess x.2.2.toList y.2.2.toList <;> simp
end Go.Proofs.Ytoadgajhkhejiaa
namespace Go.Proofs.Ytoadgajhkhejiaa
open Go Go.Ab
set_option maxRecDepth 100000
theorem before_ans (σ : St) (x y : Mtr) : Ans Try.prog 69 [mv3 x, mv3 y] σ (Bo (aheadD x y)) σ := by
  refine Ans.of_run t69 ?_
  unfold aheadD
  simp -implicitDefEqProofs only [c69, r69, go_sem, List.reduceReplicate, Nat.reduceAdd, Nat.reduceSub, Nat.reduceLT, Nat.reduceLeDiff, Nat.reduceMul, Nat.reduceEqDiff, reduceCtorEq, Int.reduceLE, Int.reduceLT, Int.reduceEq, Int.reduceNe, Int.reduceBEq, Int.reduceBNe, Int.reduceAdd, Int.reduceSub, mv3]
  cases h1 : (x.2.1.toList == y.2.1.toList) with
  | false =>
    simp -implicitDefEqProofs only [go_sem, List.reduceReplicate, Nat.reduceAdd, Nat.reduceSub, Nat.reduceLT, Nat.reduceLeDiff, Nat.reduceMul, Nat.reduceEqDiff, reduceCtorEq, Int.reduceLE, Int.reduceLT, Int.reduceEq, Int.reduceNe, Int.reduceBEq, Int.reduceBNe, Int.reduceAdd, Int.reduceSub]
    exact Fini.ret rfl
  | true =>
    simp -implicitDefEqProofs only [go_sem, List.reduceReplicate, Nat.reduceAdd, Nat.reduceSub, Nat.reduceLT, Nat.reduceLeDiff, Nat.reduceMul, Nat.reduceEqDiff, reduceCtorEq, Int.reduceLE, Int.reduceLT, Int.reduceEq, Int.reduceNe, Int.reduceBEq, Int.reduceBNe, Int.reduceAdd, Int.reduceSub]
    cases h2 : (x.1 == y.1) with
    | false =>
      simp -implicitDefEqProofs only [go_sem, List.reduceReplicate, Nat.reduceAdd, Nat.reduceSub, Nat.reduceLT, Nat.reduceLeDiff, Nat.reduceMul, Nat.reduceEqDiff, reduceCtorEq, Int.reduceLE, Int.reduceLT, Int.reduceEq, Int.reduceNe, Int.reduceBEq, Int.reduceBNe, Int.reduceAdd, Int.reduceSub, bne, h2]
      exact Fini.ret rfl
    | true =>
      simp -implicitDefEqProofs only [go_sem, List.reduceReplicate, Nat.reduceAdd, Nat.reduceSub, Nat.reduceLT, Nat.reduceLeDiff, Nat.reduceMul, Nat.reduceEqDiff, reduceCtorEq, Int.reduceLE, Int.reduceLT, Int.reduceEq, Int.reduceNe, Int.reduceBEq, Int.reduceBNe, Int.reduceAdd, Int.reduceSub, bne, h2]
      exact Fini.ret rfl
theorem mvs3_get (M : List Mtr) (i : Nat) (h : i < M.length) : (mvs3 M)[i]? = some (mv3 M[i]) := by simp [mvs3, h]
theorem mvs3_len (M : List Mtr) : (mvs3 M).length = M.length := List.length_map ..
abbrev noM3 : Mtr := (0, ⟨#[]⟩, ⟨#[]⟩)
def isM (x : Mtr) : Bool := isB x.1 x.2.1 x.2.2
def okL (M : List Mtr) (i : Nat) : Bool := isM (M.getD i noM3) && (i == 0 || aheadD (M.getD (i - 1) noM3) (M.getD i noM3))
def listB (M : List Mtr) : Bool := decide (M.length ≤ 5) && (List.range M.length).all (okL M)
theorem mget_D (M : List Mtr) (i : Nat) (h : i < M.length) : (mvs3 M)[i]? = some (mv3 (M.getD i noM3)) := by
  rw [mvs3_get M i h, List.getD_eq_getElem?_getD, List.getElem?_eq_getElem h]; rfl
theorem dlist_ans (σ : St) (M : List Mtr) (hs : ∀ x ∈ M, x.2.1.size ≤ 100000) : Ans Try.prog 26 [.sl 3 (mvs3 M)] σ (Bo (listB M)) σ := by
  refine Ans.of_run t26 ?_
  have d5 : decide ((5 : Int) < M.length) = decide (5 < M.length) := decN 5 _
  unfold listB
  simp -implicitDefEqProofs only [c26, r26, go_sem, List.reduceReplicate, Nat.reduceAdd, Nat.reduceSub, Nat.reduceLT, Nat.reduceLeDiff, Nat.reduceMul, Nat.reduceEqDiff, reduceCtorEq, Int.reduceLE, Int.reduceLT, Int.reduceEq, Int.reduceNe, Int.reduceBEq, Int.reduceBNe, Int.reduceAdd, Int.reduceSub, mvs3_len, d5]
  by_cases hl : M.length ≤ 5
  · rw [decide_eq_true hl, Bool.true_and]
    have h5 : decide (5 < M.length) = false := decide_eq_false (by omega)
    simp -implicitDefEqProofs only [go_sem, List.reduceReplicate, Nat.reduceAdd, Nat.reduceSub, Nat.reduceLT, Nat.reduceLeDiff, Nat.reduceMul, Nat.reduceEqDiff, reduceCtorEq, Int.reduceLE, Int.reduceLT, Int.reduceEq, Int.reduceNe, Int.reduceBEq, Int.reduceBNe, Int.reduceAdd, Int.reduceSub, h5]
    refine Go.Ab.L.scan M.length (okL M) (fun i => mkE 36 [(0, .sl 3 (mvs3 M)), (3, I i)]) (fun _ => σ) ?_ ?_ rfl rfl
    · intro i hi hp J hJ
      have hF : okL M i = false → (List.range M.length).all (okL M) = false := fun h => List.all_eq_false.2 ⟨i, List.mem_range.2 hi, by simp [h]⟩
      have hx := mget_D M i hi
      have hsz : (M.getD i noM3).2.1.size ≤ 100000 := by
        rw [List.getD_eq_getElem?_getD, List.getElem?_eq_getElem hi]; exact hs _ (List.getElem_mem hi)
      have hin := wrap_nat (n := i) (by omega)
      have hI := fun σ => dis_any σ (M.getD i noM3).1 (M.getD i noM3).2.1 (M.getD i noM3).2.2 hsz
      have hO : okL M i = (isB (M.getD i noM3).1 (M.getD i noM3).2.1 (M.getD i noM3).2.2 && (i == 0 || aheadD (M.getD (i - 1) noM3) (M.getD i noM3))) := rfl
      have d0 : decide ((0 : Int) < i) = decide (0 < i) := decN 0 i
      rw [hO] at hJ hF
      simp -implicitDefEqProofs only [mkE, List.foldl_cons, List.foldl_nil, go_sem, List.reduceReplicate, Nat.reduceAdd, Nat.reduceSub, Nat.reduceLT, Nat.reduceLeDiff, Nat.reduceMul, Nat.reduceEqDiff, reduceCtorEq, Int.reduceLE, Int.reduceLT, Int.reduceEq, Int.reduceNe, Int.reduceBEq, Int.reduceBNe, Int.reduceAdd, Int.reduceSub, mvs3_len, nat_lt hi, dec_lt hi, hx, mv3, D_callS]
      first | refine CD.intro (hI _) ?_ | refine CS.intro hI ?_
      generalize isB (M.getD i noM3).1 (M.getD i noM3).2.1 (M.getD i noM3).2.2 = b1 at hJ hF
      cases b1 with
      | false =>
        simp -implicitDefEqProofs only [go_sem, List.reduceReplicate, Nat.reduceAdd, Nat.reduceSub, Nat.reduceLT, Nat.reduceLeDiff, Nat.reduceMul, Nat.reduceEqDiff, reduceCtorEq, Int.reduceLE, Int.reduceLT, Int.reduceEq, Int.reduceNe, Int.reduceBEq, Int.reduceBNe, Int.reduceAdd, Int.reduceSub]
        refine Fini.ret' rfl (bo_congr ?_)
        rw [hF rfl]
      | true =>
        by_cases hz : i = 0
        · subst hz
          simp -implicitDefEqProofs only [go_sem, List.reduceReplicate, Nat.reduceAdd, Nat.reduceSub, Nat.reduceLT, Nat.reduceLeDiff, Nat.reduceMul, Nat.reduceEqDiff, reduceCtorEq, Int.reduceLE, Int.reduceLT, Int.reduceEq, Int.reduceNe, Int.reduceBEq, Int.reduceBNe, Int.reduceAdd, Int.reduceSub, hin, D_callS, Int.natCast_zero]
          exact hJ rfl
        · have hpos : decide (0 < i) = true := by simp; omega
          have hx1 := mget_D M (i - 1) (by omega)
          have hB := fun σ => before_ans σ (M.getD (i - 1) noM3) (M.getD i noM3)
          have w1 : IntKind.i64.wrap ((i : Int) - 1) = ((i - 1 : Nat) : Int) := by rw [wrapN (by omega) (by omega)]; omega
          have hlt1 : (((i - 1 : Nat) : Int) < M.length) = True := by simp; omega
          have hz' : (i == 0) = false := by simpa using hz
          rw [hz'] at hJ hF
          simp -implicitDefEqProofs only [go_sem, List.reduceReplicate, Nat.reduceAdd, Nat.reduceSub, Nat.reduceLT, Nat.reduceLeDiff, Nat.reduceMul, Nat.reduceEqDiff, reduceCtorEq, Int.reduceLE, Int.reduceLT, Int.reduceEq, Int.reduceNe, Int.reduceBEq, Int.reduceBNe, Int.reduceAdd, Int.reduceSub, d0, hpos, w1, mvs3_len, nat_lt hi, dec_lt hi, hlt1, hx, hx1, D_callS, mv3]
          first | refine CD.intro (hB _) ?_ | refine CS.intro hB ?_
          generalize aheadD (M.getD (i - 1) noM3) (M.getD i noM3) = b2 at hJ hF
          cases b2 with
          | true =>
            simp -implicitDefEqProofs only [go_sem, List.reduceReplicate, Nat.reduceAdd, Nat.reduceSub, Nat.reduceLT, Nat.reduceLeDiff, Nat.reduceMul, Nat.reduceEqDiff, reduceCtorEq, Int.reduceLE, Int.reduceLT, Int.reduceEq, Int.reduceNe, Int.reduceBEq, Int.reduceBNe, Int.reduceAdd, Int.reduceSub, hin]
            exact hJ rfl
          | false =>
            simp -implicitDefEqProofs only [go_sem, List.reduceReplicate, Nat.reduceAdd, Nat.reduceSub, Nat.reduceLT, Nat.reduceLeDiff, Nat.reduceMul, Nat.reduceEqDiff, reduceCtorEq, Int.reduceLE, Int.reduceLT, Int.reduceEq, Int.reduceNe, Int.reduceBEq, Int.reduceBNe, Int.reduceAdd, Int.reduceSub]
            refine Fini.ret' rfl (bo_congr ?_)
            rw [hF rfl]
    · intro hp J
      have hd : decide ((M.length : Int) < M.length) = false := by simp
      simp -implicitDefEqProofs only [mkE, List.foldl_cons, List.foldl_nil, go_sem, List.reduceReplicate, Nat.reduceAdd, Nat.reduceSub, Nat.reduceLT, Nat.reduceLeDiff, Nat.reduceMul, Nat.reduceEqDiff, reduceCtorEq, Int.reduceLE, Int.reduceLT, Int.reduceEq, Int.reduceNe, Int.reduceBEq, Int.reduceBNe, Int.reduceAdd, Int.reduceSub, mvs3_len, hd]
      refine Fini.ret' rfl (bo_congr ?_)
      exact (List.all_eq_true.2 fun i hi => hp i (List.mem_range.1 hi)).symm
  · rw [decide_eq_false hl, Bool.false_and]
    have h5 : decide (5 < M.length) = true := decide_eq_true (by omega)
    simp -implicitDefEqProofs only [go_sem, List.reduceReplicate, Nat.reduceAdd, Nat.reduceSub, Nat.reduceLT, Nat.reduceLeDiff, Nat.reduceMul, Nat.reduceEqDiff, reduceCtorEq, Int.reduceLE, Int.reduceLT, Int.reduceEq, Int.reduceNe, Int.reduceBEq, Int.reduceBNe, Int.reduceAdd, Int.reduceSub, h5]
    exact Fini.ret rfl
end Go.Proofs.Ytoadgajhkhejiaa
namespace Go.Proofs.Ytoadgajhkhejiaa
open Go Go.Ab
set_option maxRecDepth 100000
theorem bel_mvs3 (n : Nat) (M : List Mtr) : Bel n (.sl 3 (mvs3 M)) := by
  refine .sl 3 _ fun i hi => ?_
  have : ∀ y ∈ mvs3 M, Bel n y := by
    intro y hy
    simp only [mvs3, List.mem_map] at hy
    obtain ⟨x, _, rfl⟩ := hy
    refine .agg _ fun i hi => ?_
    have : ∀ y ∈ ([I x.1, Sx x.2.1, Sx x.2.2] : List AV), Bel n y := by
      intro y hy
      simp only [List.mem_cons, List.not_mem_nil, or_false] at hy
      rcases hy with rfl | rfl | rfl <;> exact .pl _
    exact this _ (List.getElem_mem hi)
  exact this _ (List.getElem_mem hi)
theorem BL_mvs (n : Nat) (M : List Mtr) : Bel n (.sl 3 (mvs3 M)) = True := eq_true (bel_mvs3 n M)
theorem memM (n : Nat) (k : Int) (a b : ByteArray) : ∀ y ∈ ([I k, Sx a, Sx b] : List AV), Bel n y := by
  intro y hy
  simp only [List.mem_cons, List.not_mem_nil, or_false] at hy
  rcases hy with rfl | rfl | rfl <;> exact .pl _
theorem BL_mat (n : Nat) (k : Int) (a b : ByteArray) : Bel n (.agg [I k, Sx a, Sx b]) = True := eq_true (.agg _ fun i hi => memM n k a b _ (List.getElem_mem hi))
theorem BL_rp (n : Nat) (k : Int) (a b : ByteArray) : Bel n (.rp [I k, Sx a, Sx b]) = True := eq_true (.rp _ fun i hi => memM n k a b _ (List.getElem_mem hi))
theorem list_any (σ : St) (M : List Mtr) : Ans Try.prog 24 [.sl 3 (mvs3 M)] σ (Bo (listB M)) σ := by
  refine Ans.of_run' t24 (fun hbel _ => ?_)
  have d5 : decide ((5 : Int) < M.length) = decide (5 < M.length) := decN 5 _
  have hb0 : (∀ o ∈ σ, BelO σ.length o) = True := eq_true hbel
  unfold listB
  simp -implicitDefEqProofs only [c24, r24, go_sem, List.reduceReplicate, Nat.reduceAdd, Nat.reduceSub, Nat.reduceLT, Nat.reduceLeDiff, Nat.reduceMul, Nat.reduceEqDiff, reduceCtorEq, Int.reduceLE, Int.reduceLT, Int.reduceEq, Int.reduceNe, Int.reduceBEq, Int.reduceBNe, Int.reduceAdd, Int.reduceSub, mvs3_len, d5]
  by_cases hl : M.length ≤ 5
  · rw [decide_eq_true hl, Bool.true_and]
    have h5 : decide (5 < M.length) = false := decide_eq_false (by omega)
    simp -implicitDefEqProofs only [go_sem, List.reduceReplicate, Nat.reduceAdd, Nat.reduceSub, Nat.reduceLT, Nat.reduceLeDiff, Nat.reduceMul, Nat.reduceEqDiff, reduceCtorEq, Int.reduceLE, Int.reduceLT, Int.reduceEq, Int.reduceNe, Int.reduceBEq, Int.reduceBNe, Int.reduceAdd, Int.reduceSub, h5, mvs3_len]
    refine Go.Ab.L.scan M.length (okL M) (fun i => mkE 33 [(0, .sl 3 (mvs3 M)), (8, .sl 3 (mvs3 M)), (9, I M.length), (10, I i)]) (fun _ => σ) ?_ ?_ rfl rfl
    · intro i hi hp J hJ
      have htk : ∀ x : Ob, (σ ++ [x]).take σ.length = σ := fun x => List.take_left' rfl
      have hF : okL M i = false → (List.range M.length).all (okL M) = false := fun h => List.all_eq_false.2 ⟨i, List.mem_range.2 hi, by simp [h]⟩
      have hx := mget_D M i hi
      have hin := wrap_nat (n := i) (by omega)
      have hI := fun σ => is_any σ (M.getD i noM3).1 (M.getD i noM3).2.1 (M.getD i noM3).2.2
      have hO : okL M i = (isB (M.getD i noM3).1 (M.getD i noM3).2.1 (M.getD i noM3).2.2 && (i == 0 || aheadD (M.getD (i - 1) noM3) (M.getD i noM3))) := rfl
      have d0 : decide ((0 : Int) < i) = decide (0 < i) := decN 0 i
      rw [hO] at hJ hF
      simp -implicitDefEqProofs only [mkE, List.foldl_cons, List.foldl_nil, go_sem, List.reduceReplicate, Nat.reduceAdd, Nat.reduceSub, Nat.reduceLT, Nat.reduceLeDiff, Nat.reduceMul, Nat.reduceEqDiff, reduceCtorEq, Int.reduceLE, Int.reduceLT, Int.reduceEq, Int.reduceNe, Int.reduceBEq, Int.reduceBNe, Int.reduceAdd, Int.reduceSub, mvs3_len, nat_lt hi, dec_lt hi, hx, mv3, D_callS, g0, s0, List.drop_nil]
      first | refine CD.intro (hI _) ?_ | refine CS.intro hI ?_
      generalize isB (M.getD i noM3).1 (M.getD i noM3).2.1 (M.getD i noM3).2.2 = b1 at hJ hF
      cases b1 with
      | false =>
        simp -implicitDefEqProofs only [go_sem, List.reduceReplicate, Nat.reduceAdd, Nat.reduceSub, Nat.reduceLT, Nat.reduceLeDiff, Nat.reduceMul, Nat.reduceEqDiff, reduceCtorEq, Int.reduceLE, Int.reduceLT, Int.reduceEq, Int.reduceNe, Int.reduceBEq, Int.reduceBNe, Int.reduceAdd, Int.reduceSub, D_callS, g0, s0]
        rw [hF rfl]
        exact Fini.trim2 (σ' := σ) rfl rfl (Nat.le_refl _) (.pl _) hbel
      | true =>
        by_cases hz : i = 0
        · subst hz
          have hgo := hJ rfl
          simp -implicitDefEqProofs only [go_sem, List.reduceReplicate, Nat.reduceAdd, Nat.reduceSub, Nat.reduceLT, Nat.reduceLeDiff, Nat.reduceMul, Nat.reduceEqDiff, reduceCtorEq, Int.reduceLE, Int.reduceLT, Int.reduceEq, Int.reduceNe, Int.reduceBEq, Int.reduceBNe, Int.reduceAdd, Int.reduceSub, hin, D_callS, g0, s0, Int.natCast_zero, B_pl, B_any, B_nils, B_tup, B_osl, B_ptr, B_sl0, BL_mvs, BL_mat, BL_rp, htk, Nat.add_zero, hb0, List.length_append]
          exact ⟨by omega, hgo⟩
        · have hpos : decide (0 < i) = true := by simp; omega
          have hx1 := mget_D M (i - 1) (by omega)
          have hB := fun σ => compare_ans σ (M.getD (i - 1) noM3) (M.getD i noM3)
          have hc := cmp3_aheadD (M.getD (i - 1) noM3) (M.getD i noM3)
          have w1 : IntKind.i64.wrap ((i : Int) - 1) = ((i - 1 : Nat) : Int) := by rw [wrapN (by omega) (by omega)]; omega
          have hlt1 : (((i - 1 : Nat) : Int) < M.length) = True := by simp; omega
          have hz' : (i == 0) = false := by simpa using hz
          rw [hz'] at hJ hF
          simp -implicitDefEqProofs only [go_sem, List.reduceReplicate, Nat.reduceAdd, Nat.reduceSub, Nat.reduceLT, Nat.reduceLeDiff, Nat.reduceMul, Nat.reduceEqDiff, reduceCtorEq, Int.reduceLE, Int.reduceLT, Int.reduceEq, Int.reduceNe, Int.reduceBEq, Int.reduceBNe, Int.reduceAdd, Int.reduceSub, d0, hpos, w1, mvs3_len, nat_lt hi, dec_lt hi, hlt1, hx, hx1, D_callS, mv3, g0, s0]
          first | refine CD.intro (hB _) ?_ | refine CS.intro hB ?_
          generalize aheadD (M.getD (i - 1) noM3) (M.getD i noM3) = b2 at hJ hF hc
          generalize cmp3 (M.getD (i - 1) noM3) (M.getD i noM3) = cc at hc
          cases b2 with
          | true =>
            have hgo := hJ rfl
            simp -implicitDefEqProofs only [go_sem, List.reduceReplicate, Nat.reduceAdd, Nat.reduceSub, Nat.reduceLT, Nat.reduceLeDiff, Nat.reduceMul, Nat.reduceEqDiff, reduceCtorEq, Int.reduceLE, Int.reduceLT, Int.reduceEq, Int.reduceNe, Int.reduceBEq, Int.reduceBNe, Int.reduceAdd, Int.reduceSub, hc, hin, g0, s0, B_pl, B_any, B_nils, B_tup, B_osl, B_ptr, B_sl0, BL_mvs, BL_mat, BL_rp, htk, Nat.add_zero, hb0, List.length_append, Bool.not_true]
            exact ⟨by omega, hgo⟩
          | false =>
            simp -implicitDefEqProofs only [go_sem, List.reduceReplicate, Nat.reduceAdd, Nat.reduceSub, Nat.reduceLT, Nat.reduceLeDiff, Nat.reduceMul, Nat.reduceEqDiff, reduceCtorEq, Int.reduceLE, Int.reduceLT, Int.reduceEq, Int.reduceNe, Int.reduceBEq, Int.reduceBNe, Int.reduceAdd, Int.reduceSub, hc, Bool.not_false, g0, s0]
            rw [hF rfl]
            exact Fini.trim2 (σ' := σ) rfl rfl (Nat.le_refl _) (.pl _) hbel
    · intro hp J
      have hd : decide ((M.length : Int) < M.length) = false := by simp
      simp -implicitDefEqProofs only [mkE, List.foldl_cons, List.foldl_nil, go_sem, List.reduceReplicate, Nat.reduceAdd, Nat.reduceSub, Nat.reduceLT, Nat.reduceLeDiff, Nat.reduceMul, Nat.reduceEqDiff, reduceCtorEq, Int.reduceLE, Int.reduceLT, Int.reduceEq, Int.reduceNe, Int.reduceBEq, Int.reduceBNe, Int.reduceAdd, Int.reduceSub, mvs3_len, hd]
      refine Fini.ret' rfl (bo_congr ?_)
      exact (List.all_eq_true.2 fun i hi => hp i (List.mem_range.1 hi)).symm
  · rw [decide_eq_false hl, Bool.false_and]
    have h5 : decide (5 < M.length) = true := decide_eq_true (by omega)
    simp -implicitDefEqProofs only [go_sem, List.reduceReplicate, Nat.reduceAdd, Nat.reduceSub, Nat.reduceLT, Nat.reduceLeDiff, Nat.reduceMul, Nat.reduceEqDiff, reduceCtorEq, Int.reduceLE, Int.reduceLT, Int.reduceEq, Int.reduceNe, Int.reduceBEq, Int.reduceBNe, Int.reduceAdd, Int.reduceSub, h5]
    exact Fini.ret rfl
end Go.Proofs.Ytoadgajhkhejiaa
namespace Go.Proofs.Ytoadgajhkhejiaa
open Go Go.Ab
set_option maxRecDepth 100000
def largeM (x : Mtr) : Bool := largeB x.1 x.2.1 x.2.2
def anyLarge (M : List Mtr) : Bool := (List.range M.length).any fun i => largeM (M.getD i noM3)
theorem danylarge_ans (σ : St) (M : List Mtr) (hM : M.length ≤ 1000) (hs : ∀ x ∈ M, x.2.1.size ≤ 100000) : Ans Try.prog 28 [.sl 3 (mvs3 M)] σ (Bo (anyLarge M)) σ := by
  refine Ans.of_run t28 ?_
  simp -implicitDefEqProofs only [c28, r28, go_sem, List.reduceReplicate, Nat.reduceAdd, Nat.reduceSub, Nat.reduceLT, Nat.reduceLeDiff, Nat.reduceMul, Nat.reduceEqDiff, reduceCtorEq, Int.reduceLE, Int.reduceLT, Int.reduceEq, Int.reduceNe, Int.reduceBEq, Int.reduceBNe, Int.reduceAdd, Int.reduceSub]
  refine Go.Ab.L.scan M.length (fun i => !largeM (M.getD i noM3)) (fun i => mkE 15 [(0, .sl 3 (mvs3 M)), (3, I i)]) (fun _ => σ) ?_ ?_ rfl rfl
  · intro i hi hp J hJ
    have hF : largeM (M.getD i noM3) = true → anyLarge M = true := fun h => List.any_eq_true.2 ⟨i, List.mem_range.2 hi, h⟩
    have hx := mget_D M i hi
    have hsz : (M.getD i noM3).2.1.size ≤ 100000 := by
      rw [List.getD_eq_getElem?_getD, List.getElem?_eq_getElem hi]; exact hs _ (List.getElem_mem hi)
    have hin := wrap_nat (n := i) (by omega)
    have hI := fun σ => dlarge_any σ (M.getD i noM3).1 (M.getD i noM3).2.1 (M.getD i noM3).2.2 hsz
    rw [large_eq] at hI
    have hO : largeM (M.getD i noM3) = largeB (M.getD i noM3).1 (M.getD i noM3).2.1 (M.getD i noM3).2.2 := rfl
    rw [hO] at hJ hF
    simp -implicitDefEqProofs only [mkE, List.foldl_cons, List.foldl_nil, go_sem, List.reduceReplicate, Nat.reduceAdd, Nat.reduceSub, Nat.reduceLT, Nat.reduceLeDiff, Nat.reduceMul, Nat.reduceEqDiff, reduceCtorEq, Int.reduceLE, Int.reduceLT, Int.reduceEq, Int.reduceNe, Int.reduceBEq, Int.reduceBNe, Int.reduceAdd, Int.reduceSub, mvs3_len, nat_lt hi, dec_lt hi, hx, mv3]
    refine CO.intro (hI _) ?_
    generalize largeB (M.getD i noM3).1 (M.getD i noM3).2.1 (M.getD i noM3).2.2 = b1 at hJ hF
    cases b1 with
    | false =>
      simp -implicitDefEqProofs only [go_sem, List.reduceReplicate, Nat.reduceAdd, Nat.reduceSub, Nat.reduceLT, Nat.reduceLeDiff, Nat.reduceMul, Nat.reduceEqDiff, reduceCtorEq, Int.reduceLE, Int.reduceLT, Int.reduceEq, Int.reduceNe, Int.reduceBEq, Int.reduceBNe, Int.reduceAdd, Int.reduceSub, hin]
      exact hJ rfl
    | true =>
      simp -implicitDefEqProofs only [go_sem, List.reduceReplicate, Nat.reduceAdd, Nat.reduceSub, Nat.reduceLT, Nat.reduceLeDiff, Nat.reduceMul, Nat.reduceEqDiff, reduceCtorEq, Int.reduceLE, Int.reduceLT, Int.reduceEq, Int.reduceNe, Int.reduceBEq, Int.reduceBNe, Int.reduceAdd, Int.reduceSub]
      rw [hF rfl]
      exact Fini.ret rfl
  · intro hp J
    have hd : decide ((M.length : Int) < M.length) = false := by simp
    simp -implicitDefEqProofs only [mkE, List.foldl_cons, List.foldl_nil, go_sem, List.reduceReplicate, Nat.reduceAdd, Nat.reduceSub, Nat.reduceLT, Nat.reduceLeDiff, Nat.reduceMul, Nat.reduceEqDiff, reduceCtorEq, Int.reduceLE, Int.reduceLT, Int.reduceEq, Int.reduceNe, Int.reduceBEq, Int.reduceBNe, Int.reduceAdd, Int.reduceSub, mvs3_len, hd]
    refine Fini.ret' rfl (bo_congr ?_)
    symm
    exact any_range_false fun i hi => by simpa using hp i hi
def holdsM (L : List Lab) (x : Mtr) : Bool := holdsB x.1 x.2.1 x.2.2 (getL L x.2.1)
def allHold (M : List Mtr) (L : List Lab) : Bool := (List.range M.length).all fun i => holdsM L (M.getD i noM3)
theorem dall_ans (σ : St) (M : List Mtr) (L : List Lab) (hM : M.length ≤ 1000) (hl : L.length ≤ 1000) (hs : ∀ x ∈ M, x.2.1.size ≤ 100000) (hL : ∀ nm, (getL L nm).size ≤ 100000) :
    Ans Try.prog 29 [.sl 3 (mvs3 M), .sl 2 (lvs L)] σ (Bo (allHold M L)) σ := by
  refine Ans.of_run t29 ?_
  simp -implicitDefEqProofs only [c29, r29, go_sem, List.reduceReplicate, Nat.reduceAdd, Nat.reduceSub, Nat.reduceLT, Nat.reduceLeDiff, Nat.reduceMul, Nat.reduceEqDiff, reduceCtorEq, Int.reduceLE, Int.reduceLT, Int.reduceEq, Int.reduceNe, Int.reduceBEq, Int.reduceBNe, Int.reduceAdd, Int.reduceSub]
  refine Go.Ab.L.scan M.length (fun i => holdsM L (M.getD i noM3)) (fun i => mkE 19 [(0, .sl 3 (mvs3 M)), (1, .sl 2 (lvs L)), (5, I i)]) (fun _ => σ) ?_ ?_ rfl rfl
  · intro i hi hp J hJ
    have hF : holdsM L (M.getD i noM3) = false → allHold M L = false := fun h => List.all_eq_false.2 ⟨i, List.mem_range.2 hi, by show ¬ holdsM L (M.getD i noM3) = true; rw [h]; exact Bool.false_ne_true⟩
    have hx := mget_D M i hi
    have hsz : (M.getD i noM3).2.1.size ≤ 100000 := by
      rw [List.getD_eq_getElem?_getD, List.getElem?_eq_getElem hi]; exact hs _ (List.getElem_mem hi)
    have hin := wrap_nat (n := i) (by omega)
    have hI := fun σ => dholds_any σ (M.getD i noM3).1 (M.getD i noM3).2.1 (M.getD i noM3).2.2 L hl hsz (hL _)
    have hO : holdsM L (M.getD i noM3) = holdsB (M.getD i noM3).1 (M.getD i noM3).2.1 (M.getD i noM3).2.2 (getL L (M.getD i noM3).2.1) := rfl
    rw [hO] at hJ hF
    simp -implicitDefEqProofs only [mkE, List.foldl_cons, List.foldl_nil, go_sem, List.reduceReplicate, Nat.reduceAdd, Nat.reduceSub, Nat.reduceLT, Nat.reduceLeDiff, Nat.reduceMul, Nat.reduceEqDiff, reduceCtorEq, Int.reduceLE, Int.reduceLT, Int.reduceEq, Int.reduceNe, Int.reduceBEq, Int.reduceBNe, Int.reduceAdd, Int.reduceSub, mvs3_len, nat_lt hi, dec_lt hi, hx, mv3]
    refine CO.intro (hI _) ?_
    generalize holdsB (M.getD i noM3).1 (M.getD i noM3).2.1 (M.getD i noM3).2.2 (getL L (M.getD i noM3).2.1) = b1 at hJ hF
    cases b1 with
    | true =>
      simp -implicitDefEqProofs only [go_sem, List.reduceReplicate, Nat.reduceAdd, Nat.reduceSub, Nat.reduceLT, Nat.reduceLeDiff, Nat.reduceMul, Nat.reduceEqDiff, reduceCtorEq, Int.reduceLE, Int.reduceLT, Int.reduceEq, Int.reduceNe, Int.reduceBEq, Int.reduceBNe, Int.reduceAdd, Int.reduceSub, hin]
      exact hJ rfl
    | false =>
      simp -implicitDefEqProofs only [go_sem, List.reduceReplicate, Nat.reduceAdd, Nat.reduceSub, Nat.reduceLT, Nat.reduceLeDiff, Nat.reduceMul, Nat.reduceEqDiff, reduceCtorEq, Int.reduceLE, Int.reduceLT, Int.reduceEq, Int.reduceNe, Int.reduceBEq, Int.reduceBNe, Int.reduceAdd, Int.reduceSub]
      rw [hF rfl]
      exact Fini.ret rfl
  · intro hp J
    have hd : decide ((M.length : Int) < M.length) = false := by simp
    simp -implicitDefEqProofs only [mkE, List.foldl_cons, List.foldl_nil, go_sem, List.reduceReplicate, Nat.reduceAdd, Nat.reduceSub, Nat.reduceLT, Nat.reduceLeDiff, Nat.reduceMul, Nat.reduceEqDiff, reduceCtorEq, Int.reduceLE, Int.reduceLT, Int.reduceEq, Int.reduceNe, Int.reduceBEq, Int.reduceBNe, Int.reduceAdd, Int.reduceSub, mvs3_len, hd]
    refine Fini.ret' rfl (bo_congr ?_)
    exact (List.all_eq_true.2 fun i hi => hp i (List.mem_range.1 hi)).symm
theorem mcontains_ans (σ : St) (M : List Mtr) (g : FuncId) (fs cs : List AV) (p : Mtr → Bool) (h : ∀ x, Ans Try.prog g (fs ++ [mv3 x] ++ cs) σ (Bo (p x)) σ) (hM : M.length ≤ 1000) :
    Ans Try.prog 67 [.sl 3 (mvs3 M), .fn g fs cs] σ (Bo ((List.range M.length).any fun i => p (M.getD i noM3))) σ := by
  obtain ⟨r, hr, hp⟩ : ∃ r : Int, decide (0 ≤ r) = ((List.range M.length).any fun i => p (M.getD i noM3)) ∧ Ans Try.prog 104 [.sl 3 (mvs3 M), .fn g fs cs] σ (I r) σ := by
    have h1 : ∀ x : Mtr, Ans Try.prog g (fs ++ [mat x.1 x.2.1 x.2.2] ++ cs) σ (Bo (p x)) σ := h
    cases hf : (List.range M.length).find? fun i => p (M.getD i noM3) with
    | none =>
      have hn := List.find?_eq_none.1 hf
      refine ⟨-1, ?_, ?_⟩
      · rw [any_range_false fun i hi => by simpa using hn i (List.mem_range.2 hi)]; rfl
      · refine Ans.of_run t104 ?_
        simp -implicitDefEqProofs only [c104, r104, go_sem, List.reduceReplicate, Nat.reduceAdd, Nat.reduceSub, Nat.reduceLT, Nat.reduceLeDiff, Nat.reduceMul, Nat.reduceEqDiff, reduceCtorEq, Int.reduceLE, Int.reduceLT, Int.reduceEq, Int.reduceNe, Int.reduceBEq, Int.reduceBNe, Int.reduceAdd, Int.reduceSub, mvs3_len]
        refine Go.Ab.L.count M.length (fun i => mkE 19 [(0, .sl 3 (mvs3 M)), (1, .fn g fs cs), (7, I M.length), (8, I i)]) (fun _ => σ) ?_ ?_ rfl rfl
        · intro i hi J hJ
          have hx := mget_D M i hi
          have hin := wrap_nat (n := i) (by omega)
          have hb : p (M.getD i noM3) = false := by simpa using hn i (List.mem_range.2 hi)
          have h2 := h1 (M.getD i noM3)
          rw [hb] at h2
          simp -implicitDefEqProofs only [mkE, List.foldl_cons, List.foldl_nil, go_sem, List.reduceReplicate, Nat.reduceAdd, Nat.reduceSub, Nat.reduceLT, Nat.reduceLeDiff, Nat.reduceMul, Nat.reduceEqDiff, reduceCtorEq, Int.reduceLE, Int.reduceLT, Int.reduceEq, Int.reduceNe, Int.reduceBEq, Int.reduceBNe, Int.reduceAdd, Int.reduceSub, mvs3_len, nat_lt hi, dec_lt hi, hx, mv3]
          refine CO.intro h2 ?_
          simp -implicitDefEqProofs only [go_sem, List.reduceReplicate, Nat.reduceAdd, Nat.reduceSub, Nat.reduceLT, Nat.reduceLeDiff, Nat.reduceMul, Nat.reduceEqDiff, reduceCtorEq, Int.reduceLE, Int.reduceLT, Int.reduceEq, Int.reduceNe, Int.reduceBEq, Int.reduceBNe, Int.reduceAdd, Int.reduceSub, hin]
          exact hJ
        · intro J
          have hd : ((M.length : Int) < M.length) = False := by simp
          simp -implicitDefEqProofs only [mkE, List.foldl_cons, List.foldl_nil, go_sem, List.reduceReplicate, Nat.reduceAdd, Nat.reduceSub, Nat.reduceLT, Nat.reduceLeDiff, Nat.reduceMul, Nat.reduceEqDiff, reduceCtorEq, Int.reduceLE, Int.reduceLT, Int.reduceEq, Int.reduceNe, Int.reduceBEq, Int.reduceBNe, Int.reduceAdd, Int.reduceSub, mvs3_len, hd]
          exact Fini.ret rfl
    | some k =>
      have hk := List.find?_some hf
      have hkm := List.mem_range.1 (List.mem_of_find?_eq_some hf)
      have hlt : ∀ j, j < k → p (M.getD j noM3) = false := fun j hj => by
        have := (List.find?_range_eq_some.1 hf).2.2 j hj
        simpa using this
      refine ⟨k, ?_, ?_⟩
      · rw [any_range_true (i := k) hkm hk]; simp
      · refine Ans.of_run t104 ?_
        simp -implicitDefEqProofs only [c104, r104, go_sem, List.reduceReplicate, Nat.reduceAdd, Nat.reduceSub, Nat.reduceLT, Nat.reduceLeDiff, Nat.reduceMul, Nat.reduceEqDiff, reduceCtorEq, Int.reduceLE, Int.reduceLT, Int.reduceEq, Int.reduceNe, Int.reduceBEq, Int.reduceBNe, Int.reduceAdd, Int.reduceSub, mvs3_len]
        refine Go.Ab.L.count k (fun i => mkE 19 [(0, .sl 3 (mvs3 M)), (1, .fn g fs cs), (7, I M.length), (8, I i)]) (fun _ => σ) ?_ ?_ rfl rfl
        · intro i hi J hJ
          have hi' : i < M.length := by omega
          have hx := mget_D M i hi'
          have hin := wrap_nat (n := i) (by omega)
          have h2 := h1 (M.getD i noM3)
          rw [hlt i hi] at h2
          simp -implicitDefEqProofs only [mkE, List.foldl_cons, List.foldl_nil, go_sem, List.reduceReplicate, Nat.reduceAdd, Nat.reduceSub, Nat.reduceLT, Nat.reduceLeDiff, Nat.reduceMul, Nat.reduceEqDiff, reduceCtorEq, Int.reduceLE, Int.reduceLT, Int.reduceEq, Int.reduceNe, Int.reduceBEq, Int.reduceBNe, Int.reduceAdd, Int.reduceSub, mvs3_len, nat_lt hi', dec_lt hi', hx, mv3]
          refine CO.intro h2 ?_
          simp -implicitDefEqProofs only [go_sem, List.reduceReplicate, Nat.reduceAdd, Nat.reduceSub, Nat.reduceLT, Nat.reduceLeDiff, Nat.reduceMul, Nat.reduceEqDiff, reduceCtorEq, Int.reduceLE, Int.reduceLT, Int.reduceEq, Int.reduceNe, Int.reduceBEq, Int.reduceBNe, Int.reduceAdd, Int.reduceSub, hin]
          exact hJ
        · intro J
          have hx := mget_D M k hkm
          have h2 := h1 (M.getD k noM3)
          have hk' : p (M.getD k noM3) = true := hk
          rw [hk'] at h2
          simp -implicitDefEqProofs only [mkE, List.foldl_cons, List.foldl_nil, go_sem, List.reduceReplicate, Nat.reduceAdd, Nat.reduceSub, Nat.reduceLT, Nat.reduceLeDiff, Nat.reduceMul, Nat.reduceEqDiff, reduceCtorEq, Int.reduceLE, Int.reduceLT, Int.reduceEq, Int.reduceNe, Int.reduceBEq, Int.reduceBNe, Int.reduceAdd, Int.reduceSub, mvs3_len, nat_lt hkm, dec_lt hkm, hx, mv3]
          refine CO.intro h2 ?_
          simp -implicitDefEqProofs only [go_sem, List.reduceReplicate, Nat.reduceAdd, Nat.reduceSub, Nat.reduceLT, Nat.reduceLeDiff, Nat.reduceMul, Nat.reduceEqDiff, reduceCtorEq, Int.reduceLE, Int.reduceLT, Int.reduceEq, Int.reduceNe, Int.reduceBEq, Int.reduceBNe, Int.reduceAdd, Int.reduceSub]
          exact Fini.ret rfl
  rw [← hr]
  refine Ans.of_run t67 ?_
  simp -implicitDefEqProofs only [c67, r67, go_sem, List.reduceReplicate, Nat.reduceAdd, Nat.reduceSub, Nat.reduceLT, Nat.reduceLeDiff, Nat.reduceMul, Nat.reduceEqDiff, reduceCtorEq, Int.reduceLE, Int.reduceLT, Int.reduceEq, Int.reduceNe, Int.reduceBEq, Int.reduceBNe, Int.reduceAdd, Int.reduceSub]
  refine CO.intro hp ?_
  simp -implicitDefEqProofs only [go_sem, List.reduceReplicate, Nat.reduceAdd, Nat.reduceSub, Nat.reduceLT, Nat.reduceLeDiff, Nat.reduceMul, Nat.reduceEqDiff, reduceCtorEq, Int.reduceLE, Int.reduceLT, Int.reduceEq, Int.reduceNe, Int.reduceBEq, Int.reduceBNe, Int.reduceAdd, Int.reduceSub]
  exact Fini.ret rfl
end Go.Proofs.Ytoadgajhkhejiaa
