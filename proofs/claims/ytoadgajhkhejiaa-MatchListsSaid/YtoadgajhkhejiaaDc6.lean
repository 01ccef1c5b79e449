/- The document's after, walked. No condition. -/
import Derived.Test.YtoadgajhkhejiaaDc2
import Derived.Test.YtoadgajhkhejiaaMLaw
set_option linter.unusedSimpArgs false
set_option linter.unusedVariables false
namespace Go.Proofs.Ytoadgajhkhejiaa
open Go Go.Ab Rex
set_option maxRecDepth 100000
theorem rep_take (n : Nat) (v : AV) : List.take n (List.replicate n v) = List.replicate n v := by simp
def After (w : ByteArray) (x : Rex) : Prop := ∀ (σ : St) (S : List Bool), S.length = w.size + 1 → Ans Try.prog 121 [x.av, Sx w, bv S] σ (bv (daft w x S)) σ
theorem bel_bv (n : Nat) (S : List Bool) : Bel n (bv S) := .sl 1 _ fun i hi => by simp; exact .pl _
theorem kids_get (ks : List Rex) (i : Nat) (h : i < ks.length) : (ks.map av)[i]? = some ks[i].av := by simp [h]
theorem after_one (w : ByteArray) (hw : w.size ≤ 100000) (x : Rex) (ho : x.op = 1) : After w x := by
  intro σ S hS
  rw [daft_eq]
  simp only [ho, beq_self_eq_true, if_true]
  rw [av_eq, ho]
  refine Ans.of_run' t121 (fun hbel _ => ?_)
  have q0 : IntKind.i64.wrap ((w.size : Int) + 1) = ((w.size + 1 : Nat) : Int) := wrap_nat (by omega)
  have q1 : ((0 : Int) ≤ (w.size + 1 : Nat)) = True := by simp; omega
  have q2 : (((w.size + 1 : Nat) : Int) ≤ 4294967296) = True := by simp; omega
  simp -implicitDefEqProofs only [c121, r121, go_sem, List.reduceReplicate, Nat.reduceAdd, Nat.reduceSub, Nat.reduceLT, Nat.reduceLeDiff, Nat.reduceMul, Nat.reduceEqDiff, reduceCtorEq, Int.reduceLE, Int.reduceLT, Int.reduceEq, Int.reduceNe, Int.reduceBEq, Int.reduceBNe, Int.reduceAdd, Int.reduceSub, D_callS, List.length_map, q0, q1, q2, Int.le_refl, Int.toNat_natCast, rep_cells, rep_take]
  have hTl : (byteB w ⟨1, x.a, x.b, x.c, x.d, 0, 0⟩ S).length = w.size + 1 := by simp [byteB]
  refine Go.Ab.L.count w.size (fun i => mkE 130 [(1, Sx w), (2, bv S), (3, .rp [I 1, U x.a, U x.b, U x.c, U x.d, .sl 6 (x.ks.map av)]), (7, .osl σ.length (w.size + 1)), (8, I i)])
    (fun i => σ ++ [.row 1 ((fillB (byteB w ⟨1, x.a, x.b, x.c, x.d, 0, 0⟩ S) (w.size + 1) (i + 1)).map Bo)]) ?_ ?_ rfl ?_
  · intro i hi J hJ
    have h2 : (S.map Bo)[i]? = some (Bo (S.getD i false)) := by simp [show i < S.length by omega]
    have hlt : ((i : Int) < w.size) = True := by simp; omega
    have hlt2 : ((i : Int) < S.length) = True := by simp; omega
    have hin := wrap_nat (n := i) (by omega)
    have hfl : (fillB (byteB w ⟨1, x.a, x.b, x.c, x.d, 0, 0⟩ S) (w.size + 1) (i + 1)).length = w.size + 1 := by have := fillB_len (byteB w ⟨1, x.a, x.b, x.c, x.d, 0, 0⟩ S) (i + 1) (by omega); rwa [hTl] at this
    have hfs := fillB_set (byteB w ⟨1, x.a, x.b, x.c, x.d, 0, 0⟩ S) (i + 1) (by omega)
    have hTg : (byteB w ⟨1, x.a, x.b, x.c, x.d, 0, 0⟩ S).getD (i + 1) false = (S.getD i false && tstU ([x.a, x.b, x.c, x.d].getD (byteAt w i / 64) 0) (byteAt w i % 64)) := by
      rw [List.getD_eq_getElem?_getD, byteB, List.getElem?_map, List.getElem?_range (by omega)]
      simp [takesS, setU]
    rw [hTl, hTg] at hfs
    rw [← hfs] at hJ
    generalize fillB (byteB w ⟨1, x.a, x.b, x.c, x.d, 0, 0⟩ S) (w.size + 1) (i + 1) = M at hfl hJ ⊢
    have hM : (M.map Bo)[i + 1]? = some (Bo (M.getD (i + 1) false)) := by simp [show i + 1 < M.length by omega]
    have hMl : (w.size + 1 = M.length) = True := by simp [hfl]
    have hlt3 : ((i + 1 : Nat) : Int) < M.length := by omega
    have hlt4 : (((i + 1 : Nat) : Int) < (w.size + 1 : Nat)) = True := by simp; omega
    have hh := fun σ => has_ans σ x.a x.b x.c x.d (byteAt w i) (byteAt_lt w i)
    generalize tstU ([x.a, x.b, x.c, x.d].getD (byteAt w i / 64) 0) (byteAt w i % 64) = tb at hh hJ
    cases hb : S.getD i false with
    | true =>
      rw [hb, List.map_set] at hJ
      simp -implicitDefEqProofs only [mkE, List.foldl_cons, List.foldl_nil, go_sem, List.reduceReplicate, Nat.reduceAdd, Nat.reduceSub, Nat.reduceLT, Nat.reduceLeDiff, Nat.reduceMul, Nat.reduceEqDiff, reduceCtorEq, Int.reduceLE, Int.reduceLT, Int.reduceEq, Int.reduceNe, Int.reduceBEq, Int.reduceBNe, Int.reduceAdd, Int.reduceSub, D_callS, List.length_map, hlt, hlt2, h2, hb, hin, hM, hMl, hfl, hlt3, hlt4, g0, s0, byteAt_def]
      refine CD.intro (hh _) ?_
      simp -implicitDefEqProofs only [go_sem, List.reduceReplicate, Nat.reduceAdd, Nat.reduceSub, Nat.reduceLT, Nat.reduceLeDiff, Nat.reduceMul, Nat.reduceEqDiff, reduceCtorEq, Int.reduceLE, Int.reduceLT, Int.reduceEq, Int.reduceNe, Int.reduceBEq, Int.reduceBNe, Int.reduceAdd, Int.reduceSub, D_callS, List.length_map, hin, hM, hMl, hfl, hlt3, hlt4, g0, s0]
      exact hJ
    | false =>
      rw [hb, List.map_set] at hJ
      simp -implicitDefEqProofs only [mkE, List.foldl_cons, List.foldl_nil, go_sem, List.reduceReplicate, Nat.reduceAdd, Nat.reduceSub, Nat.reduceLT, Nat.reduceLeDiff, Nat.reduceMul, Nat.reduceEqDiff, reduceCtorEq, Int.reduceLE, Int.reduceLT, Int.reduceEq, Int.reduceNe, Int.reduceBEq, Int.reduceBNe, Int.reduceAdd, Int.reduceSub, D_callS, List.length_map, hlt, hlt2, h2, hb, hin, hM, hMl, hfl, hlt3, hlt4, g0, s0, byteAt_def]
      exact hJ
  · intro J
    have hlt : ((w.size : Int) < w.size) = False := by simp
    have hfe := fillB_end (byteB w ⟨1, x.a, x.b, x.c, x.d, 0, 0⟩ S)
    rw [hTl] at hfe
    have hq : (w.size + 1 = (byteB w ⟨1, x.a, x.b, x.c, x.d, 0, 0⟩ S).length) = True := by simp [hTl]
    simp -implicitDefEqProofs only [mkE, List.foldl_cons, List.foldl_nil, go_sem, List.reduceReplicate, Nat.reduceAdd, Nat.reduceSub, Nat.reduceLT, Nat.reduceLeDiff, Nat.reduceMul, Nat.reduceEqDiff, reduceCtorEq, Int.reduceLE, Int.reduceLT, Int.reduceEq, Int.reduceNe, Int.reduceBEq, Int.reduceBNe, Int.reduceAdd, Int.reduceSub, List.length_map, hlt, hfe, g0, s0, hq, hTl]
    exact Fini.trim2 (σ' := σ) rfl rfl (Nat.le_refl _) (bel_bv _ _) hbel
  · simp [fillB, byteB, List.replicate_succ, List.range_succ_eq_map]
end Go.Proofs.Ytoadgajhkhejiaa
namespace Go.Proofs.Ytoadgajhkhejiaa
open Go Go.Ab Rex
set_option maxRecDepth 100000
theorem daftL_snoc (w : ByteArray) (l : List Rex) (x : Rex) : ∀ S, daftL w (l ++ [x]) S = daft w x (daftL w l S) := by
  induction l with
  | nil => intro S; rfl
  | cons y l ih => intro S; rw [List.cons_append]; exact ih _
theorem daftA_snoc (w : ByteArray) (l : List Rex) (x : Rex) (S : List Bool) : ∀ acc, daftA w (l ++ [x]) S acc = joinB (daftA w l S acc) (daft w x S) := by
  induction l with
  | nil => intro acc; rfl
  | cons y l ih => intro acc; rw [List.cons_append]; exact ih _
theorem all_bo (S : List Bool) (f : AV → Bool) (h : ∀ b : Bool, f (Bo b) = true) : (S.map Bo).all f = true := by
  simp only [List.all_map, List.all_eq_true]
  exact fun x _ => h x
theorem min_self' (n : Nat) : n.min n = n := Nat.min_self n
theorem tk_bo {S : List Bool} {n : Nat} (h : S.length = n) : List.take n (S.map Bo) = S.map Bo := by rw [List.take_of_length_le]; simp; omega
theorem dr_rep (n : Nat) (v : AV) : List.drop n (List.replicate n v) = [] := by simp
structure Kids (w : ByteArray) (x : Rex) : Prop where
  ans : ∀ k ∈ x.ks, After w k
  len : ∀ k ∈ x.ks, ∀ S, S.length = w.size + 1 → (daft w k S).length = w.size + 1
theorem daftL_len {w : ByteArray} {l : List Rex} (h : ∀ k ∈ l, ∀ S, S.length = w.size + 1 → (daft w k S).length = w.size + 1) : ∀ S, S.length = w.size + 1 → (daftL w l S).length = w.size + 1 := by
  induction l with
  | nil => exact fun S h => h
  | cons x xs ih => exact fun S hS => ih (fun k hk => h k (List.mem_cons_of_mem _ hk)) _ (h x List.mem_cons_self S hS)
theorem daftA_len {w : ByteArray} {l : List Rex} : ∀ (S acc : List Bool), acc.length = w.size + 1 → (daftA w l S acc).length = w.size + 1 := by
  induction l with
  | nil => exact fun S acc h => h
  | cons x xs ih => exact fun S acc h => ih S _ (by rw [joinB_len]; exact h)
theorem after_seq (w : ByteArray) (hw : w.size ≤ 100000) (x : Rex) (ho : x.op = 2) (hk : Kids w x) (hl : x.ks.length ≤ 1000) : After w x := by
  intro σ S hS
  rw [daft_eq]
  have e1 : ((2 : Int) == 1) = false := rfl
  simp only [ho, e1, beq_self_eq_true, if_true, Bool.false_eq_true, if_false]
  rw [av_eq, ho]
  refine Ans.of_run' t121 (fun hbel _ => ?_)
  have q0 : IntKind.i64.wrap ((w.size : Int) + 1) = ((w.size + 1 : Nat) : Int) := wrap_nat (by omega)
  have q1 : ((0 : Int) ≤ (w.size + 1 : Nat)) = True := by simp; omega
  have q2 : (((w.size + 1 : Nat) : Int) ≤ 4294967296) = True := by simp; omega
  simp -implicitDefEqProofs only [c121, r121, go_sem, List.reduceReplicate, Nat.reduceAdd, Nat.reduceSub, Nat.reduceLT, Nat.reduceLeDiff, Nat.reduceMul, Nat.reduceEqDiff, reduceCtorEq, Int.reduceLE, Int.reduceLT, Int.reduceEq, Int.reduceNe, Int.reduceBEq, Int.reduceBNe, Int.reduceAdd, Int.reduceSub, D_callS, List.length_map, q0, q1, q2, Int.le_refl, Int.toNat_natCast, rep_cells, rep_take]
  refine Go.Ab.L.count x.ks.length (fun i => mkE 130 [(1, Sx w), (3, .rp [I 2, U x.a, U x.b, U x.c, U x.d, .sl 6 (x.ks.map av)]), (7, .osl σ.length (w.size + 1)), (9, bv (daftL w (x.ks.take i) S)), (10, I i)])
    (fun i => σ ++ [.row 1 (List.replicate (w.size + 1) (.pl (.bool false)))]) ?_ ?_ rfl rfl
  · intro i hi J hJ
    have hget := kids_get x.ks i hi
    have hd : decide ((i : Int) < x.ks.length) = true := by simp; omega
    have hd' : ((i : Int) < x.ks.length) = True := by simp; omega
    have hin := wrap_nat (n := i) (by omega)
    have hans := hk.ans x.ks[i] (List.getElem_mem hi)
    have hcur : (daftL w (x.ks.take i) S).length = w.size + 1 := daftL_len (fun k hk' => hk.len k (List.mem_of_mem_take hk')) S hS
    rw [List.take_succ_eq_append_getElem hi, daftL_snoc] at hJ
    have hr := fun σ => hans σ _ hcur
    generalize daftL w (x.ks.take i) S = cur at hcur hJ hr ⊢
    rw [av_eq] at hget
    simp only [av_eq] at hr
    simp -implicitDefEqProofs only [mkE, List.foldl_cons, List.foldl_nil, go_sem, List.reduceReplicate, Nat.reduceAdd, Nat.reduceSub, Nat.reduceLT, Nat.reduceLeDiff, Nat.reduceMul, Nat.reduceEqDiff, reduceCtorEq, Int.reduceLE, Int.reduceLT, Int.reduceEq, Int.reduceNe, Int.reduceBEq, Int.reduceBNe, Int.reduceAdd, Int.reduceSub, List.length_map, hd, hd', hget]
    refine CO.intro (hr _) ?_
    simp -implicitDefEqProofs only [go_sem, List.reduceReplicate, Nat.reduceAdd, Nat.reduceSub, Nat.reduceLT, Nat.reduceLeDiff, Nat.reduceMul, Nat.reduceEqDiff, reduceCtorEq, Int.reduceLE, Int.reduceLT, Int.reduceEq, Int.reduceNe, Int.reduceBEq, Int.reduceBNe, Int.reduceAdd, Int.reduceSub, hin]
    exact hJ
  · intro J
    have hd : decide ((x.ks.length : Int) < x.ks.length) = false := by simp
    have hcur : (daftL w x.ks S).length = w.size + 1 := daftL_len hk.len S hS
    rw [List.take_length]
    have h1 : (List.map Bo (daftL w x.ks S)).length = w.size + 1 := by rw [List.length_map]; exact hcur
    have htk := tk_bo hcur
    have hrl : (w.size + 1 = (List.replicate (w.size + 1) (AV.pl (Value.bool false))).length) = True := by simp
    have hq : (w.size + 1 = (List.map Bo (daftL w x.ks S)).length) = True := by simp [hcur]
    simp -implicitDefEqProofs only [mkE, List.foldl_cons, List.foldl_nil, go_sem, List.reduceReplicate, Nat.reduceAdd, Nat.reduceSub, Nat.reduceLT, Nat.reduceLeDiff, Nat.reduceMul, Nat.reduceEqDiff, reduceCtorEq, Int.reduceLE, Int.reduceLT, Int.reduceEq, Int.reduceNe, Int.reduceBEq, Int.reduceBNe, Int.reduceAdd, Int.reduceSub, List.length_map, hd, g0, s0, hcur, all_bo, hrl, min_self', htk, dr_rep, List.append_nil]
    exact Fini.trim2 (σ' := σ) rfl rfl (Nat.le_refl _) (bel_bv _ _) hbel
end Go.Proofs.Ytoadgajhkhejiaa
namespace Go.Proofs.Ytoadgajhkhejiaa
open Go Go.Ab Rex
set_option maxRecDepth 100000
theorem after_alt (w : ByteArray) (hw : w.size ≤ 100000) (x : Rex) (ho : x.op = 3) (hk : Kids w x) (hl : x.ks.length ≤ 1000) : After w x := by
  intro σ S hS
  rw [daft_eq]
  have e1 : ((3 : Int) == 1) = false := rfl
  have e2 : ((3 : Int) == 2) = false := rfl
  simp only [ho, e1, e2, beq_self_eq_true, if_true, Bool.false_eq_true, if_false]
  rw [av_eq, ho]
  refine Ans.of_run' t121 (fun hbel _ => ?_)
  have q0 : IntKind.i64.wrap ((w.size : Int) + 1) = ((w.size + 1 : Nat) : Int) := wrap_nat (by omega)
  have q1 : ((0 : Int) ≤ (w.size + 1 : Nat)) = True := by simp; omega
  have q2 : (((w.size + 1 : Nat) : Int) ≤ 4294967296) = True := by simp; omega
  have hrl : (w.size + 1 = (List.replicate (w.size + 1) (AV.pl (Value.bool false))).length) = True := by simp
  have hrl2 : (w.size = (List.replicate w.size (AV.pl (Value.bool false))).length) = True := by simp
  simp -implicitDefEqProofs only [c121, r121, go_sem, List.reduceReplicate, Nat.reduceAdd, Nat.reduceSub, Nat.reduceLT, Nat.reduceLeDiff, Nat.reduceMul, Nat.reduceEqDiff, reduceCtorEq, Int.reduceLE, Int.reduceLT, Int.reduceEq, Int.reduceNe, Int.reduceBEq, Int.reduceBNe, Int.reduceAdd, Int.reduceSub, D_callS, List.length_map, q0, q1, q2, Int.le_refl, Int.toNat_natCast, rep_cells, rep_take, hrl, hrl2, g0, s0]
  refine Go.Ab.L.count x.ks.length (fun i => mkE 130 [(1, Sx w), (2, bv S), (3, .rp [I 3, U x.a, U x.b, U x.c, U x.d, .sl 6 (x.ks.map av)]), (7, bv (daftA w (x.ks.take i) S (noB w))), (11, I i)])
    (fun i => σ ++ [.dead]) ?_ ?_ ?_ rfl
  · intro i hi J hJ
    have hget := kids_get x.ks i hi
    have hd : decide ((i : Int) < x.ks.length) = true := by simp; omega
    have hd' : ((i : Int) < x.ks.length) = True := by simp; omega
    have hin := wrap_nat (n := i) (by omega)
    have hans := hk.ans x.ks[i] (List.getElem_mem hi)
    have hkl := hk.len x.ks[i] (List.getElem_mem hi) S hS
    have hcur : (daftA w (x.ks.take i) S (noB w)).length = w.size + 1 := daftA_len S _ (noB_len w)
    rw [List.take_succ_eq_append_getElem hi, daftA_snoc] at hJ
    have hr := fun σ => hans σ S hS
    have hj := fun σ => join_ans σ (daftA w (x.ks.take i) S (noB w)) (daft w x.ks[i] S) (by rw [hcur, hkl]) (by omega)
    generalize daftA w (x.ks.take i) S (noB w) = cur at hcur hJ hj ⊢
    generalize daft w x.ks[i] S = nx at hJ hj hr
    rw [av_eq] at hget
    simp only [av_eq] at hr
    simp -implicitDefEqProofs only [mkE, List.foldl_cons, List.foldl_nil, go_sem, List.reduceReplicate, Nat.reduceAdd, Nat.reduceSub, Nat.reduceLT, Nat.reduceLeDiff, Nat.reduceMul, Nat.reduceEqDiff, reduceCtorEq, Int.reduceLE, Int.reduceLT, Int.reduceEq, Int.reduceNe, Int.reduceBEq, Int.reduceBNe, Int.reduceAdd, Int.reduceSub, List.length_map, hd, hd', hget]
    refine CO.intro (hr _) ?_
    simp -implicitDefEqProofs only [go_sem, List.reduceReplicate, Nat.reduceAdd, Nat.reduceSub, Nat.reduceLT, Nat.reduceLeDiff, Nat.reduceMul, Nat.reduceEqDiff, reduceCtorEq, Int.reduceLE, Int.reduceLT, Int.reduceEq, Int.reduceNe, Int.reduceBEq, Int.reduceBNe, Int.reduceAdd, Int.reduceSub]
    refine CO.intro (hj _) ?_
    simp -implicitDefEqProofs only [go_sem, List.reduceReplicate, Nat.reduceAdd, Nat.reduceSub, Nat.reduceLT, Nat.reduceLeDiff, Nat.reduceMul, Nat.reduceEqDiff, reduceCtorEq, Int.reduceLE, Int.reduceLT, Int.reduceEq, Int.reduceNe, Int.reduceBEq, Int.reduceBNe, Int.reduceAdd, Int.reduceSub, hin]
    exact hJ
  · intro J
    have hd : decide ((x.ks.length : Int) < x.ks.length) = false := by simp
    rw [List.take_length]
    simp -implicitDefEqProofs only [mkE, List.foldl_cons, List.foldl_nil, go_sem, List.reduceReplicate, Nat.reduceAdd, Nat.reduceSub, Nat.reduceLT, Nat.reduceLeDiff, Nat.reduceMul, Nat.reduceEqDiff, reduceCtorEq, Int.reduceLE, Int.reduceLT, Int.reduceEq, Int.reduceNe, Int.reduceBEq, Int.reduceBNe, Int.reduceAdd, Int.reduceSub, List.length_map, hd]
    exact Fini.trim2 (σ' := σ) rfl rfl (Nat.le_refl _) (bel_bv _ _) hbel
  · have e0 : (noB w).map Bo = Bo false :: List.replicate w.size (Bo false) := by simp [noB, List.replicate_succ]
    have e4 : daftA w (x.ks.take 0) S (noB w) = noB w := rfl
    rw [e4]
    show _ = mkE 130 [(1, Sx w), (2, bv S), (3, _), (7, .sl 1 ((noB w).map Bo)), (11, I (0 : Nat))]
    rw [e0]; rfl
theorem after_maybe (w : ByteArray) (hw : w.size ≤ 100000) (x k : Rex) (ho : x.op = 6) (hks : x.ks = [k]) (hk : Kids w x) : After w x := by
  intro σ S hS
  rw [daft_eq]
  have e1 : ((6 : Int) == 1) = false := rfl
  have e2 : ((6 : Int) == 2) = false := rfl
  have e3 : ((6 : Int) == 3) = false := rfl
  simp only [ho, e1, e2, e3, beq_self_eq_true, if_true, Bool.false_eq_true, if_false, hks, daftH]
  have hans := hk.ans k (by rw [hks]; exact List.mem_cons_self) 
  have hkl := hk.len k (by rw [hks]; exact List.mem_cons_self) S hS
  rw [av_eq, ho, hks]
  refine Ans.of_run' t121 (fun hbel _ => ?_)
  have q0 : IntKind.i64.wrap ((w.size : Int) + 1) = ((w.size + 1 : Nat) : Int) := wrap_nat (by omega)
  have q1 : ((0 : Int) ≤ (w.size + 1 : Nat)) = True := by simp; omega
  have q2 : (((w.size + 1 : Nat) : Int) ≤ 4294967296) = True := by simp; omega
  have hr := fun σ => hans σ S hS
  have hj := fun σ => join_ans σ S (daft w k S) (by rw [hS, hkl]) (by omega)
  generalize daft w k S = nx at hj hr ⊢
  simp only [av_eq] at hr
  simp -implicitDefEqProofs only [c121, r121, go_sem, List.reduceReplicate, Nat.reduceAdd, Nat.reduceSub, Nat.reduceLT, Nat.reduceLeDiff, Nat.reduceMul, Nat.reduceEqDiff, reduceCtorEq, Int.reduceLE, Int.reduceLT, Int.reduceEq, Int.reduceNe, Int.reduceBEq, Int.reduceBNe, Int.reduceAdd, Int.reduceSub, D_callS, List.length_map, q0, q1, q2, Int.le_refl, Int.toNat_natCast, rep_cells, rep_take, List.map_cons, List.map_nil, av_eq]
  refine CO.intro (hr _) ?_
  simp -implicitDefEqProofs only [go_sem, List.reduceReplicate, Nat.reduceAdd, Nat.reduceSub, Nat.reduceLT, Nat.reduceLeDiff, Nat.reduceMul, Nat.reduceEqDiff, reduceCtorEq, Int.reduceLE, Int.reduceLT, Int.reduceEq, Int.reduceNe, Int.reduceBEq, Int.reduceBNe, Int.reduceAdd, Int.reduceSub]
  refine CO.intro (hj _) ?_
  simp -implicitDefEqProofs only [go_sem, List.reduceReplicate, Nat.reduceAdd, Nat.reduceSub, Nat.reduceLT, Nat.reduceLeDiff, Nat.reduceMul, Nat.reduceEqDiff, reduceCtorEq, Int.reduceLE, Int.reduceLT, Int.reduceEq, Int.reduceNe, Int.reduceBEq, Int.reduceBNe, Int.reduceAdd, Int.reduceSub]
  exact Fini.trim2 (σ' := σ) rfl rfl (Nat.le_refl _) (bel_bv _ _) hbel
end Go.Proofs.Ytoadgajhkhejiaa
namespace Go.Proofs.Ytoadgajhkhejiaa
open Go Go.Ab Rex
set_option maxRecDepth 100000
theorem after_star (w : ByteArray) (hw : w.size ≤ 100000) (x0 k : Rex) (ho : x0.op = 4) (hks : x0.ks = [k]) (hk : Kids w x0) : After w x0 := by
  intro σ S hS
  rw [daft_eq]
  have e1 : ((4 : Int) == 1) = false := rfl
  have e2 : ((4 : Int) == 2) = false := rfl
  have e3 : ((4 : Int) == 3) = false := rfl
  have e5 : ((4 : Int) == 5) = false := rfl
  have e6 : ((4 : Int) == 6) = false := rfl
  simp only [ho, e1, e2, e3, e5, e6, Bool.false_eq_true, if_false, hks, daftH]
  have hans := hk.ans k (by rw [hks]; exact List.mem_cons_self)
  have hkl := hk.len k (by rw [hks]; exact List.mem_cons_self)
  rw [av_eq, ho, hks]
  refine Ans.of_run' t121 (fun hbel _ => ?_)
  have q0 : IntKind.i64.wrap ((w.size : Int) + 1) = ((w.size + 1 : Nat) : Int) := wrap_nat (by omega)
  have q1 : ((0 : Int) ≤ (w.size + 1 : Nat)) = True := by simp; omega
  have q2 : (((w.size + 1 : Nat) : Int) ≤ 4294967296) = True := by simp; omega
  have hrl : (w.size + 1 = (List.replicate (w.size + 1) (AV.pl (Value.bool false))).length) = True := by simp
  have hrl2 : (w.size = (List.replicate w.size (AV.pl (Value.bool false))).length) = True := by simp
  have htk := tk_bo hS
  have hSl : (w.size + 1 = S.length) = True := by simp [hS]
  generalize hres : starL (daft w k) (w.size + 1) S = res
  have dr2 : List.drop (w.size + 1) (AV.pl (.bool false) :: List.replicate w.size (AV.pl (.bool false))) = [] := by simp
  simp -implicitDefEqProofs only [c121, r121, go_sem, List.reduceReplicate, Nat.reduceAdd, Nat.reduceSub, Nat.reduceLT, Nat.reduceLeDiff, Nat.reduceMul, Nat.reduceEqDiff, reduceCtorEq, Int.reduceLE, Int.reduceLT, Int.reduceEq, Int.reduceNe, Int.reduceBEq, Int.reduceBNe, Int.reduceAdd, Int.reduceSub, D_callS, List.length_map, q0, q1, q2, Int.le_refl, Int.toNat_natCast, rep_cells, rep_take, hrl, hrl2, g0, s0, all_bo, hS, min_self', htk, dr_rep, dr2, List.append_nil, hSl, List.map_cons, List.map_nil]
  refine Go.Ab.L.intro (α := { x : Nat × List Bool // x.1 ≤ w.size + 1 ∧ x.2.length = w.size + 1 ∧ starL (daft w k) (w.size + 1 - x.1) x.2 = res })
    (fun x => w.size + 1 - x.1.1)
    (fun x => mkE 130 [(1, Sx w), (3, .rp [I 4, U x0.a, U x0.b, U x0.c, U x0.d, .sl 6 [k.av]]), (7, bv x.1.2), (12, I x.1.1)])
    (fun x => σ ++ [.dead])
    (fun x J hJ => ?_) ⟨(0, S), Nat.zero_le _, hS, hres⟩ ?_ rfl
  · obtain ⟨⟨i, cur⟩, h1, h2, h3⟩ := x
    simp only at h1 h2 h3 hJ ⊢
    by_cases hi : i ≤ w.size
    · have hd : decide ((i : Int) ≤ w.size) = true := by simp; omega
      have hin := wrap_nat (n := i) (by omega)
      have hr := fun σ => hans σ cur h2
      have hnl := hkl cur h2
      rw [show w.size + 1 - i = (w.size - i) + 1 by omega, starL] at h3
      have hj := fun σ => join_ans σ cur (daft w k cur) (by rw [h2, hnl]) (by omega)
      have hjl : (joinB cur (daft w k cur)).length = w.size + 1 := by rw [joinB_len]; exact h2
      have hs := fun σ => same_ans σ (joinB cur (daft w k cur)) cur (by rw [hjl, h2]) (by omega)
      generalize joinB cur (daft w k cur) = jn at h3 hj hs hjl
      generalize daft w k cur = nx at hr hj
      simp only [av_eq] at hr
      simp -implicitDefEqProofs only [mkE, List.foldl_cons, List.foldl_nil, go_sem, List.reduceReplicate, Nat.reduceAdd, Nat.reduceSub, Nat.reduceLT, Nat.reduceLeDiff, Nat.reduceMul, Nat.reduceEqDiff, reduceCtorEq, Int.reduceLE, Int.reduceLT, Int.reduceEq, Int.reduceNe, Int.reduceBEq, Int.reduceBNe, Int.reduceAdd, Int.reduceSub, List.length_map, hd, av_eq]
      refine CO.intro (hr _) ?_
      simp -implicitDefEqProofs only [go_sem, List.reduceReplicate, Nat.reduceAdd, Nat.reduceSub, Nat.reduceLT, Nat.reduceLeDiff, Nat.reduceMul, Nat.reduceEqDiff, reduceCtorEq, Int.reduceLE, Int.reduceLT, Int.reduceEq, Int.reduceNe, Int.reduceBEq, Int.reduceBNe, Int.reduceAdd, Int.reduceSub]
      refine CO.intro (hj _) ?_
      simp -implicitDefEqProofs only [go_sem, List.reduceReplicate, Nat.reduceAdd, Nat.reduceSub, Nat.reduceLT, Nat.reduceLeDiff, Nat.reduceMul, Nat.reduceEqDiff, reduceCtorEq, Int.reduceLE, Int.reduceLT, Int.reduceEq, Int.reduceNe, Int.reduceBEq, Int.reduceBNe, Int.reduceAdd, Int.reduceSub]
      refine CO.intro (hs _) ?_
      cases hb : (jn == cur) with
      | true =>
        rw [hb, if_pos rfl] at h3
        subst h3
        simp -implicitDefEqProofs only [go_sem, List.reduceReplicate, Nat.reduceAdd, Nat.reduceSub, Nat.reduceLT, Nat.reduceLeDiff, Nat.reduceMul, Nat.reduceEqDiff, reduceCtorEq, Int.reduceLE, Int.reduceLT, Int.reduceEq, Int.reduceNe, Int.reduceBEq, Int.reduceBNe, Int.reduceAdd, Int.reduceSub]
        exact Fini.trim2 (σ' := σ) rfl rfl (Nat.le_refl _) (bel_bv _ _) hbel
      | false =>
        rw [hb, if_neg Bool.false_ne_true] at h3
        simp -implicitDefEqProofs only [go_sem, List.reduceReplicate, Nat.reduceAdd, Nat.reduceSub, Nat.reduceLT, Nat.reduceLeDiff, Nat.reduceMul, Nat.reduceEqDiff, reduceCtorEq, Int.reduceLE, Int.reduceLT, Int.reduceEq, Int.reduceNe, Int.reduceBEq, Int.reduceBNe, Int.reduceAdd, Int.reduceSub, hin]
        have := hJ ⟨(i + 1, jn), by omega, hjl, by rw [show w.size + 1 - (i + 1) = w.size - i by omega]; exact h3⟩ (by simp only; omega)
        simp only [av_eq] at this
        exact this
    · have hd : decide ((i : Int) ≤ w.size) = false := by simp; omega
      rw [show w.size + 1 - i = 0 by omega, starL] at h3
      subst h3
      simp -implicitDefEqProofs only [mkE, List.foldl_cons, List.foldl_nil, go_sem, List.reduceReplicate, Nat.reduceAdd, Nat.reduceSub, Nat.reduceLT, Nat.reduceLeDiff, Nat.reduceMul, Nat.reduceEqDiff, reduceCtorEq, Int.reduceLE, Int.reduceLT, Int.reduceEq, Int.reduceNe, Int.reduceBEq, Int.reduceBNe, Int.reduceAdd, Int.reduceSub, List.length_map, hd]
      exact Fini.trim2 (σ' := σ) rfl rfl (Nat.le_refl _) (bel_bv _ _) hbel
  · rfl
theorem after_plus (w : ByteArray) (hw : w.size ≤ 100000) (x0 k : Rex) (ho : x0.op = 5) (hks : x0.ks = [k]) (hk : Kids w x0) : After w x0 := by
  intro σ S hS
  rw [daft_eq]
  have e1 : ((5 : Int) == 1) = false := rfl
  have e2 : ((5 : Int) == 2) = false := rfl
  have e3 : ((5 : Int) == 3) = false := rfl
  have e6 : ((5 : Int) == 6) = false := rfl
  simp only [ho, e1, e2, e3, e6, beq_self_eq_true, if_true, Bool.false_eq_true, if_false, hks, daftH]
  have hans := hk.ans k (by rw [hks]; exact List.mem_cons_self)
  have hkl := hk.len k (by rw [hks]; exact List.mem_cons_self)
  rw [av_eq, ho, hks]
  refine Ans.of_run' t121 (fun hbel _ => ?_)
  have q0 : IntKind.i64.wrap ((w.size : Int) + 1) = ((w.size + 1 : Nat) : Int) := wrap_nat (by omega)
  have q1 : ((0 : Int) ≤ (w.size + 1 : Nat)) = True := by simp; omega
  have q2 : (((w.size + 1 : Nat) : Int) ≤ 4294967296) = True := by simp; omega
  have hr1 := fun σ => hans σ S hS
  have hl1 := hkl S hS
  generalize hres : starL (daft w k) (w.size + 1) (daft w k S) = res
  generalize daft w k S = S1 at hr1 hl1 hres
  simp only [av_eq] at hr1
  simp -implicitDefEqProofs only [c121, r121, go_sem, List.reduceReplicate, Nat.reduceAdd, Nat.reduceSub, Nat.reduceLT, Nat.reduceLeDiff, Nat.reduceMul, Nat.reduceEqDiff, reduceCtorEq, Int.reduceLE, Int.reduceLT, Int.reduceEq, Int.reduceNe, Int.reduceBEq, Int.reduceBNe, Int.reduceAdd, Int.reduceSub, D_callS, List.length_map, q0, q1, q2, Int.le_refl, Int.toNat_natCast, rep_cells, rep_take, List.map_cons, List.map_nil, av_eq]
  refine CO.intro (hr1 _) ?_
  simp -implicitDefEqProofs only [go_sem, List.reduceReplicate, Nat.reduceAdd, Nat.reduceSub, Nat.reduceLT, Nat.reduceLeDiff, Nat.reduceMul, Nat.reduceEqDiff, reduceCtorEq, Int.reduceLE, Int.reduceLT, Int.reduceEq, Int.reduceNe, Int.reduceBEq, Int.reduceBNe, Int.reduceAdd, Int.reduceSub, List.length_map]
  refine Go.Ab.L.intro (α := { x : Nat × List Bool // x.1 ≤ w.size + 1 ∧ x.2.length = w.size + 1 ∧ starL (daft w k) (w.size + 1 - x.1) x.2 = res })
    (fun x => w.size + 1 - x.1.1)
    (fun x => mkE 130 [(1, Sx w), (3, .rp [I 5, U x0.a, U x0.b, U x0.c, U x0.d, .sl 6 [k.av]]), (7, bv x.1.2), (12, I x.1.1)])
    (fun x => σ ++ [.row 1 (List.replicate (w.size + 1) (.pl (.bool false)))])
    (fun x J hJ => ?_) ⟨(0, S1), Nat.zero_le _, hl1, hres⟩ ?_ rfl
  · obtain ⟨⟨i, cur⟩, h1, h2, h3⟩ := x
    simp only at h1 h2 h3 hJ ⊢
    by_cases hi : i ≤ w.size
    · have hd : decide ((i : Int) ≤ w.size) = true := by simp; omega
      have hin := wrap_nat (n := i) (by omega)
      have hr := fun σ => hans σ cur h2
      have hnl := hkl cur h2
      rw [show w.size + 1 - i = (w.size - i) + 1 by omega, starL] at h3
      have hj := fun σ => join_ans σ cur (daft w k cur) (by rw [h2, hnl]) (by omega)
      have hjl : (joinB cur (daft w k cur)).length = w.size + 1 := by rw [joinB_len]; exact h2
      have hs := fun σ => same_ans σ (joinB cur (daft w k cur)) cur (by rw [hjl, h2]) (by omega)
      generalize joinB cur (daft w k cur) = jn at h3 hj hs hjl
      generalize daft w k cur = nx at hr hj
      simp only [av_eq] at hr
      simp -implicitDefEqProofs only [mkE, List.foldl_cons, List.foldl_nil, go_sem, List.reduceReplicate, Nat.reduceAdd, Nat.reduceSub, Nat.reduceLT, Nat.reduceLeDiff, Nat.reduceMul, Nat.reduceEqDiff, reduceCtorEq, Int.reduceLE, Int.reduceLT, Int.reduceEq, Int.reduceNe, Int.reduceBEq, Int.reduceBNe, Int.reduceAdd, Int.reduceSub, List.length_map, hd, av_eq]
      refine CO.intro (hr _) ?_
      simp -implicitDefEqProofs only [go_sem, List.reduceReplicate, Nat.reduceAdd, Nat.reduceSub, Nat.reduceLT, Nat.reduceLeDiff, Nat.reduceMul, Nat.reduceEqDiff, reduceCtorEq, Int.reduceLE, Int.reduceLT, Int.reduceEq, Int.reduceNe, Int.reduceBEq, Int.reduceBNe, Int.reduceAdd, Int.reduceSub]
      refine CO.intro (hj _) ?_
      simp -implicitDefEqProofs only [go_sem, List.reduceReplicate, Nat.reduceAdd, Nat.reduceSub, Nat.reduceLT, Nat.reduceLeDiff, Nat.reduceMul, Nat.reduceEqDiff, reduceCtorEq, Int.reduceLE, Int.reduceLT, Int.reduceEq, Int.reduceNe, Int.reduceBEq, Int.reduceBNe, Int.reduceAdd, Int.reduceSub]
      refine CO.intro (hs _) ?_
      cases hb : (jn == cur) with
      | true =>
        rw [hb, if_pos rfl] at h3
        subst h3
        simp -implicitDefEqProofs only [go_sem, List.reduceReplicate, Nat.reduceAdd, Nat.reduceSub, Nat.reduceLT, Nat.reduceLeDiff, Nat.reduceMul, Nat.reduceEqDiff, reduceCtorEq, Int.reduceLE, Int.reduceLT, Int.reduceEq, Int.reduceNe, Int.reduceBEq, Int.reduceBNe, Int.reduceAdd, Int.reduceSub]
        exact Fini.trim2 (σ' := σ) rfl rfl (Nat.le_refl _) (bel_bv _ _) hbel
      | false =>
        rw [hb, if_neg Bool.false_ne_true] at h3
        simp -implicitDefEqProofs only [go_sem, List.reduceReplicate, Nat.reduceAdd, Nat.reduceSub, Nat.reduceLT, Nat.reduceLeDiff, Nat.reduceMul, Nat.reduceEqDiff, reduceCtorEq, Int.reduceLE, Int.reduceLT, Int.reduceEq, Int.reduceNe, Int.reduceBEq, Int.reduceBNe, Int.reduceAdd, Int.reduceSub, hin]
        have := hJ ⟨(i + 1, jn), by omega, hjl, by rw [show w.size + 1 - (i + 1) = w.size - i by omega]; exact h3⟩ (by simp only; omega)
        simp only [av_eq] at this
        exact this
    · have hd : decide ((i : Int) ≤ w.size) = false := by simp; omega
      rw [show w.size + 1 - i = 0 by omega, starL] at h3
      subst h3
      simp -implicitDefEqProofs only [mkE, List.foldl_cons, List.foldl_nil, go_sem, List.reduceReplicate, Nat.reduceAdd, Nat.reduceSub, Nat.reduceLT, Nat.reduceLeDiff, Nat.reduceMul, Nat.reduceEqDiff, reduceCtorEq, Int.reduceLE, Int.reduceLT, Int.reduceEq, Int.reduceNe, Int.reduceBEq, Int.reduceBNe, Int.reduceAdd, Int.reduceSub, List.length_map, hd]
      exact Fini.trim2 (σ' := σ) rfl rfl (Nat.le_refl _) (bel_bv _ _) hbel
  · simp only [av_eq]; rfl
end Go.Proofs.Ytoadgajhkhejiaa
