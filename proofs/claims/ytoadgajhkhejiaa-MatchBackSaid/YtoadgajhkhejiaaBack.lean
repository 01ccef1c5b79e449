/- MatchBack answers true at any input. No condition. -/
import Derived.Test.YtoadgajhkhejiaaMr5
set_option linter.unusedSimpArgs false
set_option linter.unusedVariables false
namespace Go.Proofs.Ytoadgajhkhejiaa
open Go Go.Ab Go.Cod Go.ChangeShapes Go.WideShapes Go.ChangeAt Go.RowKit
set_option maxRecDepth 100000
theorem mr_ba (σ : St) : Ans Try.prog 14 [] σ (Bo true) σ := mr_ok.frame (bel_all rfl) σ
theorem readV_none {α : Type} {r : Option (α × Byt)} {b : Byt} {enc : α → AV} {z : AV} (h : r = none) : readV r b enc z = .tup [z, I 0, Bo false] := by subst h; rfl
theorem readV_some {α : Type} {r : Option (α × Byt)} {b : Byt} {enc : α → AV} {z : AV} {x : α} {t : Byt} (h : r = some (x, t)) : readV r b enc z = .tup [enc x, I (b.length - t.length : Nat), Bo true] := by subst h; rfl
theorem matchBack_ans (ds : List (Int × Int × Int)) (hds : ds.length ≤ 9223372036854775807) (tail : Byt) (c : Int) : Ans Try.prog 12 [.sl 3 (ds.map dv), .sl 1 (byv tail), I c] [] (.pl (.bool true)) [] := by
  have hL := listB_mats ds
  have hms := fun σ => mats_ans σ ds hds
  generalize matsGo ds [] = M at hL hms
  have hM5 := listB_at hL
  have hpl := preL_len hL M.length (Nat.le_refl _)
  rw [preL_all] at hpl
  have hbL : bytesL M = putL M := by unfold bytesL; rw [hL]; rfl
  have hmb := fun σ => mbytes_ans σ M
  rw [hbL] at hmb
  have hne : 0 < (putL M).length := by
    have := putN_ne M.length
    unfold putL laidRow
    cases h : putN M.length with
    | nil => exact absurd h this
    | cons a b => simp
  have hback : listR (putL M ++ tail) = some (M, tail) := listB_fits.fwd M tail hL
  have hcut : ∀ k, k < (putL M).length → listR ((putL M).take k) = none := fun k hk => listB_fits.cut hL hk
  generalize hpe : putL M = pb at hmb hne hback hcut hpl
  have d300 : decide ((300 : Int) < tail.length) = decide (300 < tail.length) := decNN 300 _
  refine Ans.of_run t12 ?_
  by_cases ht : 300 < tail.length
  · simp -implicitDefEqProofs only [c12, r12, go_sem, List.reduceReplicate, Nat.reduceAdd, Nat.reduceSub, Nat.reduceLT, Nat.reduceLeDiff, Nat.reduceMul, Nat.reduceEqDiff, reduceCtorEq, Int.reduceLE, Int.reduceLT, Int.reduceEq, Int.reduceNe, Int.reduceBEq, Int.reduceBNe, Int.reduceAdd, Int.reduceSub, byv_len, d300, decide_eq_true ht]
    refine CO.intro (mr_ba _) ?_
    simp -implicitDefEqProofs only [go_sem, List.reduceReplicate, Nat.reduceAdd, Nat.reduceSub, Nat.reduceLT, Nat.reduceLeDiff, Nat.reduceMul, Nat.reduceEqDiff, reduceCtorEq, Int.reduceLE, Int.reduceLT, Int.reduceEq, Int.reduceNe, Int.reduceBEq, Int.reduceBNe, Int.reduceAdd, Int.reduceSub]
    exact Fini.ret rfl
  · simp -implicitDefEqProofs only [c12, r12, go_sem, List.reduceReplicate, Nat.reduceAdd, Nat.reduceSub, Nat.reduceLT, Nat.reduceLeDiff, Nat.reduceMul, Nat.reduceEqDiff, reduceCtorEq, Int.reduceLE, Int.reduceLT, Int.reduceEq, Int.reduceNe, Int.reduceBEq, Int.reduceBNe, Int.reduceAdd, Int.reduceSub, byv_len, d300, decide_eq_false ht]
    refine CO.intro (hms _) ?_
    simp -implicitDefEqProofs only [go_sem, List.reduceReplicate, Nat.reduceAdd, Nat.reduceSub, Nat.reduceLT, Nat.reduceLeDiff, Nat.reduceMul, Nat.reduceEqDiff, reduceCtorEq, Int.reduceLE, Int.reduceLT, Int.reduceEq, Int.reduceNe, Int.reduceBEq, Int.reduceBNe, Int.reduceAdd, Int.reduceSub]
    refine CO.intro (hmb _) ?_
    have he : pb.isEmpty = false := by cases pb with
      | nil => simp at hne
      | cons _ _ => rfl
    have l1 : pb.length ≤ 4294967296 := by omega
    have l2 : pb.length + tail.length ≤ 4294967296 := by omega
    simp -implicitDefEqProofs only [go_sem, List.reduceReplicate, Nat.reduceAdd, Nat.reduceSub, Nat.reduceLT, Nat.reduceLeDiff, Nat.reduceMul, Nat.reduceEqDiff, reduceCtorEq, Int.reduceLE, Int.reduceLT, Int.reduceEq, Int.reduceNe, Int.reduceBEq, Int.reduceBNe, Int.reduceAdd, Int.reduceSub, byv_all', bc, byv_empty, he, byv_len, l1, l2]
    rw [← byv_append]
    refine CO.intro (Ans.shutArg (pre := []) (post := []) (σ := [.row 1 (byv (pb ++ tail))]) (xs := byv (pb ++ tail)) rfl (by rw [byv_len, List.length_append]) (mread_ans _ (pb ++ tail) (by rw [List.length_append]; omega))) ?_
    rw [readV_some hback]
    have e1 : (pb ++ tail).length - tail.length = pb.length := by rw [List.length_append]; omega
    have d1 : decide ((pb.length : Int) < 1) = false := by simp; omega
    have d2 : ((pb.length : Int) != pb.length) = false := by simp
    have hsm : ∀ σ, Ans Try.prog 45 [.sl 3 (mvs3 M), .sl 3 (mvs M)] σ (Bo true) σ := fun σ => by
      have := samem_ans σ M M (by omega)
      rw [sameM_refl] at this; exact this
    simp -implicitDefEqProofs only [go_sem, List.reduceReplicate, Nat.reduceAdd, Nat.reduceSub, Nat.reduceLT, Nat.reduceLeDiff, Nat.reduceMul, Nat.reduceEqDiff, reduceCtorEq, Int.reduceLE, Int.reduceLT, Int.reduceEq, Int.reduceNe, Int.reduceBEq, Int.reduceBNe, Int.reduceAdd, Int.reduceSub, e1, d1, d2, byv_len]
    refine CO.intro (hsm _) ?_
    obtain ⟨k0, hk⟩ : ∃ k0 : Nat, (c < 0 ∧ k0 = 0) ∨ (c = k0) := by
      by_cases hc : c < 0
      · exact ⟨0, .inl ⟨hc, rfl⟩⟩
      · exact ⟨c.toNat, .inr (by omega)⟩
    have hlt : k0 % pb.length < pb.length := Nat.mod_lt _ hne
    have hz : ((pb.length : Int) = 0) = False := eq_false (by omega)
    have e2 : ((k0 : Int).tmod pb.length) = ((k0 % pb.length : Nat) : Int) := rfl
    have e3 : (((k0 % pb.length : Nat) : Int) ≤ (pb.length : Nat)) = True := eq_true (Int.ofNat_le.2 (Nat.le_of_lt hlt))
    have hrd := mread_ans [Ob.dead] (pb.take (k0 % pb.length)) (by rw [List.length_take]; omega)
    rw [readV_none (hcut _ hlt)] at hrd
    rcases hk with ⟨hc, rfl⟩ | rfl
    · have dc : decide (c < 0) = true := by simpa using hc
      have e4 : ((0 : Int).tmod pb.length) = ((0 % pb.length : Nat) : Int) := by simp
      simp -implicitDefEqProofs only [go_sem, List.reduceReplicate, Nat.reduceAdd, Nat.reduceSub, Nat.reduceLT, Nat.reduceLeDiff, Nat.reduceMul, Nat.reduceEqDiff, reduceCtorEq, Int.reduceLE, Int.reduceLT, Int.reduceEq, Int.reduceNe, Int.reduceBEq, Int.reduceBNe, Int.reduceAdd, Int.reduceSub, dc, hz, e4, e3, byv_len, byv_take, byv_drop]
      refine CO.intro hrd ?_
      simp -implicitDefEqProofs only [go_sem, List.reduceReplicate, Nat.reduceAdd, Nat.reduceSub, Nat.reduceLT, Nat.reduceLeDiff, Nat.reduceMul, Nat.reduceEqDiff, reduceCtorEq, Int.reduceLE, Int.reduceLT, Int.reduceEq, Int.reduceNe, Int.reduceBEq, Int.reduceBNe, Int.reduceAdd, Int.reduceSub]
      refine CO.intro (mr_ba _) ?_
      simp -implicitDefEqProofs only [go_sem, List.reduceReplicate, Nat.reduceAdd, Nat.reduceSub, Nat.reduceLT, Nat.reduceLeDiff, Nat.reduceMul, Nat.reduceEqDiff, reduceCtorEq, Int.reduceLE, Int.reduceLT, Int.reduceEq, Int.reduceNe, Int.reduceBEq, Int.reduceBNe, Int.reduceAdd, Int.reduceSub]
      exact Fini.trim2 (σ' := []) rfl rfl (Nat.le_refl _) (.pl _) (fun o ho => by cases ho)
    · have dc : decide ((k0 : Int) < 0) = false := by simp
      simp -implicitDefEqProofs only [go_sem, List.reduceReplicate, Nat.reduceAdd, Nat.reduceSub, Nat.reduceLT, Nat.reduceLeDiff, Nat.reduceMul, Nat.reduceEqDiff, reduceCtorEq, Int.reduceLE, Int.reduceLT, Int.reduceEq, Int.reduceNe, Int.reduceBEq, Int.reduceBNe, Int.reduceAdd, Int.reduceSub, dc, hz, e2, e3, byv_len, byv_take, byv_drop]
      refine CO.intro hrd ?_
      simp -implicitDefEqProofs only [go_sem, List.reduceReplicate, Nat.reduceAdd, Nat.reduceSub, Nat.reduceLT, Nat.reduceLeDiff, Nat.reduceMul, Nat.reduceEqDiff, reduceCtorEq, Int.reduceLE, Int.reduceLT, Int.reduceEq, Int.reduceNe, Int.reduceBEq, Int.reduceBNe, Int.reduceAdd, Int.reduceSub]
      refine CO.intro (mr_ba _) ?_
      simp -implicitDefEqProofs only [go_sem, List.reduceReplicate, Nat.reduceAdd, Nat.reduceSub, Nat.reduceLT, Nat.reduceLeDiff, Nat.reduceMul, Nat.reduceEqDiff, reduceCtorEq, Int.reduceLE, Int.reduceLT, Int.reduceEq, Int.reduceNe, Int.reduceBEq, Int.reduceBNe, Int.reduceAdd, Int.reduceSub]
      exact Fini.trim2 (σ' := []) rfl rfl (Nat.le_refl _) (.pl _) (fun o ho => by cases ho)
def QMat : List AV → Prop := fun xs => ∃ d : Int × Int × Int, xs = [I d.1, I d.2.1, I d.2.2]
theorem reads_mat (f : Nat) : Reads Try.prog 33 f QMat := by
  cases f with
  | zero => exact Reads.zero
  | succ f =>
    have h := Reads.struct (P := Try.prog) (t := 33) (f := f) (Qs := [QInt .i64, QInt .i64, QInt .i64]) Try.underlying33 (by kernel_rfl) rfl (by
      intro p hp
      simp only [List.zip_cons_cons, List.zip_nil_right, List.mem_cons, List.not_mem_nil, or_false] at hp
      rcases hp with rfl | rfl | rfl
      · exact Reads.int Try.underlying3 f
      · exact Reads.int Try.underlying3 f
      · exact Reads.int Try.underlying3 f)
    refine h.mono fun xs hq => ?_
    obtain ⟨_, b, rfl, ⟨k, _, rfl⟩, _, d, rfl, ⟨n, _, rfl⟩, _, _, rfl, ⟨v, _, rfl⟩, rfl⟩ := hq
    exact ⟨(k, n, v), rfl⟩
theorem dmats_of : ∀ {ys : List (List AV)}, (∀ y ∈ ys, QMat y) → ∃ ds : List (Int × Int × Int), ds.length = ys.length ∧ ys.map (wrapC true) = ds.map dv
  | [], _ => ⟨[], rfl, rfl⟩
  | y :: ys, h => by
    obtain ⟨d, rfl⟩ := h y List.mem_cons_self
    obtain ⟨ds, hl, hns⟩ := dmats_of fun y hy => h y (List.mem_cons_of_mem _ hy)
    exact ⟨d :: ds, by simp [hl], by rw [List.map_cons, hns]; rfl⟩
theorem dmats_arg {H : Type} {enc : TypeId × Value → H} {W : World} {base : Nat} {v : Value} {d : DataW H} {ps : List MemPlace} (hv : Value.okWide Try.prog W .any base 39 v)
    (h : DataW.Trod enc Try.prog W 0 (fun _ => true) true 39 v d ps) : ∃ ds : List (Int × Int × Int), ds.length ≤ 9223372036854775807 ∧ Rep noM noR W (.sl 3 (ds.map dv)) v := by
  obtain ⟨sa, len, cap, rfl⟩ := okWide_slice Try.underlying39 hv
  obtain ⟨x, hx, hq⟩ := Reads.arg (P := Try.prog) (t := 39) (Q := QSlice 3 true QMat) (fun f => by
    cases f with
    | zero => exact Reads.zero
    | succ f => exact Reads.slice true Try.underlying39 (by kernel_rfl) (by decide) (reads_mat f) (fun _ _ _ => rfl)) rfl h
  rcases hq with hq | ⟨ys, hys, hlen, hq⟩
  · simp only [List.cons.injEq, and_true] at hq
    subst hq
    refine ⟨[], by simp, ?_⟩
    cases hx
    exact .sl0 _ _ _
  · obtain ⟨ns, hl, hn⟩ := dmats_of hys
    simp only [List.cons.injEq, and_true] at hq
    subst hq
    rw [hn] at hx
    have hml : maxLen = 9223372036854775807 := by decide
    exact ⟨ns, by omega, hx⟩
theorem int_arg {H : Type} {enc : TypeId × Value → H} {W : World} {base : Nat} {v : Value} {d : DataW H} {ps : List MemPlace} (hv : Value.okWide Try.prog W .any base 3 v)
    (h : DataW.Trod enc Try.prog W 0 (fun _ => true) true 3 v d ps) : ∃ n : Int, Rep noM noR W (I n) v := by
  obtain ⟨n, rfl⟩ := okWide_int Try.underlying3 hv
  obtain ⟨x, hx, m, hm, e⟩ := Reads.arg (P := Try.prog) (t := 3) (fun f => Reads.int Try.underlying3 f) rfl h
  simp only [List.cons.injEq, and_true] at e
  subst e
  exact ⟨m, hx⟩
theorem own_knob : ownKnob Try.prog.godebug = none := by kernel_rfl
theorem laid_out : laidOutB Try.prog = true := by kernel_rfl
theorem matchBack_lifted (os : Os) (started : os.Started) (H : Type) (enc : TypeId × Value → H) :
    ReturnsInHanded {} Try.checked os 12 .any (Rows.matchBackSpec.pre6 enc Try.prog Try.f12 Rows.matchBackRow.domain false) (Rows.matchBackSpec.post enc Try.prog Try.f12 false true false false) := by
  refine returnsInHanded_of_change (C := Try.checked) own_knob started (by kernel_rfl) Try.func12
    (ChangeSpec.witness6 (enc := enc) (C := Try.checked) false ⟨#[], #[.slice none 0 0, .slice none 0 0, .int .i64 0], []⟩ 8 (by kernel_rfl) (by kernel_rfl) (by kernel_rfl) (by kernel_rfl)) ?_
  intro W base args ds gs before hval0 hW hcnd _
  have hval : ∀ (j : Nat) t v, Try.f12.params[j]? = some t → args[j]? = some v → Value.okWide Try.prog W .any base t v := hval0
  have hW' := hW
  obtain ⟨p, q, hA0, hV, rfl, hfz, hnd⟩ := hW
  have hA : DataW.TrodAll enc Try.prog W 0 (fun _ => true) true Try.f12.params.toList args.toList ds p := hA0
  rw [Try.params12] at hA hval
  obtain ⟨v0, vs0, d0, ds0, a0, b0, hargs, rfl, rfl, h0, hA⟩ := trodAll_cons hA
  obtain ⟨v1, vs1, d1, ds1, a1, b1, rfl, rfl, rfl, h1, hA⟩ := trodAll_cons hA
  obtain ⟨v2, vs2, d2, ds2, a2, b2, rfl, rfl, rfl, h2, hA⟩ := trodAll_cons hA
  obtain ⟨rfl, rfl, rfl⟩ := trodAll_nil hA
  have : args = #[v0, v1, v2] := by cases args; simpa using hargs
  subst this
  obtain ⟨dd, hds, r0⟩ := dmats_arg (hval 0 39 v0 rfl rfl) h0
  obtain ⟨b, r1⟩ := byts_arg (hval 1 69 v1 rfl rfl) h1
  obtain ⟨c, r2⟩ := int_arg (hval 2 3 v2 rfl rfl) h2
  refine (Ans.law (P := Try.prog) (W := W) (vs := [v0, v1, v2]) Try.func12 (by kernel_rfl) (by kernel_rfl) (matchBack_ans dd hds b c) (Reps.cons r0 (Reps.cons r1 (Reps.cons r2 Reps.nil)))).mono fun e W' ⟨v, he, hk, M', R', hr⟩ => ?_
  cases hr
  exact ⟨_, he, law_post (P := Try.prog) laid_out (by
      intro t ht
      rw [Try.params12] at ht
      have hm : t ∈ [39, 69, 3] := by
        have := ht
        simp only [List.mem_cons, List.not_mem_nil, or_false] at this ⊢
        omega
      clear ht
      simp only [List.mem_cons, List.not_mem_nil, or_false] at hm
      rcases hm with rfl | rfl | rfl
      · exact ⟨by kernel_rfl, of_decide_eq_true (by kernel_rfl)⟩
      · exact ⟨by kernel_rfl, of_decide_eq_true (by kernel_rfl)⟩
      · exact ⟨by kernel_rfl, of_decide_eq_true (by kernel_rfl)⟩) rfl rfl (tb := 4) (by kernel_rfl) hW' (fun ds h => by
    match ds, h with
    | [_, _, _], _ => exact ⟨rfl, rfl, rfl⟩) hk⟩
theorem matchBack_holds : Rows.MatchBackSaid :=
  OpenClaim.holds_of_wide 12 Try.f12 rfl rfl rfl rfl rfl rfl rfl ⟨rfl, rfl, rfl, rfl, rfl⟩ rfl rfl rfl rfl rfl (by kernel_rfl) Try.func12 (by kernel_rfl)
    (of_decide_eq_true (by kernel_rfl)) (by unfold Func.isWrapper; first | (rw [if_pos (by decide +kernel)]; kernel_rfl) | (rw [if_neg (by decide +kernel)]; exact ⟨rfl, rfl⟩))
    (fun os started H enc _ => matchBack_lifted os started H enc)
end Go.Proofs.Ytoadgajhkhejiaa
