/- ChainTexts answers true: unlike owners have unlike first texts, unlike digests or records unlike links, no first text is a link. No condition but that the numbers fit. -/
import Derived.Test.YthlkjemalepnlaaGreatDoorLinks3
set_option linter.unusedSimpArgs false
set_option linter.unusedVariables false
namespace Go.Proofs.YthlkjemalepnlaaGreatDoor
open Go Go.Ab
set_option maxRecDepth 100000

def okB (ns : List Int) : Prop := ∀ n ∈ ns, 0 ≤ n ∧ n < 256

theorem wrap8 (n : Int) : IntKind.u8.wrap n = n % 256 := by
  simp only [IntKind.wrap, IntKind.bits, IntKind.signed]; simp
theorem wrap64 (n : Int) : IntKind.u64.wrap n = n % 18446744073709551616 := by
  simp only [IntKind.wrap, IntKind.bits, IntKind.signed]; simp

theorem text_list (ns : List Int) : (textOf ns).toList = ns.map fun n => UInt8.ofNat n.toNat := by
  simp [ByteArray.toList_eq, textOf]

theorem byte_inj {n m : Int} (hn : 0 ≤ n ∧ n < 256) (hm : 0 ≤ m ∧ m < 256) (h : UInt8.ofNat n.toNat = UInt8.ofNat m.toNat) : n = m := by
  have := congrArg UInt8.toNat h
  simp only [UInt8.toNat_ofNat'] at this
  omega

theorem map_inj : ∀ {ns ms : List Int}, okB ns → okB ms → (ns.map fun n => UInt8.ofNat n.toNat) = (ms.map fun n => UInt8.ofNat n.toNat) → ns = ms
  | [], [], _, _, _ => rfl
  | [], _ :: _, _, _, h => by simp at h
  | _ :: _, [], _, _, h => by simp at h
  | n :: ns, m :: ms, h1, h2, h => by
    simp only [List.map_cons, List.cons.injEq] at h
    rw [byte_inj (h1 n (by simp)) (h2 m (by simp)) h.1, map_inj (fun x hx => h1 x (by simp [hx])) (fun x hx => h2 x (by simp [hx])) h.2]

theorem text_eq {ns ms : List Int} (h : okB ns) (h' : okB ms) : ((textOf ns).toList == (textOf ms).toList) = (ns == ms) := by
  rw [text_list, text_list, Bool.eq_iff_iff]
  simp only [beq_iff_eq]
  exact ⟨map_inj h h', fun e => by rw [e]⟩

theorem byteAt_eq {w : Int} (h : 0 ≤ w) (i : Nat) (hi : i < 8) : byteAt w i = w / 2 ^ (56 - 8 * i) % 256 := by
  unfold byteAt
  rw [wrap8]
  have e : min (56 - 8 * (i : Int)).toNat 64 = 56 - 8 * i := by omega
  rw [e, Int.fdiv_eq_ediv_of_nonneg _ (Int.pow_nonneg (by decide))]

theorem okB_gen (o : Int) : okB (gen o) := by
  intro n hn
  simp only [gen, wordL, List.mem_cons, List.mem_map] at hn
  rcases hn with rfl | ⟨i, _, rfl⟩
  · omega
  · unfold byteAt
    rw [wrap8]; omega

theorem step {x y : Int} (h : x / 256 = y / 256) (h' : x % 256 = y % 256) : x = y := by omega

theorem word_inj {v w : Int} (hv : 0 ≤ v ∧ v < 18446744073709551616) (hw : 0 ≤ w ∧ w < 18446744073709551616) (h : wordL v = wordL w) : v = w := by
  have hb : ∀ i, i < 8 → v / 2 ^ (56 - 8 * i) % 256 = w / 2 ^ (56 - 8 * i) % 256 := by
    intro i hi
    have := congrArg (fun l => l[i]?) h
    simp only [wordL, List.getElem?_map, List.getElem?_range hi, Option.map_some, Option.some.injEq] at this
    rwa [byteAt_eq hv.1 i hi, byteAt_eq hw.1 i hi] at this
  have h0 := hb 0 (by omega)
  have h1 := hb 1 (by omega)
  have h2 := hb 2 (by omega)
  have h3 := hb 3 (by omega)
  have h4 := hb 4 (by omega)
  have h5 := hb 5 (by omega)
  have h6 := hb 6 (by omega)
  have h7 := hb 7 (by omega)
  simp only [Nat.reduceMul, Nat.reduceSub, Int.reducePow] at h0 h1 h2 h3 h4 h5 h6 h7
  omega

theorem gen_inj {a b : Int} (ha : -9223372036854775808 ≤ a ∧ a < 9223372036854775808) (hb : -9223372036854775808 ≤ b ∧ b < 9223372036854775808) : (gen a == gen b) = (a == b) := by
  rw [Bool.eq_iff_iff]
  simp only [beq_iff_eq]
  constructor
  · intro h
    simp only [gen, List.cons.injEq, true_and] at h
    rw [wrap64, wrap64] at h
    have := word_inj (by omega) (by omega) h
    omega
  · rintro rfl; rfl

theorem okB_lnk {ps ns : List Int} (h : okB ps) (h' : okB ns) : okB (lnk ps ns) := by
  intro n hn
  simp only [lnk, List.cons_append, List.mem_cons, List.mem_append] at hn
  rcases hn with rfl | hn | hn
  · omega
  · exact h n hn
  · exact h' n hn

theorem lnk_inj {p q x y : List Int} (hp : p.length = 32) (hq : q.length = 32) : (lnk p x == lnk q y) = ((p == q) && (x == y)) := by
  rw [Bool.eq_iff_iff]
  simp only [lnk, List.cons_append, beq_iff_eq, List.cons.injEq, true_and, Bool.and_eq_true]
  constructor
  · intro h
    exact List.append_inj h (by omega)
  · rintro ⟨rfl, rfl⟩; rfl

theorem gen_lnk (a : Int) (p x : List Int) : (gen a == lnk p x) = false := by
  rw [Bool.eq_false_iff]
  intro h
  simp only [beq_iff_eq, gen, lnk, List.cons_append, List.cons.injEq] at h
  omega

theorem eqCells_B : ∀ (n : Nat) (ps qs : List Int), ps.length = n → qs.length = n → eqCells (List.replicate n .int) (ps.map B) (qs.map B) = some (ps == qs)
  | 0, [], [], _, _ => rfl
  | n + 1, p :: ps, q :: qs, h, h' => by
    rw [List.replicate_succ, List.map_cons, List.map_cons, eqCells, eqCells_B n ps qs (by simpa using h) (by simpa using h')]
    simp only [eqCell, if_true]
    rfl

theorem chainTexts_ans (a b : Int) (ps qs xs ys : List Int) (ha : -9223372036854775808 ≤ a ∧ a < 9223372036854775808) (hb : -9223372036854775808 ≤ b ∧ b < 9223372036854775808)
    (hp : ps.length = 32) (hq : qs.length = 32) (op : okB ps) (oq : okB qs) (ox : okB xs) (oy : okB ys) (hrun : Ans Tryz.prog 5 [] [glo0, glo1] (Bo true) [glo0, glo1]) :
    Ans Tryz.prog 4 [I a, I b, .agg (ps.map B), .agg (qs.map B), .sl 1 (xs.map B), .sl 1 (ys.map B)] [glo0, glo1] (.pl (.bool true)) [glo0, glo1] := by
  generalize hσ : ([glo0, glo1] : St) = σ at *
  have e1 : (ps.map B).length = 32 := by simp [hp]
  have e2 : (ps.map B).take 32 = ps.map B := List.take_of_length_le (by omega)
  have e3 : (qs.map B).length = 32 := by simp [hq]
  have e4 : (qs.map B).take 32 = qs.map B := List.take_of_length_le (by omega)
  have t1 := (text_eq (okB_gen a) (okB_gen b)).trans (gen_inj ha hb)
  have t2 := (text_eq (okB_lnk op ox) (okB_lnk oq oy)).trans (lnk_inj hp hq)
  have t3 := (text_eq (okB_gen a) (okB_lnk op ox)).trans (gen_lnk a ps xs)
  have t4 := (text_eq (okB_gen a) (okB_lnk oq oy)).trans (gen_lnk a qs ys)
  have t5 := text_eq ox oy
  have t6 := eqCells_B 32 ps qs hp hq
  simp only [List.reduceReplicate] at t6
  refine Ans.of_run Go.Proofs.YthlkjemalepnlaaGreatDoor.t4 ?_
  simp -implicitDefEqProofs only [c4, r4, go_sem, List.reduceReplicate, Nat.reduceAdd, Nat.reduceSub, Nat.reduceLT, Nat.reduceLeDiff, Nat.reduceMul, Nat.reduceEqDiff, reduceCtorEq, Int.reduceLE, Int.reduceLT, Int.reduceEq, Int.reduceNe, Int.reduceBEq, Int.reduceBNe, Int.reduceAdd, Int.reduceSub, one_B, List.length_map]
  cases hx : decide ((300 : Int) < xs.length) <;> cases hy : decide ((300 : Int) < ys.length) <;> simp -implicitDefEqProofs only [go_sem, List.reduceReplicate, Nat.reduceAdd, Nat.reduceSub, Nat.reduceLT, Nat.reduceLeDiff, Nat.reduceMul, Nat.reduceEqDiff, reduceCtorEq, Int.reduceLE, Int.reduceLT, Int.reduceEq, Int.reduceNe, Int.reduceBEq, Int.reduceBNe, Int.reduceAdd, Int.reduceSub, hx, hy, List.length_map]
  case false.false =>
    have nx : xs.length ≤ 300 := by simp at hx; omega
    have ny : ys.length ≤ 300 := by simp at hy; omega
    refine CD.intro (genesis_ans σ a) ?_
    simp -implicitDefEqProofs only [go_sem, List.reduceReplicate, Nat.reduceAdd, Nat.reduceSub, Nat.reduceLT, Nat.reduceLeDiff, Nat.reduceMul, Nat.reduceEqDiff, reduceCtorEq, Int.reduceLE, Int.reduceLT, Int.reduceEq, Int.reduceNe, Int.reduceBEq, Int.reduceBNe, Int.reduceAdd, Int.reduceSub, List.all_map, Function.comp_def, all_tt, eq_self, decide_true, List.length_map, AV.isStr, byteL_B]
    refine CD.intro (genesis_ans σ b) ?_
    simp -implicitDefEqProofs only [go_sem, List.reduceReplicate, Nat.reduceAdd, Nat.reduceSub, Nat.reduceLT, Nat.reduceLeDiff, Nat.reduceMul, Nat.reduceEqDiff, reduceCtorEq, Int.reduceLE, Int.reduceLT, Int.reduceEq, Int.reduceNe, Int.reduceBEq, Int.reduceBNe, Int.reduceAdd, Int.reduceSub, List.all_map, Function.comp_def, all_tt, eq_self, decide_true, List.length_map, AV.isStr, byteL_B, e1, e2]
    refine CD.intro (link_a σ ps xs hp nx) ?_
    simp -implicitDefEqProofs only [go_sem, List.reduceReplicate, Nat.reduceAdd, Nat.reduceSub, Nat.reduceLT, Nat.reduceLeDiff, Nat.reduceMul, Nat.reduceEqDiff, reduceCtorEq, Int.reduceLE, Int.reduceLT, Int.reduceEq, Int.reduceNe, Int.reduceBEq, Int.reduceBNe, Int.reduceAdd, Int.reduceSub, List.all_map, Function.comp_def, all_tt, eq_self, decide_true, List.length_map, AV.isStr, byteL_B, e1, e2, e3, e4]
    refine CD.intro (link_a σ qs ys hq ny) ?_
    simp -implicitDefEqProofs only [go_sem, List.reduceReplicate, Nat.reduceAdd, Nat.reduceSub, Nat.reduceLT, Nat.reduceLeDiff, Nat.reduceMul, Nat.reduceEqDiff, reduceCtorEq, Int.reduceLE, Int.reduceLT, Int.reduceEq, Int.reduceNe, Int.reduceBEq, Int.reduceBNe, Int.reduceAdd, Int.reduceSub, List.all_map, Function.comp_def, all_tt, eq_self, decide_true, List.length_map, AV.isStr, byteL_B, e1, e2, e3, e4, t1, t2, t3, t4, t5, t6]
    cases hpq : (ps == qs) <;> simp -implicitDefEqProofs only [go_sem, List.reduceReplicate, Nat.reduceAdd, Nat.reduceSub, Nat.reduceLT, Nat.reduceLeDiff, Nat.reduceMul, Nat.reduceEqDiff, reduceCtorEq, Int.reduceLE, Int.reduceLT, Int.reduceEq, Int.reduceNe, Int.reduceBEq, Int.reduceBNe, Int.reduceAdd, Int.reduceSub, List.all_map, Function.comp_def, all_tt, eq_self, decide_true, List.length_map, AV.isStr, byteL_B, e1, e2, e3, e4, t1, t2, t3, t4, t5, t6, hpq, Bool.false_and, Bool.true_and]
    all_goals
      refine CO.intro hrun ?_
      simp -implicitDefEqProofs only [go_sem, List.reduceReplicate, Nat.reduceAdd, Nat.reduceSub, Nat.reduceLT, Nat.reduceLeDiff, Nat.reduceMul, Nat.reduceEqDiff, reduceCtorEq, Int.reduceLE, Int.reduceLT, Int.reduceEq, Int.reduceNe, Int.reduceBEq, Int.reduceBNe, Int.reduceAdd, Int.reduceSub, List.all_map, Function.comp_def, all_tt, eq_self, decide_true, List.length_map, AV.isStr, byteL_B]
      exact Fini.ret rfl
  all_goals
    refine CO.intro hrun ?_
    simp -implicitDefEqProofs only [go_sem, List.reduceReplicate, Nat.reduceAdd, Nat.reduceSub, Nat.reduceLT, Nat.reduceLeDiff, Nat.reduceMul, Nat.reduceEqDiff, reduceCtorEq, Int.reduceLE, Int.reduceLT, Int.reduceEq, Int.reduceNe, Int.reduceBEq, Int.reduceBNe, Int.reduceAdd, Int.reduceSub]
    exact Fini.ret rfl
end Go.Proofs.YthlkjemalepnlaaGreatDoor
