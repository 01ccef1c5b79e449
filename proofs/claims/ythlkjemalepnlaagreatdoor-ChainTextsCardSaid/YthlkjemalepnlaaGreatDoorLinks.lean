/- What is hashed: the first text of an owner, the link of a digest and bytes. No condition. -/
import Derived.Test.YthlkjemalepnlaaGreatDoorLRun
import Derived.Test.YthlkjemalepnlaaGreatDoorAbSX
set_option linter.unusedSimpArgs false
set_option linter.unusedVariables false
namespace Go.Proofs.YthlkjemalepnlaaGreatDoor
open Go Go.Ab
set_option maxRecDepth 100000
abbrev I (n : Int) : AV := .pl (.int .i64 n)
abbrev U (n : Int) : AV := .pl (.int .u64 n)
abbrev B (n : Int) : AV := .pl (.int .u8 n)
abbrev Bo (b : Bool) : AV := .pl (.bool b)

theorem wrapN {n : Int} (h : -9223372036854775808 ≤ n) (h' : n < 9223372036854775808) : IntKind.i64.wrap n = n := by
  simp only [IntKind.wrap, IntKind.bits, IntKind.signed]; simp; omega
theorem wrapU {n : Int} (h : 0 ≤ n) (h' : n < 18446744073709551616) : IntKind.u64.wrap n = n := by
  simp only [IntKind.wrap, IntKind.bits, IntKind.signed]; simp; omega

section
variable (σ : St) (o o' p p' : Ob)
theorem getc : (σ ++ [o])[σ.length]? = some o := by simp
theorem setc : (σ ++ [o]).set σ.length o' = σ ++ [o'] := by
  rw [List.set_append_right _ _ (Nat.le_refl _)]; simp
theorem lenc : (σ ++ [o]).length = σ.length + 1 := by simp
theorem getc2 : (σ ++ [o] ++ [p])[σ.length + 1]? = some p := by
  have := getc (σ ++ [o]) p
  rwa [lenc] at this
theorem setc2 : (σ ++ [o] ++ [p]).set (σ.length + 1) p' = σ ++ [o] ++ [p'] := by
  have := setc (σ ++ [o]) p p'
  rwa [lenc] at this
theorem lenc2 : (σ ++ [o] ++ [p]).length = σ.length + 2 := by simp
end

theorem all_B (ns : List Int) : ((ns.map B).all fun y => decide (y.cells.length = 1) && y.okc) = true := by
  rw [List.all_eq_true]
  intro y hy
  obtain ⟨n, _, rfl⟩ := List.mem_map.1 hy
  rfl
theorem all_tt (ns : List Int) : (ns.all fun _ => true) = true := by simp
theorem one_B (ns : List Int) : (ns.map B).all AV.one = true := by
  rw [List.all_eq_true]
  intro y hy
  obtain ⟨n, _, rfl⟩ := List.mem_map.1 hy
  rfl
theorem byteL_B : ∀ ns : List Int, byteL (ns.map B) = some ns
  | [] => rfl
  | n :: ns => by simp only [List.map_cons, byteL, byteL_B ns, Option.map_some]

/-- Byte i of a word, the highest first. -/
def byteAt (w : Int) (i : Nat) : Int := IntKind.u8.wrap (Int.fdiv w (2 ^ (min (56 - 8 * (i : Int)).toNat 64)))
def wordL (w : Int) : List Int := (List.range 8).map (byteAt w)
def wrow (w : Int) (i : Nat) : List AV := ((List.range 8).map fun j => if j < i then byteAt w j else 0).map B

theorem wrow_len (w : Int) (i : Nat) : (wrow w i).length = 8 := by simp [wrow]
theorem wrow_get (w : Int) (i : Nat) (h : i < 8) : (wrow w i)[i]? = some (B 0) := by
  simp [wrow, h]
theorem wrow_set (w : Int) (i : Nat) (h : i < 8) : (wrow w i).set i (B (byteAt w i)) = wrow w (i + 1) := by
  apply List.ext_getElem
  · simp [wrow]
  · intro j h1 h2
    simp only [wrow, List.getElem_set, List.getElem_map, List.getElem_range]
    by_cases hij : i = j
    · subst hij; simp
    · rw [if_neg hij]
      by_cases hj : j < i
      · rw [if_pos hj, if_pos (by omega)]
      · rw [if_neg hj, if_neg (by omega)]
theorem wrow_end (w : Int) : wrow w 8 = (wordL w).map B := by
  unfold wrow wordL
  congr 1
theorem wordN_len (w : Int) : (wordL w).length = 8 := by simp [wordL]
theorem wordL_len (w : Int) : ((wordL w).map B).length = 8 := by simp [wordL]

theorem bel_B (m : Nat) (ns : List Int) : Bel m (.sl 1 (ns.map B)) :=
  .sl 1 _ (Bel.of_mem fun x hx => by
    obtain ⟨n, _, rfl⟩ := List.mem_map.1 hx
    exact .pl _)

section
variable (σ : St)

theorem word_ans (w : Int) : Ans Tryz.prog 18 [U w] σ (.sl 1 ((wordL w).map B)) σ := by
  refine Ans.of_run' t18 fun hbo _ => ?_
  simp -implicitDefEqProofs only [c18, r18, go_sem, List.reduceReplicate, Nat.reduceAdd, Nat.reduceSub, Nat.reduceLT, Nat.reduceLeDiff, Nat.reduceMul, Nat.reduceEqDiff, reduceCtorEq, Int.reduceLE, Int.reduceLT, Int.reduceEq, Int.reduceNe, Int.reduceBEq, Int.reduceBNe, Int.reduceAdd, Int.reduceSub, getc, setc, lenc, getc2, setc2, lenc2, Int.toNat_natCast, Int.reduceToNat]
  refine L.count 8 (fun i => mkE 22 [(0, U w), (3, .osl σ.length 8), (7, I 8), (8, I i)]) (fun i => σ ++ [.row 1 (wrow w i)]) ?_ ?_ rfl rfl
  · intro i hi J hJ
    have e1 : ((i : Int) < 8) = True := by simp; omega
    have e1' : ((i : Int) < ((8 : Nat) : Int)) = True := by simp; omega
    have e2 : IntKind.i64.wrap (8 * (i : Int)) = 8 * (i : Int) := wrapN (by omega) (by omega)
    have e3 : IntKind.i64.wrap (56 - 8 * (i : Int)) = 56 - 8 * (i : Int) := wrapN (by omega) (by omega)
    have e4 : ((0 : Int) ≤ 56 - 8 * (i : Int)) = True := by simp; omega
    have e5 : IntKind.i64.wrap ((i : Int) + 1) = ((i + 1 : Nat) : Int) := by rw [wrapN (by omega) (by omega)]; rfl
    have e6 : IntKind.u8.wrap (Int.fdiv w (2 ^ (min (56 - 8 * (i : Int)).toNat 64))) = byteAt w i := rfl
    simp -implicitDefEqProofs only [mkE, List.foldl_cons, List.foldl_nil, go_sem, List.reduceReplicate, Nat.reduceAdd, Nat.reduceSub, Nat.reduceLT, Nat.reduceLeDiff, Nat.reduceMul, Nat.reduceEqDiff, reduceCtorEq, Int.reduceLE, Int.reduceLT, Int.reduceEq, Int.reduceNe, Int.reduceBEq, Int.reduceBNe, Int.reduceAdd, Int.reduceSub, getc, setc, lenc, getc2, setc2, lenc2, Int.toNat_natCast, Int.reduceToNat, e1, e1', e2, e3, e4, e5, e6, wrow_len, wrow_get w i hi, wrow_set w i hi]
    exact hJ
  · intro J
    have e0 : (((8 : Nat) : Int) < 8) = False := by simp
    simp -implicitDefEqProofs only [mkE, List.foldl_cons, List.foldl_nil, go_sem, List.reduceReplicate, Nat.reduceAdd, Nat.reduceSub, Nat.reduceLT, Nat.reduceLeDiff, Nat.reduceMul, Nat.reduceEqDiff, reduceCtorEq, Int.reduceLE, Int.reduceLT, Int.reduceEq, Int.reduceNe, Int.reduceBEq, Int.reduceBNe, Int.reduceAdd, Int.reduceSub, getc, setc, lenc, getc2, setc2, lenc2, Int.toNat_natCast, Int.reduceToNat, wrow_len, wrow_end, wordL_len, e0]
    refine Fini.trim (ex := [.dead]) ?_ rfl (bel_B _ _) hbo
    rfl

theorem word_ref (w : Int) : Ans Tryz.prog 19 [U w] σ (.sl 1 ((wordL w).map B)) σ := by
  refine Ans.of_run' t19 fun hbo _ => ?_
  simp -implicitDefEqProofs only [c19, r19, go_sem, List.reduceReplicate, Nat.reduceAdd, Nat.reduceSub, Nat.reduceLT, Nat.reduceLeDiff, Nat.reduceMul, Nat.reduceEqDiff, reduceCtorEq, Int.reduceLE, Int.reduceLT, Int.reduceEq, Int.reduceNe, Int.reduceBEq, Int.reduceBNe, Int.reduceAdd, Int.reduceSub, getc, setc, lenc, getc2, setc2, lenc2, Int.toNat_natCast, Int.reduceToNat]
  refine L.count 8 (fun i => mkE 21 [(0, U w), (3, .osl σ.length 8), (4, I i)]) (fun i => σ ++ [.row 1 (wrow w i)]) ?_ ?_ rfl rfl
  · intro i hi J hJ
    have e1 : ((i : Int) < 8) = True := by simp; omega
    have e1' : ((i : Int) < ((8 : Nat) : Int)) = True := by simp; omega
    have e2 : IntKind.i64.wrap (8 * (i : Int)) = 8 * (i : Int) := wrapN (by omega) (by omega)
    have e3 : IntKind.i64.wrap (56 - 8 * (i : Int)) = 56 - 8 * (i : Int) := wrapN (by omega) (by omega)
    have e3' : IntKind.u64.wrap (56 - 8 * (i : Int)) = 56 - 8 * (i : Int) := wrapU (by omega) (by omega)
    have e4 : ((0 : Int) ≤ 56 - 8 * (i : Int)) = True := by simp; omega
    have e5 : IntKind.i64.wrap ((i : Int) + 1) = ((i + 1 : Nat) : Int) := by rw [wrapN (by omega) (by omega)]; rfl
    have e6 : IntKind.u8.wrap (Int.fdiv w (2 ^ (min (56 - 8 * (i : Int)).toNat 64))) = byteAt w i := rfl
    simp -implicitDefEqProofs only [mkE, List.foldl_cons, List.foldl_nil, go_sem, List.reduceReplicate, Nat.reduceAdd, Nat.reduceSub, Nat.reduceLT, Nat.reduceLeDiff, Nat.reduceMul, Nat.reduceEqDiff, reduceCtorEq, Int.reduceLE, Int.reduceLT, Int.reduceEq, Int.reduceNe, Int.reduceBEq, Int.reduceBNe, Int.reduceAdd, Int.reduceSub, getc, setc, lenc, getc2, setc2, lenc2, Int.toNat_natCast, Int.reduceToNat, e1, e1', e2, e3, e3', e4, e5, e6, wrow_len, wrow_get w i hi, wrow_set w i hi]
    exact hJ
  · intro J
    have e0 : (((8 : Nat) : Int) < 8) = False := by simp
    simp -implicitDefEqProofs only [mkE, List.foldl_cons, List.foldl_nil, go_sem, List.reduceReplicate, Nat.reduceAdd, Nat.reduceSub, Nat.reduceLT, Nat.reduceLeDiff, Nat.reduceMul, Nat.reduceEqDiff, reduceCtorEq, Int.reduceLE, Int.reduceLT, Int.reduceEq, Int.reduceNe, Int.reduceBEq, Int.reduceBNe, Int.reduceAdd, Int.reduceSub, getc, setc, lenc, getc2, setc2, lenc2, Int.toNat_natCast, Int.reduceToNat, wrow_len, wrow_end, wordL_len, e0]
    refine Fini.trim (ex := [.dead]) ?_ rfl (bel_B _ _) hbo
    rfl

def gen (o : Int) : List Int := 0 :: wordL (IntKind.u64.wrap o)

theorem genesis_ans (o : Int) : Ans Tryz.prog 6 [I o] σ (.sl 1 ((gen o).map B)) σ := by
  refine Ans.of_run' t6 fun hbo _ => ?_
  simp -implicitDefEqProofs only [c6, r6, go_sem, List.reduceReplicate, Nat.reduceAdd, Nat.reduceSub, Nat.reduceLT, Nat.reduceLeDiff, Nat.reduceMul, Nat.reduceEqDiff, reduceCtorEq, Int.reduceLE, Int.reduceLT, Int.reduceEq, Int.reduceNe, Int.reduceBEq, Int.reduceBNe, Int.reduceAdd, Int.reduceSub, getc, setc, lenc, getc2, setc2, lenc2, Int.toNat_natCast, Int.reduceToNat]
  refine CO.intro (word_ans _ _) ?_
  simp -implicitDefEqProofs only [go_sem, List.reduceReplicate, Nat.reduceAdd, Nat.reduceSub, Nat.reduceLT, Nat.reduceLeDiff, Nat.reduceMul, Nat.reduceEqDiff, reduceCtorEq, Int.reduceLE, Int.reduceLT, Int.reduceEq, Int.reduceNe, Int.reduceBEq, Int.reduceBNe, Int.reduceAdd, Int.reduceSub, getc, setc, lenc, getc2, setc2, lenc2, Int.toNat_natCast, Int.reduceToNat, List.all_map, Function.comp_def, all_tt, eq_self, decide_true, List.length_map, wordN_len, Nat.reducePow, Nat.reduceLeDiff]
  refine Fini.trim (ex := [.dead]) ?_ rfl (bel_B _ _) hbo
  rfl

theorem genesis_ref (o : Int) : Ans Tryz.prog 7 [I o] σ (.sl 1 ((gen o).map B)) σ := by
  refine Ans.of_run' t7 fun hbo _ => ?_
  simp -implicitDefEqProofs only [c7, r7, go_sem, List.reduceReplicate, Nat.reduceAdd, Nat.reduceSub, Nat.reduceLT, Nat.reduceLeDiff, Nat.reduceMul, Nat.reduceEqDiff, reduceCtorEq, Int.reduceLE, Int.reduceLT, Int.reduceEq, Int.reduceNe, Int.reduceBEq, Int.reduceBNe, Int.reduceAdd, Int.reduceSub, getc, setc, lenc, getc2, setc2, lenc2, Int.toNat_natCast, Int.reduceToNat]
  refine CO.intro (word_ref _ _) ?_
  simp -implicitDefEqProofs only [go_sem, List.reduceReplicate, Nat.reduceAdd, Nat.reduceSub, Nat.reduceLT, Nat.reduceLeDiff, Nat.reduceMul, Nat.reduceEqDiff, reduceCtorEq, Int.reduceLE, Int.reduceLT, Int.reduceEq, Int.reduceNe, Int.reduceBEq, Int.reduceBNe, Int.reduceAdd, Int.reduceSub, getc, setc, lenc, getc2, setc2, lenc2, Int.toNat_natCast, Int.reduceToNat, List.all_map, Function.comp_def, all_tt, eq_self, decide_true, List.length_map, wordN_len, Nat.reducePow, Nat.reduceLeDiff]
  refine Fini.trim (ex := [.dead]) ?_ rfl (bel_B _ _) hbo
  rfl
end
end Go.Proofs.YthlkjemalepnlaaGreatDoor
