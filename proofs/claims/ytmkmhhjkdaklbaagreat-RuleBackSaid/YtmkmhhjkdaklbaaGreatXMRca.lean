/- Any lists of matchers: the program's List. No condition. -/
import Derived.Test.YtmkmhhjkdaklbaaGreatXLs2
import Derived.Test.YtmkmhhjkdaklbaaGreatProg
import Derived.Test.YtmkmhhjkdaklbaaGreatAbStep
import Derived.Test.YtmkmhhjkdaklbaaGreatRows
import Derived.Test.YtmkmhhjkdaklbaaGreatAbArg
import Derived.Test.YtmkmhhjkdaklbaaGreatXPPar3
set_option linter.unusedSimpArgs false
set_option linter.unusedVariables false
namespace Go.Proofs.YtmkmhhjkdaklbaaGreat
open Go Go.Ab
set_option maxRecDepth 100000
theorem bel_mvs3 (n : Nat) (M : List Mtr) : Bel n (.sl 3 (mvs3 M)) := by
 refine .sl 3 _ fun i hi => ?_
 have : ∀ y ∈ mvs3 M, Bel n y := by
  intro y hy
  simp only [mvs3, List.mem_map] at hy
  obtain ⟨x, _, rfl⟩ := hy
  refine .agg _ fun i hi => ?_
  have : ∀ y ∈ ([I x.1, Sx x.2.1, Sx x.2.2] : List AV), Bel n y := by
   intro y hy
   simp only [List.mem_cons, List.not_mem_nil, or_false] at hy
   rcases hy with rfl | rfl | rfl <;> exact .pl _
  exact this _ (List.getElem_mem hi)
 exact this _ (List.getElem_mem hi)
theorem BL_mvs (n : Nat) (M : List Mtr) : Bel n (.sl 3 (mvs3 M)) = True := eq_true (bel_mvs3 n M)
theorem memM (n : Nat) (k : Int) (a b : ByteArray) : ∀ y ∈ ([I k, Sx a, Sx b] : List AV), Bel n y := by
 intro y hy
 simp only [List.mem_cons, List.not_mem_nil, or_false] at hy
 rcases hy with rfl | rfl | rfl <;> exact .pl _
theorem BL_mat (n : Nat) (k : Int) (a b : ByteArray) : Bel n (.agg [I k, Sx a, Sx b]) = True := eq_true (.agg _ fun i hi => memM n k a b _ (List.getElem_mem hi))
theorem BL_rp (n : Nat) (k : Int) (a b : ByteArray) : Bel n (.rp [I k, Sx a, Sx b]) = True := eq_true (.rp _ fun i hi => memM n k a b _ (List.getElem_mem hi))
theorem list_any (σ : St) (M : List Mtr) : Ans Tryz.prog 106 [.sl 3 (mvs3 M)] σ (Bo (listB M)) σ := by
 refine Ans.of_run' t106 (fun hbel _ => ?_)
 have d5 : decide ((5 : Int) < M.length) = decide (5 < M.length) := decN 5 _
 have hb0 : (∀ o ∈ σ, BelO σ.length o) = True := eq_true hbel
 unfold listB
 simp -implicitDefEqProofs only [c106, r106, go_sem, mvs3_len, d5]
 by_cases hl : M.length ≤ 5
 · rw [decide_eq_true hl, Bool.true_and]
   have h5 : decide (5 < M.length) = false := decide_eq_false (by omega)
   simp -implicitDefEqProofs only [go_sem, h5, mvs3_len]
   refine Go.Ab.L.scan M.length (okL M) (fun i => mkE 33 [(0, .sl 3 (mvs3 M)), (8, .sl 3 (mvs3 M)), (9, I M.length), (10, I i)]) (fun _ => σ) ?_ ?_ rfl rfl
   · intro i hi hp J hJ
     have htk : ∀ x : Ob, (σ ++ [x]).take σ.length = σ := fun x => List.take_left' rfl
     have hF : okL M i = false → (List.range M.length).all (okL M) = false := fun h => List.all_eq_false.2 ⟨i, List.mem_range.2 hi, by simp [h]⟩
     have hx := mget_D M i hi
     have hin := wrap_nat (n := i) (by omega)
     have hI := fun σ => is_any σ (M.getD i noM3).1 (M.getD i noM3).2.1 (M.getD i noM3).2.2
     have hO : okL M i = (isB (M.getD i noM3).1 (M.getD i noM3).2.1 (M.getD i noM3).2.2 && (i == 0 || aheadD (M.getD (i - 1) noM3) (M.getD i noM3))) := rfl
     have d0 : decide ((0 : Int) < i) = decide (0 < i) := decN 0 i
     rw [hO] at hJ hF
     simp -implicitDefEqProofs only [mkE, go_sem, mvs3_len, nat_lt hi, dec_lt hi, hx, mv3, D_callS, g0, s0, List.drop_nil]
     first | refine CD.intro (hI _) ?_ | refine CS.intro hI ?_
     generalize isB (M.getD i noM3).1 (M.getD i noM3).2.1 (M.getD i noM3).2.2 = b1 at hJ hF
     cases b1 with
     | false =>
       simp -implicitDefEqProofs only [go_sem, D_callS, g0, s0]
       rw [hF rfl]
       exact Fini.trim2 (σ' := σ) rfl rfl (Nat.le_refl _) (.pl _) hbel
     | true =>
       by_cases hz : i = 0
       · subst hz
         have hgo := hJ rfl
         simp -implicitDefEqProofs only [go_sem, hin, D_callS, g0, s0, Int.natCast_zero, B_pl, B_any, B_nils, B_tup, B_osl, B_ptr, B_sl0, BL_mvs, BL_mat, BL_rp, htk, Nat.add_zero, hb0, List.length_append]
         exact ⟨by omega, hgo⟩
       · have hpos : decide (0 < i) = true := by simp; omega
         have hx1 := mget_D M (i - 1) (by omega)
         have hB := fun σ => compare_ans σ (M.getD (i - 1) noM3) (M.getD i noM3)
         have hc := cmp3_aheadD (M.getD (i - 1) noM3) (M.getD i noM3)
         have w1 : IntKind.i64.wrap ((i : Int) - 1) = ((i - 1 : Nat) : Int) := by rw [wrapN (by omega) (by omega)]; omega
         have hlt1 : (((i - 1 : Nat) : Int) < M.length) = True := by simp; omega
         have hz' : (i == 0) = false := by simpa using hz
         rw [hz'] at hJ hF
         simp -implicitDefEqProofs only [go_sem, d0, hpos, w1, mvs3_len, nat_lt hi, dec_lt hi, hlt1, hx, hx1, D_callS, mv3, g0, s0]
         first | refine CD.intro (hB _) ?_ | refine CS.intro hB ?_
         generalize aheadD (M.getD (i - 1) noM3) (M.getD i noM3) = b2 at hJ hF hc
         generalize cmp3 (M.getD (i - 1) noM3) (M.getD i noM3) = cc at hc
         cases b2 with
         | true =>
           have hgo := hJ rfl
           simp -implicitDefEqProofs only [go_sem, hc, hin, g0, s0, B_pl, B_any, B_nils, B_tup, B_osl, B_ptr, B_sl0, BL_mvs, BL_mat, BL_rp, htk, Nat.add_zero, hb0, List.length_append, Bool.not_true]
           exact ⟨by omega, hgo⟩
         | false =>
           simp -implicitDefEqProofs only [go_sem, hc, Bool.not_false, g0, s0]
           rw [hF rfl]
           exact Fini.trim2 (σ' := σ) rfl rfl (Nat.le_refl _) (.pl _) hbel
   · intro hp J
     have hd : decide ((M.length : Int) < M.length) = false := by simp
     simp -implicitDefEqProofs only [mkE, go_sem, mvs3_len, hd]
     refine Fini.ret' rfl (bo_congr ?_)
     exact (List.all_eq_true.2 fun i hi => hp i (List.mem_range.1 hi)).symm
 · rw [decide_eq_false hl, Bool.false_and]
   have h5 : decide (5 < M.length) = true := decide_eq_true (by omega)
   simp -implicitDefEqProofs only [go_sem, h5]
   exact Fini.ret rfl
end Go.Proofs.YtmkmhhjkdaklbaaGreat
namespace Go.Proofs.YtmkmhhjkdaklbaaGreat
open Go Go.Ab
set_option maxRecDepth 100000
def c15 : ACode :=
 (.seq (.ops [⟨some 2, none, .prim (.boxr (.tmp 0))⟩,
 ⟨some 4, none, .prim (.mov (.const (.int .i64 0)))⟩])
 (.seq (.ops [⟨some 7, none, .prim (.fadr 0 (.tmp 2))⟩,
 ⟨some 8, none, .prim (.load 1 false (.tmp 7))⟩,
 ⟨some 9, none, .prim (.mov (.tmp 1))⟩,
 ⟨some 10, none, .call (.func 49) [(.tmp 8), (.tmp 9)]⟩,
 ⟨some 5, none, .prim (.mov (.tmp 10))⟩])
 (.seq (.seq (.ops [⟨some 11, none, .prim (.mov (.tmp 5))⟩,
 ⟨some 12, none, .prim (.mov (.tmp 1))⟩,
 ⟨some 13, none, .prim (.bin false .leq (.tmp 11) (.tmp 12))⟩])
 (.cond (.tmp 13)
 (.ops [⟨some 14, none, .prim (.mov (.tmp 5))⟩,
 ⟨some 15, none, .prim (.fadr 1 (.tmp 2))⟩,
 ⟨some 16, none, .prim (.load 1 false (.tmp 15))⟩,
 ⟨some 17, none, .prim (.mov (.tmp 1))⟩,
 ⟨some 18, none, .call (.func 49) [(.tmp 16), (.tmp 17)]⟩,
 ⟨some 19, none, .prim (.bin false .add (.tmp 14) (.tmp 18))⟩,
 ⟨some 5, none, .prim (.mov (.tmp 19))⟩])
 .skip))
 (.seq (.seq (.ops [⟨some 6, none, .prim (.mov (.const (.int .i64 0)))⟩])
 (.block 0 (.loop [0, 3, 4, 7, 8, 9, 10, 11, 12, 13, 14, 15, 16, 17, 18, 19, 20, 21, 22, 23, 24, 25, 26, 27, 28, 29, 30, 31, 32, 33, 34, 35, 36, 37, 38, 39, 40, 41, 42, 43, 44, 45, 46, 47, 48, 49, 50, 51, 52, 53, 54] (.seq (.seq (.ops [⟨some 20, none, .prim (.mov (.tmp 6))⟩,
 ⟨some 21, none, .prim (.fadr 5 (.tmp 2))⟩,
 ⟨some 22, none, .prim (.load 1 false (.tmp 21))⟩,
 ⟨some 23, none, .prim (.lenv (.tmp 22))⟩,
 ⟨some 24, none, .prim (.bin false .lss (.tmp 20) (.tmp 23))⟩,
 ⟨some 25, none, .prim (.mov (.tmp 24))⟩,
 ⟨some 26, (some (25, true)), .prim (.mov (.tmp 5))⟩,
 ⟨some 27, (some (25, true)), .prim (.mov (.tmp 1))⟩,
 ⟨some 28, (some (25, true)), .prim (.bin false .leq (.tmp 26) (.tmp 27))⟩,
 ⟨some 29, none, .prim (.pick (.tmp 25) (.tmp 28) (.const (.bool false)))⟩])
 (.cond (.tmp 29)
 .skip
 (.exit 0)))
 (.seq (.block 1 (.seq (.seq (.ops [⟨some 32, none, .prim (.fadr 5 (.tmp 2))⟩,
 ⟨some 33, none, .prim (.load 1 false (.tmp 32))⟩,
 ⟨some 34, none, .prim (.mov (.tmp 6))⟩,
 ⟨some 35, none, .prim (.iadrs 1 (.tmp 33) (.tmp 34))⟩,
 ⟨some 36, none, .prim (.load 1 false (.tmp 35))⟩,
 ⟨some 37, none, .prim (.lens (.tmp 36))⟩,
 ⟨some 38, none, .prim (.mov (.tmp 1))⟩,
 ⟨some 39, none, .prim (.bin false .gtr (.tmp 37) (.tmp 38))⟩])
 (.cond (.tmp 39)
 (.seq (.ops [⟨some 40, none, .prim (.mov (.tmp 1))⟩,
 ⟨some 41, none, .prim (.bin false .add (.tmp 40) (.const (.int .i64 1)))⟩,
 ⟨some 4, none, .prim (.mov (.tmp 41))⟩])
 .ret)
 .skip))
 (.ops [⟨some 42, none, .prim (.mov (.tmp 5))⟩,
 ⟨some 43, none, .prim (.bin false .add (.tmp 42) (.const (.int .i64 1)))⟩,
 ⟨some 44, none, .prim (.fadr 5 (.tmp 2))⟩,
 ⟨some 45, none, .prim (.load 1 false (.tmp 44))⟩,
 ⟨some 46, none, .prim (.mov (.tmp 6))⟩,
 ⟨some 47, none, .prim (.iadrs 1 (.tmp 45) (.tmp 46))⟩,
 ⟨some 48, none, .prim (.load 1 false (.tmp 47))⟩,
 ⟨some 49, none, .prim (.lens (.tmp 48))⟩,
 ⟨some 50, none, .prim (.bin false .add (.tmp 43) (.tmp 49))⟩,
 ⟨some 5, none, .prim (.mov (.tmp 50))⟩])))
 (.ops [⟨some 30, none, .prim (.mov (.tmp 6))⟩,
 ⟨some 31, none, .prim (.bin false .add (.tmp 30) (.const (.int .i64 1)))⟩,
 ⟨some 6, none, .prim (.mov (.tmp 31))⟩]))))))
 (.seq (.ops [⟨some 51, none, .prim (.mov (.tmp 5))⟩,
 ⟨some 52, none, .prim (.mov (.tmp 1))⟩,
 ⟨some 53, none, .prim (.bin false .add (.tmp 52) (.const (.int .i64 1)))⟩,
 ⟨some 54, none, .prim (.mm false (.tmp 51) (.tmp 53))⟩,
 ⟨some 4, none, .prim (.mov (.tmp 54))⟩])
 .ret)))))
def o15 : List Tmp := []
def r15 : List RV := [.tmp 4]
theorem t15 : Text Tryz.prog 15 o15 c15 r15 55 := ⟨⟨Tryz.f15, _, by kernel_rfl, by kernel_rfl, rfl, by kernel_rfl, by kernel_rfl, rfl⟩, by kernel_rfl⟩
def c22 : ACode :=
 (.seq (.ops [⟨some 1, none, .prim (.boxr (.tmp 0))⟩,
 ⟨some 2, none, .prim (.allocm [.nils, .nils, .pl (.bool false), .pl (.float .f64 0), .pl (.float .f64 0), .nils])⟩])
 (.seq (.draw [⟨⟨some 7, none, .prim (.fadr 0 (.tmp 1))⟩, [], false, 0, 0⟩,
 ⟨⟨some 8, none, .prim (.load 1 false (.tmp 7))⟩, [0], false, 0, 0⟩,
 ⟨⟨some 9, none, .call (.func 79) [(.tmp 8), (.const (.bool true))]⟩, [0, 1], false, 0, 0⟩,
 ⟨⟨some 10, none, .prim (.fadr 1 (.tmp 1))⟩, [], false, 0, 0⟩,
 ⟨⟨some 11, none, .prim (.load 1 false (.tmp 10))⟩, [3], false, 0, 0⟩,
 ⟨⟨some 12, none, .call (.func 79) [(.tmp 11), (.const (.bool true))]⟩, [0, 1, 2, 3, 4], false, 0, 0⟩,
 ⟨⟨some 13, none, .prim (.fadr 2 (.tmp 1))⟩, [], false, 0, 0⟩,
 ⟨⟨some 14, none, .prim (.load 3 true (.tmp 13))⟩, [6], false, 0, 0⟩,
 ⟨⟨some 15, none, .call (.func 80) [(.tmp 14)]⟩, (List.range 8), true, 0, 0⟩,
 ⟨⟨some 16, none, .prim (.build [.nils, .nils, .pl (.bool false), .pl (.float .f64 0), .pl (.float .f64 0), .nils] [(0, 1, (.tmp 9)), (1, 1, (.tmp 12)), (2, 3, (.tmp 15))])⟩, (List.range 9), false, 1, 1⟩,
 ⟨⟨some 3, none, .flo 6⟩, [], false, 0, 1⟩,
 ⟨⟨some 3, none, .adopt true 3 6 (.tmp 16)⟩, (List.range 11), true, 0, 0⟩])
 (.seq (.seq (.ops [⟨some 4, none, .prim (.mov (.const (.int .i64 0)))⟩])
 (.block 0 (.loop [0, 5, 6, 7, 8, 9, 10, 11, 12, 13, 14, 15, 16, 17, 18, 19, 20, 21, 22, 23, 24, 25, 26, 27, 28, 29, 30, 31, 32, 33, 34, 35, 36, 37, 38, 39, 40, 41, 42, 43, 44, 45, 46, 47, 48, 49, 50, 51, 52, 53, 54, 55] (.seq (.seq (.ops [⟨some 17, none, .prim (.mov (.tmp 4))⟩,
 ⟨some 18, none, .prim (.bin false .lss (.tmp 17) (.const (.int .i64 5)))⟩,
 ⟨some 19, none, .prim (.mov (.tmp 18))⟩,
 ⟨some 20, (some (19, true)), .prim (.fadr 5 (.tmp 3))⟩,
 ⟨some 21, (some (19, true)), .prim (.load 1 false (.tmp 20))⟩,
 ⟨some 22, (some (19, true)), .prim (.lenv (.tmp 21))⟩,
 ⟨some 23, (some (19, true)), .prim (.bin false .lss (.tmp 22) (.const (.int .i64 4)))⟩,
 ⟨some 24, none, .prim (.pick (.tmp 19) (.tmp 23) (.const (.bool false)))⟩])
 (.cond (.tmp 24)
 .skip
 (.exit 0)))
 (.seq (.block 1 (.seq (.ops [⟨some 27, none, .prim (.build [.pl (.string .empty), .pl (.string .empty), .pl (.string .empty), .pl (.string .empty), .pl (.string .empty)] [(0, 1, (.const (.string (ByteArray.mk #[90, 111, 110, 101, 57])))), (1, 1, (.const (.string (ByteArray.mk #[95, 120])))), (2, 1, (.const (.string (ByteArray.mk #[104, 111, 115, 116])))), (3, 1, (.const (.string (ByteArray.mk #[106, 111, 98])))), (4, 1, (.const (.string (ByteArray.mk #[115, 101, 118]))))])⟩,
 ⟨some 28, none, .prim (.mov (.tmp 4))⟩,
 ⟨some 29, none, .prim (.idxa 1 5 false (.tmp 27) (.tmp 28))⟩,
 ⟨some 5, none, .prim (.mov (.tmp 29))⟩])
 (.seq (.ops [⟨some 6, none, .prim (.mov (.const (.int .i64 0)))⟩])
 (.block 2 (.loop [0, 7, 8, 9, 10, 11, 12, 13, 14, 15, 16, 17, 18, 19, 20, 21, 22, 23, 24, 25, 26, 27, 28, 29, 30, 31, 32, 33, 34, 35, 36, 37, 38, 39, 40, 41, 42, 43, 44, 45, 46, 47, 48, 49, 50, 51, 52, 53, 54, 55] (.seq (.seq (.ops [⟨some 30, none, .prim (.mov (.tmp 6))⟩,
 ⟨some 31, none, .prim (.fadr 5 (.tmp 1))⟩,
 ⟨some 32, none, .prim (.load 1 false (.tmp 31))⟩,
 ⟨some 33, none, .prim (.lenv (.tmp 32))⟩,
 ⟨some 34, none, .prim (.bin false .lss (.tmp 30) (.tmp 33))⟩,
 ⟨some 35, none, .prim (.mov (.tmp 34))⟩,
 ⟨some 36, (some (35, true)), .prim (.mov (.tmp 6))⟩,
 ⟨some 37, (some (35, true)), .prim (.bin false .lss (.tmp 36) (.const (.int .i64 9)))⟩,
 ⟨some 38, none, .prim (.pick (.tmp 35) (.tmp 37) (.const (.bool false)))⟩])
 (.cond (.tmp 38)
 .skip
 (.exit 2)))
 (.seq (.block 3 (.seq (.ops [⟨some 41, none, .prim (.fadr 5 (.tmp 1))⟩,
 ⟨some 42, none, .prim (.load 1 false (.tmp 41))⟩,
 ⟨some 43, none, .prim (.mov (.tmp 6))⟩,
 ⟨some 44, none, .prim (.iadrs 1 (.tmp 42) (.tmp 43))⟩,
 ⟨some 45, none, .prim (.load 1 false (.tmp 44))⟩,
 ⟨some 46, none, .call (.func 81) [(.tmp 45)]⟩,
 ⟨some 47, none, .prim (.mov (.tmp 5))⟩,
 ⟨some 48, none, .prim (.bin false .eql (.tmp 46) (.tmp 47))⟩])
 (.cond (.tmp 48)
 (.seq (.ops [⟨some 49, none, .prim (.fadr 5 (.tmp 3))⟩,
 ⟨some 50, none, .prim (.load 1 false (.tmp 49))⟩,
 ⟨some 51, none, .prim (.mov (.tmp 5))⟩,
 ⟨some 52, none, .prim (.bsl false 1 false 1 [.pl (.string .empty)] [(0, 1, (.tmp 51))])⟩,
 ⟨some 53, none, .prim (.app 1 (.tmp 50) (.tmp 52))⟩,
 ⟨some 54, none, .prim (.fadr 5 (.tmp 3))⟩,
 ⟨none, none, .prim (.store 1 (.tmp 54) (.tmp 53))⟩])
 (.exit 2))
 .skip)))
 (.ops [⟨some 39, none, .prim (.mov (.tmp 6))⟩,
 ⟨some 40, none, .prim (.bin false .add (.tmp 39) (.const (.int .i64 1)))⟩,
 ⟨some 6, none, .prim (.mov (.tmp 40))⟩]))))))))
 (.ops [⟨some 25, none, .prim (.mov (.tmp 4))⟩,
 ⟨some 26, none, .prim (.bin false .add (.tmp 25) (.const (.int .i64 1)))⟩,
 ⟨some 4, none, .prim (.mov (.tmp 26))⟩]))))))
 (.seq (.ghost (.shutc 3 5 1) (.ops [⟨some 55, none, .prim (.load 6 true (.tmp 3))⟩,
 ⟨none, none, .prim (.store 6 (.tmp 2) (.tmp 55))⟩]))
 .ret))))
def o22 : List Tmp := [2, 3]
def r22 : List RV := [.cell 2 6 true]
theorem t22 : Text Tryz.prog 22 o22 c22 r22 56 := ⟨⟨Tryz.f22, _, by kernel_rfl, by kernel_rfl, rfl, by kernel_rfl, by kernel_rfl, rfl⟩, by kernel_rfl⟩
def c51 : ACode :=
 (.seq (.ops [⟨some 1, none, .prim (.boxr (.tmp 0))⟩,
 ⟨some 2, none, .prim (.mov (.const (.bool false)))⟩])
 (.seq (.seq (.ops [⟨some 5, none, .prim (.fadr 0 (.tmp 1))⟩,
 ⟨some 6, none, .prim (.load 1 false (.tmp 5))⟩,
 ⟨some 7, none, .prim (.lenv (.tmp 6))⟩,
 ⟨some 8, none, .prim (.bin false .eql (.tmp 7) (.const (.int .i64 0)))⟩,
 ⟨some 9, none, .prim (.mov (.tmp 8))⟩,
 ⟨some 10, (some (9, false)), .prim (.fadr 1 (.tmp 1))⟩,
 ⟨some 11, (some (9, false)), .prim (.load 1 false (.tmp 10))⟩,
 ⟨some 12, (some (9, false)), .prim (.lenv (.tmp 11))⟩,
 ⟨some 13, (some (9, false)), .prim (.bin false .eql (.tmp 12) (.const (.int .i64 0)))⟩,
 ⟨some 14, none, .prim (.pick (.tmp 9) (.const (.bool true)) (.tmp 13))⟩,
 ⟨some 15, none, .prim (.mov (.tmp 14))⟩,
 ⟨some 16, (some (15, false)), .prim (.fadr 0 (.tmp 1))⟩,
 ⟨some 17, (some (15, false)), .prim (.load 1 false (.tmp 16))⟩,
 ⟨some 18, (some (15, false)), .call (.func 106) [(.tmp 17)]⟩,
 ⟨some 19, (some (15, false)), .prim (.un .not (.tmp 18))⟩,
 ⟨some 20, none, .prim (.pick (.tmp 15) (.const (.bool true)) (.tmp 19))⟩,
 ⟨some 21, none, .prim (.mov (.tmp 20))⟩,
 ⟨some 22, (some (21, false)), .prim (.fadr 1 (.tmp 1))⟩,
 ⟨some 23, (some (21, false)), .prim (.load 1 false (.tmp 22))⟩,
 ⟨some 24, (some (21, false)), .call (.func 106) [(.tmp 23)]⟩,
 ⟨some 25, (some (21, false)), .prim (.un .not (.tmp 24))⟩,
 ⟨some 26, none, .prim (.pick (.tmp 21) (.const (.bool true)) (.tmp 25))⟩,
 ⟨some 27, none, .prim (.mov (.tmp 26))⟩,
 ⟨some 28, (some (27, false)), .prim (.fadr 2 (.tmp 1))⟩,
 ⟨some 29, (some (27, false)), .prim (.load 3 true (.tmp 28))⟩,
 ⟨some 30, (some (27, false)), .call (.func 107) [(.tmp 29)]⟩,
 ⟨some 31, (some (27, false)), .prim (.un .not (.tmp 30))⟩,
 ⟨some 32, none, .prim (.pick (.tmp 27) (.const (.bool true)) (.tmp 31))⟩,
 ⟨some 33, none, .prim (.mov (.tmp 32))⟩,
 ⟨some 34, (some (33, false)), .prim (.fadr 5 (.tmp 1))⟩,
 ⟨some 35, (some (33, false)), .prim (.load 1 false (.tmp 34))⟩,
 ⟨some 36, (some (33, false)), .prim (.lenv (.tmp 35))⟩,
 ⟨some 37, (some (33, false)), .prim (.bin false .gtr (.tmp 36) (.const (.int .i64 4)))⟩,
 ⟨some 38, none, .prim (.pick (.tmp 33) (.const (.bool true)) (.tmp 37))⟩])
 (.cond (.tmp 38)
 (.seq (.ops [⟨some 2, none, .prim (.mov (.const (.bool false)))⟩])
 .ret)
 .skip))
 (.seq (.seq (.ops [⟨some 39, none, .prim (.fadr 5 (.tmp 1))⟩,
 ⟨some 40, none, .prim (.load 1 false (.tmp 39))⟩,
 ⟨some 41, none, .prim (.lenv (.tmp 40))⟩,
 ⟨some 42, none, .prim (.mov (.const (.int .i64 0)))⟩])
 (.block 0 (.loop [0, 2, 3, 4, 5, 6, 7, 8, 9, 10, 11, 12, 13, 14, 15, 16, 17, 18, 19, 20, 21, 22, 23, 24, 25, 26, 27, 28, 29, 30, 31, 32, 33, 34, 35, 36, 37, 38, 39, 43, 44, 45, 46, 47, 48, 49, 50, 51, 52, 53, 54, 55, 56, 57, 58, 59, 60, 61, 62, 63, 64] (.seq (.ops [⟨some 43, none, .prim (.bin false .lss (.tmp 42) (.tmp 41))⟩])
 (.seq (.cond (.tmp 43)
 .skip
 (.exit 0))
 (.seq (.block 1 (.seq (.ops [⟨some 44, none, .prim (.mov (.tmp 42))⟩,
 ⟨some 45, none, .prim (.iadrs 1 (.tmp 40) (.tmp 42))⟩,
 ⟨some 46, none, .prim (.load 1 false (.tmp 45))⟩,
 ⟨some 3, none, .prim (.mov (.tmp 44))⟩,
 ⟨some 4, none, .prim (.mov (.tmp 46))⟩])
 (.seq (.ops [⟨some 47, none, .prim (.mov (.tmp 4))⟩,
 ⟨some 48, none, .call (.func 108) [(.tmp 47)]⟩,
 ⟨some 49, none, .prim (.un .not (.tmp 48))⟩,
 ⟨some 50, none, .prim (.mov (.tmp 49))⟩,
 ⟨some 51, (some (50, false)), .prim (.mov (.tmp 3))⟩,
 ⟨some 52, (some (50, false)), .prim (.bin false .gtr (.tmp 51) (.const (.int .i64 0)))⟩,
 ⟨some 53, (some (50, false)), .prim (.mov (.tmp 52))⟩,
 ⟨some 54, (some (53, true)), .prim (.mov (.tmp 4))⟩,
 ⟨some 55, (some (53, true)), .prim (.fadr 5 (.tmp 1))⟩,
 ⟨some 56, (some (53, true)), .prim (.load 1 false (.tmp 55))⟩,
 ⟨some 57, (some (53, true)), .prim (.mov (.tmp 3))⟩,
 ⟨some 58, (some (53, true)), .prim (.bin false .sub (.tmp 57) (.const (.int .i64 1)))⟩,
 ⟨some 59, (some (53, true)), .prim (.iadrs 1 (.tmp 56) (.tmp 58))⟩,
 ⟨some 60, (some (53, true)), .prim (.load 1 false (.tmp 59))⟩,
 ⟨some 61, (some (53, true)), .prim (.bin false .leq (.tmp 54) (.tmp 60))⟩,
 ⟨some 62, (some (50, false)), .prim (.pick (.tmp 53) (.tmp 61) (.const (.bool false)))⟩,
 ⟨some 63, none, .prim (.pick (.tmp 50) (.const (.bool true)) (.tmp 62))⟩])
 (.cond (.tmp 63)
 (.seq (.ops [⟨some 2, none, .prim (.mov (.const (.bool false)))⟩])
 .ret)
 .skip))))
 (.ops [⟨some 64, none, .prim (.bin false .add (.tmp 42) (.const (.int .i64 1)))⟩,
 ⟨some 42, none, .prim (.mov (.tmp 64))⟩])))))))
 (.seq (.ops [⟨some 2, none, .prim (.mov (.const (.bool true)))⟩])
 .ret))))
def o51 : List Tmp := []
def r51 : List RV := [.tmp 2]
theorem t51 : Text Tryz.prog 51 o51 c51 r51 65 := ⟨⟨Tryz.f51, _, by kernel_rfl, by kernel_rfl, rfl, by kernel_rfl, by kernel_rfl, rfl⟩, by kernel_rfl⟩
def c52 : ACode :=
 (.seq (.ops [⟨some 3, none, .prim (.boxr (.tmp 0))⟩,
 ⟨some 4, none, .prim (.boxr (.tmp 1))⟩,
 ⟨some 5, none, .prim (.boxr (.tmp 2))⟩,
 ⟨some 6, none, .prim (.mov (.const (.bool false)))⟩])
 (.seq (.draw [⟨⟨some 7, none, .prim (.load 6 true (.tmp 3))⟩, [], false, 0, 0⟩,
 ⟨⟨some 8, none, .prim (.load 3 true (.tmp 5))⟩, [], false, 0, 0⟩,
 ⟨⟨some 9, none, .call (.func 109) [(.tmp 7), (.tmp 8)]⟩, [0, 1], true, 0, 0⟩,
 ⟨⟨some 10, none, .prim (.mov (.tmp 9))⟩, [0, 1, 2], false, 1, 1⟩,
 ⟨⟨some 11, (some (10, true)), .prim (.load 6 true (.tmp 3))⟩, [0, 1, 2, 3], false, 1, 1⟩,
 ⟨⟨some 12, (some (10, true)), .prim (.load 3 true (.tmp 4))⟩, [0, 1, 2, 3], false, 1, 1⟩,
 ⟨⟨some 13, (some (10, true)), .call (.func 110) [(.tmp 11), (.tmp 12)]⟩, (List.range 6), true, 0, 0⟩,
 ⟨⟨some 14, none, .prim (.pick (.tmp 10) (.tmp 13) (.const (.bool false)))⟩, (List.range 7), false, 2, 2⟩,
 ⟨⟨some 15, none, .prim (.mov (.tmp 14))⟩, (List.range 8), false, 2, 2⟩,
 ⟨⟨some 16, (some (15, true)), .prim (.load 6 true (.tmp 3))⟩, (List.range 9), false, 2, 2⟩,
 ⟨⟨some 17, (some (15, true)), .prim (.load 3 true (.tmp 5))⟩, (List.range 9), false, 2, 2⟩,
 ⟨⟨some 18, (some (15, true)), .call (.func 110) [(.tmp 16), (.tmp 17)]⟩, (List.range 11), true, 0, 0⟩,
 ⟨⟨some 19, (some (15, true)), .prim (.un .not (.tmp 18))⟩, (List.range 12), false, 3, 3⟩,
 ⟨⟨some 20, none, .prim (.pick (.tmp 15) (.tmp 19) (.const (.bool false)))⟩, (List.range 13), false, 3, 3⟩,
 ⟨⟨some 21, none, .prim (.mov (.tmp 20))⟩, (List.range 14), false, 3, 3⟩,
 ⟨⟨some 22, (some (21, true)), .prim (.load 6 true (.tmp 3))⟩, (List.range 15), false, 3, 3⟩,
 ⟨⟨some 23, (some (21, true)), .prim (.load 3 true (.tmp 4))⟩, (List.range 15), false, 3, 3⟩,
 ⟨⟨some 24, (some (21, true)), .call (.func 111) [(.tmp 22), (.tmp 23)]⟩, (List.range 17), true, 0, 0⟩,
 ⟨⟨some 25, (some (21, true)), .prim (.load 6 true (.tmp 3))⟩, (List.range 15), false, 3, 4⟩,
 ⟨⟨some 26, (some (21, true)), .prim (.load 3 true (.tmp 5))⟩, (List.range 15), false, 3, 4⟩,
 ⟨⟨some 27, (some (21, true)), .call (.func 111) [(.tmp 25), (.tmp 26)]⟩, (List.range 20), true, 0, 0⟩,
 ⟨⟨some 28, (some (21, true)), .prim (.bin false .eql (.tmp 24) (.tmp 27))⟩, (List.range 21), false, 5, 5⟩,
 ⟨⟨some 29, none, .prim (.pick (.tmp 21) (.tmp 28) (.const (.bool false)))⟩, (List.range 22), false, 5, 5⟩,
 ⟨⟨some 6, none, .prim (.mov (.tmp 29))⟩, (List.range 23), false, 5, 5⟩])
 .ret))
def o52 : List Tmp := []
def r52 : List RV := [.tmp 6]
theorem t52 : Text Tryz.prog 52 o52 c52 r52 30 := ⟨⟨Tryz.f52, _, by kernel_rfl, by kernel_rfl, rfl, by kernel_rfl, by kernel_rfl, rfl⟩, by kernel_rfl⟩
def c80 : ACode :=
 (.seq (.ops [⟨some 1, none, .prim (.boxr (.tmp 0))⟩,
 ⟨some 2, none, .prim (.allocm [.pl (.bool false), .pl (.float .f64 0), .pl (.float .f64 0)])⟩])
 (.seq (.ops [⟨some 4, none, .prim (.fadr 1 (.tmp 1))⟩,
 ⟨some 5, none, .prim (.load 1 false (.tmp 4))⟩,
 ⟨some 6, none, .prim (.fadr 2 (.tmp 1))⟩,
 ⟨some 7, none, .prim (.load 1 false (.tmp 6))⟩,
 ⟨some 8, none, .prim (.build [.pl (.bool false), .pl (.float .f64 0), .pl (.float .f64 0)] [(1, 1, (.tmp 5)), (2, 1, (.tmp 7))])⟩,
 ⟨some 3, none, .prim (.allocm [.pl (.bool false), .pl (.float .f64 0), .pl (.float .f64 0)])⟩,
 ⟨none, none, .prim (.store 3 (.tmp 3) (.tmp 8))⟩])
 (.seq (.seq (.ops [⟨some 9, none, .prim (.fadr 0 (.tmp 1))⟩,
 ⟨some 10, none, .prim (.load 1 false (.tmp 9))⟩,
 ⟨some 11, none, .prim (.bin false .rem (.tmp 10) (.const (.int .i64 3)))⟩,
 ⟨some 12, none, .prim (.bin false .eql (.tmp 11) (.const (.int .i64 0)))⟩,
 ⟨some 13, none, .prim (.mov (.tmp 12))⟩,
 ⟨some 14, (some (13, false)), .prim (.fadr 1 (.tmp 3))⟩,
 ⟨some 15, (some (13, false)), .prim (.load 1 false (.tmp 14))⟩,
 ⟨some 16, (some (13, false)), .prim (.fadr 1 (.tmp 3))⟩,
 ⟨some 17, (some (13, false)), .prim (.load 1 false (.tmp 16))⟩,
 ⟨some 18, (some (13, false)), .prim (.bin false .neq (.tmp 15) (.tmp 17))⟩,
 ⟨some 19, none, .prim (.pick (.tmp 13) (.const (.bool true)) (.tmp 18))⟩,
 ⟨some 20, none, .prim (.mov (.tmp 19))⟩,
 ⟨some 21, (some (20, false)), .prim (.fadr 2 (.tmp 3))⟩,
 ⟨some 22, (some (20, false)), .prim (.load 1 false (.tmp 21))⟩,
 ⟨some 23, (some (20, false)), .prim (.fadr 2 (.tmp 3))⟩,
 ⟨some 24, (some (20, false)), .prim (.load 1 false (.tmp 23))⟩,
 ⟨some 25, (some (20, false)), .prim (.bin false .neq (.tmp 22) (.tmp 24))⟩,
 ⟨some 26, none, .prim (.pick (.tmp 20) (.const (.bool true)) (.tmp 25))⟩])
 (.cond (.tmp 26)
 (.seq (.ops [⟨some 27, none, .prim (.build [.pl (.bool false), .pl (.float .f64 0), .pl (.float .f64 0)] [(0, 1, (.const (.bool true)))])⟩,
 ⟨none, none, .prim (.store 3 (.tmp 2) (.tmp 27))⟩])
 .ret)
 .skip))
 (.seq (.seq (.ops [⟨some 28, none, .prim (.fadr 2 (.tmp 3))⟩,
 ⟨some 29, none, .prim (.load 1 false (.tmp 28))⟩,
 ⟨some 30, none, .prim (.fadr 1 (.tmp 3))⟩,
 ⟨some 31, none, .prim (.load 1 false (.tmp 30))⟩,
 ⟨some 32, none, .prim (.bin false .lss (.tmp 29) (.tmp 31))⟩])
 (.cond (.tmp 32)
 (.ops [⟨some 33, none, .prim (.fadr 2 (.tmp 3))⟩,
 ⟨some 34, none, .prim (.load 1 false (.tmp 33))⟩,
 ⟨some 35, none, .prim (.fadr 1 (.tmp 3))⟩,
 ⟨some 36, none, .prim (.load 1 false (.tmp 35))⟩,
 ⟨some 37, none, .prim (.fadr 1 (.tmp 3))⟩,
 ⟨none, none, .prim (.store 1 (.tmp 37) (.tmp 34))⟩,
 ⟨some 38, none, .prim (.fadr 2 (.tmp 3))⟩,
 ⟨none, none, .prim (.store 1 (.tmp 38) (.tmp 36))⟩])
 .skip))
 (.seq (.ops [⟨some 39, none, .prim (.load 3 true (.tmp 3))⟩,
 ⟨none, none, .prim (.store 3 (.tmp 2) (.tmp 39))⟩])
 .ret)))))
def o80 : List Tmp := [2, 3]
def r80 : List RV := [.cell 2 3 true]
theorem t80 : Text Tryz.prog 80 o80 c80 r80 40 := ⟨⟨Tryz.f80, _, by kernel_rfl, by kernel_rfl, rfl, by kernel_rfl, by kernel_rfl, rfl⟩, by kernel_rfl⟩
def c94 : ACode :=
 (.seq (.ops [⟨some 2, none, .prim (.mov (.const (.int .u64 0)))⟩])
 (.seq (.seq (.ops [⟨some 3, none, .prim (.mov (.tmp 0))⟩,
 ⟨some 4, none, .call (.func 132) [(.tmp 3)]⟩])
 (.cond (.tmp 4)
 (.seq (.ops [⟨some 2, none, .prim (.mov (.const (.int .u64 9221120237041090561)))⟩])
 .ret)
 .skip))
 (.seq (.ops [⟨some 5, none, .prim (.mov (.tmp 0))⟩,
 ⟨some 6, none, .call (.func 47) [(.tmp 5)]⟩,
 ⟨some 2, none, .prim (.mov (.tmp 6))⟩])
 .ret)))
def o94 : List Tmp := []
def r94 : List RV := [.tmp 2]
theorem t94 : Text Tryz.prog 94 o94 c94 r94 7 := ⟨⟨Tryz.f94, _, by kernel_rfl, by kernel_rfl, rfl, by kernel_rfl, by kernel_rfl, rfl⟩, by kernel_rfl⟩
def c107 : ACode :=
 (.seq (.ops [⟨some 1, none, .prim (.boxr (.tmp 0))⟩,
 ⟨some 2, none, .prim (.mov (.const (.bool false)))⟩])
 (.seq (.seq (.ops [⟨some 3, none, .prim (.fadr 0 (.tmp 1))⟩,
 ⟨some 4, none, .prim (.load 1 false (.tmp 3))⟩])
 (.cond (.tmp 4)
 (.seq (.ops [⟨some 5, none, .prim (.fadr 1 (.tmp 1))⟩,
 ⟨some 6, none, .prim (.load 1 false (.tmp 5))⟩,
 ⟨some 7, none, .call (.func 94) [(.tmp 6)]⟩,
 ⟨some 8, none, .prim (.bin false .eql (.tmp 7) (.const (.int .u64 0)))⟩,
 ⟨some 9, none, .prim (.mov (.tmp 8))⟩,
 ⟨some 10, (some (9, true)), .prim (.fadr 2 (.tmp 1))⟩,
 ⟨some 11, (some (9, true)), .prim (.load 1 false (.tmp 10))⟩,
 ⟨some 12, (some (9, true)), .call (.func 94) [(.tmp 11)]⟩,
 ⟨some 13, (some (9, true)), .prim (.bin false .eql (.tmp 12) (.const (.int .u64 0)))⟩,
 ⟨some 14, none, .prim (.pick (.tmp 9) (.tmp 13) (.const (.bool false)))⟩,
 ⟨some 2, none, .prim (.mov (.tmp 14))⟩])
 .ret)
 .skip))
 (.seq (.ops [⟨some 15, none, .prim (.fadr 1 (.tmp 1))⟩,
 ⟨some 16, none, .prim (.load 1 false (.tmp 15))⟩,
 ⟨some 17, none, .prim (.fadr 2 (.tmp 1))⟩,
 ⟨some 18, none, .prim (.load 1 false (.tmp 17))⟩,
 ⟨some 19, none, .prim (.bin false .leq (.tmp 16) (.tmp 18))⟩,
 ⟨some 2, none, .prim (.mov (.tmp 19))⟩])
 .ret)))
def o107 : List Tmp := []
def r107 : List RV := [.tmp 2]
theorem t107 : Text Tryz.prog 107 o107 c107 r107 20 := ⟨⟨Tryz.f107, _, by kernel_rfl, by kernel_rfl, rfl, by kernel_rfl, by kernel_rfl, rfl⟩, by kernel_rfl⟩
def c109 : ACode :=
 (.seq (.ops [⟨some 2, none, .prim (.boxr (.tmp 0))⟩,
 ⟨some 3, none, .prim (.boxr (.tmp 1))⟩,
 ⟨some 4, none, .prim (.mov (.const (.bool false)))⟩])
 (.seq (.ops [⟨some 5, none, .prim (.load 6 true (.tmp 2))⟩,
 ⟨some 6, none, .call (.func 145) [(.tmp 5)]⟩,
 ⟨some 7, none, .prim (.mov (.tmp 6))⟩,
 ⟨some 8, (some (7, true)), .prim (.fadr 1 (.tmp 2))⟩,
 ⟨some 9, (some (7, true)), .prim (.load 1 false (.tmp 8))⟩,
 ⟨some 10, (some (7, true)), .prim (.fadr 1 (.tmp 3))⟩,
 ⟨some 11, (some (7, true)), .prim (.load 1 false (.tmp 10))⟩,
 ⟨some 12, (some (7, true)), .call (.func 146) [(.tmp 9), (.tmp 11)]⟩,
 ⟨some 13, none, .prim (.pick (.tmp 7) (.tmp 12) (.const (.bool false)))⟩,
 ⟨some 4, none, .prim (.mov (.tmp 13))⟩])
 .ret))
def o109 : List Tmp := []
def r109 : List RV := [.tmp 4]
theorem t109 : Text Tryz.prog 109 o109 c109 r109 14 := ⟨⟨Tryz.f109, _, by kernel_rfl, by kernel_rfl, rfl, by kernel_rfl, by kernel_rfl, rfl⟩, by kernel_rfl⟩
def c110 : ACode :=
 (.seq (.ops [⟨some 2, none, .prim (.boxr (.tmp 0))⟩,
 ⟨some 3, none, .prim (.boxr (.tmp 1))⟩,
 ⟨some 4, none, .prim (.mov (.const (.bool false)))⟩])
 (.seq (.ops [⟨some 5, none, .prim (.load 6 true (.tmp 2))⟩,
 ⟨some 6, none, .call (.func 145) [(.tmp 5)]⟩,
 ⟨some 7, none, .prim (.mov (.tmp 6))⟩,
 ⟨some 8, (some (7, true)), .prim (.fadr 0 (.tmp 2))⟩,
 ⟨some 9, (some (7, true)), .prim (.load 1 false (.tmp 8))⟩,
 ⟨some 10, (some (7, true)), .prim (.fadr 1 (.tmp 3))⟩,
 ⟨some 11, (some (7, true)), .prim (.load 1 false (.tmp 10))⟩,
 ⟨some 12, (some (7, true)), .call (.func 146) [(.tmp 9), (.tmp 11)]⟩,
 ⟨some 13, none, .prim (.pick (.tmp 7) (.tmp 12) (.const (.bool false)))⟩,
 ⟨some 14, none, .prim (.mov (.tmp 13))⟩,
 ⟨some 15, (some (14, true)), .prim (.fadr 2 (.tmp 2))⟩,
 ⟨some 16, (some (14, true)), .prim (.load 3 true (.tmp 15))⟩,
 ⟨some 17, (some (14, true)), .prim (.fadr 2 (.tmp 3))⟩,
 ⟨some 18, (some (14, true)), .prim (.load 1 false (.tmp 17))⟩,
 ⟨some 19, (some (14, true)), .call (.func 147) [(.tmp 16), (.tmp 18)]⟩,
 ⟨some 20, none, .prim (.pick (.tmp 14) (.tmp 19) (.const (.bool false)))⟩,
 ⟨some 4, none, .prim (.mov (.tmp 20))⟩])
 .ret))
def o110 : List Tmp := []
def r110 : List RV := [.tmp 4]
theorem t110 : Text Tryz.prog 110 o110 c110 r110 21 := ⟨⟨Tryz.f110, _, by kernel_rfl, by kernel_rfl, rfl, by kernel_rfl, by kernel_rfl, rfl⟩, by kernel_rfl⟩
def c111 : ACode :=
 (.seq (.ops [⟨some 2, none, .prim (.boxr (.tmp 0))⟩,
 ⟨some 3, none, .prim (.boxr (.tmp 1))⟩,
 ⟨some 4, none, .prim (.mov (.const (.string (ByteArray.mk #[]))))⟩])
 (.seq (.ops [⟨some 5, none, .prim (.fadr 1 (.tmp 3))⟩,
 ⟨some 6, none, .prim (.load 1 false (.tmp 5))⟩,
 ⟨some 7, none, .prim (.fadr 5 (.tmp 2))⟩,
 ⟨some 8, none, .prim (.load 1 false (.tmp 7))⟩,
 ⟨some 9, none, .call (.func 148) [(.tmp 6), (.tmp 8)]⟩,
 ⟨some 4, none, .prim (.mov (.tmp 9))⟩])
 .ret))
def o111 : List Tmp := []
def r111 : List RV := [.tmp 4]
theorem t111 : Text Tryz.prog 111 o111 c111 r111 10 := ⟨⟨Tryz.f111, _, by kernel_rfl, by kernel_rfl, rfl, by kernel_rfl, by kernel_rfl, rfl⟩, by kernel_rfl⟩
def c145 : ACode :=
 (.seq (.ops [⟨some 1, none, .prim (.boxr (.tmp 0))⟩,
 ⟨some 2, none, .prim (.mov (.const (.bool false)))⟩])
 (.seq (.ops [⟨some 3, none, .prim (.load 6 true (.tmp 1))⟩,
 ⟨some 4, none, .call (.func 51) [(.tmp 3)]⟩,
 ⟨some 5, none, .prim (.mov (.tmp 4))⟩,
 ⟨some 6, (some (5, true)), .prim (.load 6 true (.tmp 1))⟩,
 ⟨some 7, (some (5, true)), .call (.func 164) [(.tmp 6)]⟩,
 ⟨some 8, (some (5, true)), .prim (.un .not (.tmp 7))⟩,
 ⟨some 9, none, .prim (.pick (.tmp 5) (.tmp 8) (.const (.bool false)))⟩,
 ⟨some 2, none, .prim (.mov (.tmp 9))⟩])
 .ret))
def o145 : List Tmp := []
def r145 : List RV := [.tmp 2]
theorem t145 : Text Tryz.prog 145 o145 c145 r145 10 := ⟨⟨Tryz.f145, _, by kernel_rfl, by kernel_rfl, rfl, by kernel_rfl, by kernel_rfl, rfl⟩, by kernel_rfl⟩
def c147 : ACode :=
 (.seq (.ops [⟨some 2, none, .prim (.boxr (.tmp 0))⟩,
 ⟨some 4, none, .prim (.mov (.const (.bool false)))⟩])
 (.seq (.ops [⟨some 5, none, .prim (.load 3 true (.tmp 2))⟩,
 ⟨some 6, none, .call (.func 107) [(.tmp 5)]⟩,
 ⟨some 7, none, .prim (.mov (.tmp 6))⟩,
 ⟨some 8, (some (7, true)), .prim (.fadr 0 (.tmp 2))⟩,
 ⟨some 9, (some (7, true)), .prim (.load 1 false (.tmp 8))⟩,
 ⟨some 10, (some (7, true)), .prim (.mov (.tmp 9))⟩,
 ⟨some 11, (some (10, false)), .prim (.fadr 1 (.tmp 2))⟩,
 ⟨some 12, (some (10, false)), .prim (.load 1 false (.tmp 11))⟩,
 ⟨some 13, (some (10, false)), .prim (.mov (.tmp 1))⟩,
 ⟨some 14, (some (10, false)), .prim (.bin false .leq (.tmp 12) (.tmp 13))⟩,
 ⟨some 15, (some (10, false)), .prim (.mov (.tmp 14))⟩,
 ⟨some 16, (some (15, true)), .prim (.mov (.tmp 1))⟩,
 ⟨some 17, (some (15, true)), .prim (.fadr 2 (.tmp 2))⟩,
 ⟨some 18, (some (15, true)), .prim (.load 1 false (.tmp 17))⟩,
 ⟨some 19, (some (15, true)), .prim (.bin false .leq (.tmp 16) (.tmp 18))⟩,
 ⟨some 20, (some (10, false)), .prim (.pick (.tmp 15) (.tmp 19) (.const (.bool false)))⟩,
 ⟨some 21, (some (7, true)), .prim (.pick (.tmp 10) (.const (.bool true)) (.tmp 20))⟩,
 ⟨some 22, none, .prim (.pick (.tmp 7) (.tmp 21) (.const (.bool false)))⟩,
 ⟨some 4, none, .prim (.mov (.tmp 22))⟩])
 .ret))
def o147 : List Tmp := []
def r147 : List RV := [.tmp 4]
theorem t147 : Text Tryz.prog 147 o147 c147 r147 23 := ⟨⟨Tryz.f147, _, by kernel_rfl, by kernel_rfl, rfl, by kernel_rfl, by kernel_rfl, rfl⟩, by kernel_rfl⟩
def c164 : ACode :=
 (.seq (.ops [⟨some 1, none, .prim (.boxr (.tmp 0))⟩,
 ⟨some 2, none, .prim (.mov (.const (.bool false)))⟩])
 (.seq (.ops [⟨some 3, none, .prim (.load 6 true (.tmp 1))⟩,
 ⟨some 4, none, .call (.func 51) [(.tmp 3)]⟩,
 ⟨some 5, none, .prim (.mov (.tmp 4))⟩,
 ⟨some 6, (some (5, true)), .prim (.fadr 0 (.tmp 1))⟩,
 ⟨some 7, (some (5, true)), .prim (.load 1 false (.tmp 6))⟩,
 ⟨some 8, (some (5, true)), .call (.func 174) [(.tmp 7)]⟩,
 ⟨some 9, (some (5, true)), .prim (.mov (.tmp 8))⟩,
 ⟨some 10, (some (9, false)), .prim (.fadr 1 (.tmp 1))⟩,
 ⟨some 11, (some (9, false)), .prim (.load 1 false (.tmp 10))⟩,
 ⟨some 12, (some (9, false)), .call (.func 174) [(.tmp 11)]⟩,
 ⟨some 13, (some (5, true)), .prim (.pick (.tmp 9) (.const (.bool true)) (.tmp 12))⟩,
 ⟨some 14, none, .prim (.pick (.tmp 5) (.tmp 13) (.const (.bool false)))⟩,
 ⟨some 2, none, .prim (.mov (.tmp 14))⟩])
 .ret))
def o164 : List Tmp := []
def r164 : List RV := [.tmp 2]
theorem t164 : Text Tryz.prog 164 o164 c164 r164 15 := ⟨⟨Tryz.f164, _, by kernel_rfl, by kernel_rfl, rfl, by kernel_rfl, by kernel_rfl, rfl⟩, by kernel_rfl⟩
end Go.Proofs.YtmkmhhjkdaklbaaGreat
namespace Go.Proofs.YtmkmhhjkdaklbaaGreat
open Go Go.Ab Go.Cod
set_option maxRecDepth 100000
abbrev Fl (n : Nat) : AV := .pl (.float .f64 n)
structure RuM where
 src : List Mtr
 tgt : List Mtr
 any : Bool
 lo : Nat
 hi : Nat
 eq : List ByteArray
def txs (l : List ByteArray) : List AV := l.map fun s => Sx s
def ruV (r : RuM) : AV := .agg [.sl 3 (mvs3 r.src), .sl 3 (mvs3 r.tgt), Bo r.any, Fl r.lo, Fl r.hi, .sl 1 (txs r.eq)]
theorem txs_len (l : List ByteArray) : (txs l).length = l.length := List.length_map ..
theorem txs_get (l : List ByteArray) (i : Nat) (h : i < l.length) : (txs l)[i]? = some (Sx l[i]) := by simp [txs, h]
theorem txs_D (l : List ByteArray) (i : Nat) (h : i < l.length) : (txs l)[i]? = some (Sx (l.getD i ⟨#[]⟩)) := by
 rw [txs_get l i h, List.getD_eq_getElem?_getD, List.getElem?_eq_getElem h]; rfl
def leF (a b : Nat) : Bool := FloatKind.f64.format.order a b == some .lt || FloatKind.f64.format.order a b == some .eq
theorem leF_def (a b : Nat) : (FloatKind.f64.format.order a b == some .lt || FloatKind.f64.format.order a b == some .eq) = leF a b := rfl
def nanF (a : Nat) : Bool := FloatKind.f64.format.order a a != some .eq
theorem nanF_def (a : Nat) : (FloatKind.f64.format.order a a != some .eq) = nanF a := rfl
def bitsF (a : Nat) : Nat := if nanF a then 9221120237041090561 else a
def mayB (any : Bool) (lo hi : Nat) : Bool := if any then (((bitsF lo : Nat) : Int) == 0) && (((bitsF hi : Nat) : Int) == 0) else leF lo hi
def eqOk (e : List ByteArray) (i : Nat) : Bool := nameB (e.getD i ⟨#[]⟩) && !(decide (0 < i) && leS (e.getD i ⟨#[]⟩) (e.getD (i - 1) ⟨#[]⟩))
def eqB (e : List ByteArray) : Bool := decide (e.length ≤ 4) && (List.range e.length).all (eqOk e)
def ruIs (r : RuM) : Bool := !(((r.src.length : Nat) : Int) == 0) && (!(((r.tgt.length : Nat) : Int) == 0) && (listB r.src && (listB r.tgt && (mayB r.any r.lo r.hi && eqB r.eq))))
section
variable (σ : St)
theorem no_ans (a : Nat) : Ans Tryz.prog 132 [Fl a] σ (Bo (nanF a)) σ := by
 refine Ans.of_run t132 ?_
 simp -implicitDefEqProofs only [c132, r132, go_sem, nanF_def]
 exact Fini.ret rfl
theorem f64bits_ans (a : Nat) : Ans Tryz.prog 47 [Fl a] σ (UN a) σ := ext_bits.ok _ _ _ _ rfl
theorem bits_ans (a : Nat) : Ans Tryz.prog 94 [Fl a] σ (UN (bitsF a)) σ := by
 refine Ans.of_run t94 ?_
 simp -implicitDefEqProofs only [c94, r94, go_sem]
 refine CO.intro (no_ans σ a) ?_
 unfold bitsF
 cases nanF a with
 | true =>
   simp -implicitDefEqProofs only [go_sem]
   exact Fini.ret rfl
 | false =>
   simp -implicitDefEqProofs only [go_sem]
   refine CO.intro (f64bits_ans σ a) ?_
   simp -implicitDefEqProofs only [go_sem]
   exact Fini.ret rfl
theorem may_ans (any : Bool) (lo hi : Nat) : Ans Tryz.prog 107 [.agg [Bo any, Fl lo, Fl hi]] σ (Bo (mayB any lo hi)) σ := by
 refine Ans.of_run t107 ?_
 unfold mayB
 cases any with
 | true =>
   simp -implicitDefEqProofs only [c107, r107, go_sem]
   refine CO.intro (bits_ans σ lo) ?_
   cases h : (((bitsF lo : Nat) : Int) == 0) with
   | false =>
     simp -implicitDefEqProofs only [go_sem, h]
     exact Fini.ret rfl
   | true =>
     simp -implicitDefEqProofs only [go_sem, h]
     refine CO.intro (bits_ans σ hi) ?_
     simp -implicitDefEqProofs only [go_sem, h]
     exact Fini.ret rfl
 | false =>
   simp -implicitDefEqProofs only [c107, r107, go_sem, leF_def]
   exact Fini.ret rfl
theorem ruis_ans (r : RuM) : Ans Tryz.prog 51 [ruV r] σ (Bo (ruIs r)) σ := by
 obtain ⟨src, tgt, any, lo, hi, eq⟩ := r
 have d4 : decide ((4 : Int) < eq.length) = decide (4 < eq.length) := decNN 4 _
 refine Ans.of_run t51 ?_
 unfold ruIs ruV
 simp only
 cases h1 : (((src.length : Nat) : Int) == 0) with
 | true =>
   simp -implicitDefEqProofs only [c51, r51, go_sem, mvs3_len, h1]
   exact Fini.ret rfl
 | false =>
 cases h2 : (((tgt.length : Nat) : Int) == 0) with
 | true =>
   simp -implicitDefEqProofs only [c51, r51, go_sem, mvs3_len, h1, h2]
   exact Fini.ret rfl
 | false =>
 simp -implicitDefEqProofs only [c51, r51, go_sem, mvs3_len, h1, h2]
 refine CO.intro (list_any σ src) ?_
 cases h3 : listB src with
 | false =>
   simp -implicitDefEqProofs only [go_sem]
   exact Fini.ret rfl
 | true =>
 simp -implicitDefEqProofs only [go_sem]
 refine CO.intro (list_any σ tgt) ?_
 cases h4 : listB tgt with
 | false =>
   simp -implicitDefEqProofs only [go_sem]
   exact Fini.ret rfl
 | true =>
 simp -implicitDefEqProofs only [go_sem]
 refine CO.intro (may_ans σ any lo hi) ?_
 cases h5 : mayB any lo hi with
 | false =>
   simp -implicitDefEqProofs only [go_sem]
   exact Fini.ret rfl
 | true =>
 unfold eqB
 by_cases h6 : eq.length ≤ 4
 · have x4 : decide (4 < eq.length) = false := decide_eq_false (by omega)
   rw [decide_eq_true h6]
   simp -implicitDefEqProofs only [go_sem, txs_len, d4, x4]
   refine Go.Ab.L.scan eq.length (eqOk eq) (fun i => mkE 65 [(1, .rp [.sl 3 (mvs3 src), .sl 3 (mvs3 tgt), Bo any, Fl lo, Fl hi, .sl 1 (txs eq)]), (40, .sl 1 (txs eq)), (41, I eq.length), (42, I i)]) (fun _ => σ) ?_ ?_ rfl rfl
   · intro i hi hp J hJ
     have hx := txs_D eq i hi
     have hF : eqOk eq i = false → (List.range eq.length).all (eqOk eq) = false := fun h => List.all_eq_false.2 ⟨i, List.mem_range.2 hi, by rw [h]; decide⟩
     have hin := wrap_succ (i := i) (by omega)
     have d0 : decide ((0 : Int) < i) = decide (0 < i) := by rw [Bool.eq_iff_iff]; simp
     have hO : eqOk eq i = (nameB (eq.getD i ⟨#[]⟩) && !(decide (0 < i) && leS (eq.getD i ⟨#[]⟩) (eq.getD (i - 1) ⟨#[]⟩))) := rfl
     rw [hO] at hJ hF
     simp -implicitDefEqProofs only [mkE, go_sem, txs_len, nat_lt hi, dec_lt hi, hx]
     refine CO.intro (name_ans' σ _) ?_
     generalize eq.getD i ⟨#[]⟩ = s at hJ hF hx
     cases hb : nameB s with
     | false =>
       rw [hb] at hF
       rw [hF rfl]
       simp -implicitDefEqProofs only [go_sem]
       exact Fini.ret rfl
     | true =>
       rw [hb] at hJ hF
       by_cases hz : i = 0
       · subst hz
         have hgo := hJ rfl
         simp -implicitDefEqProofs only [go_sem, d0, hin]
         exact hgo
       · have hpos : decide (0 < i) = true := decide_eq_true (by omega)
         have hx1 := txs_D eq (i - 1) (by omega)
         have w1 : IntKind.i64.wrap ((i : Int) - 1) = ((i - 1 : Nat) : Int) := by rw [wrapN (by omega) (by omega)]; omega
         have hlt1 : (((i - 1 : Nat) : Int) < eq.length) = True := by simp; omega
         rw [hpos] at hJ hF
         generalize eq.getD (i - 1) ⟨#[]⟩ = s1 at hJ hF hx1
         have hle : (Op.bytesLess s.toList s1.toList || s.toList == s1.toList) = leS s s1 := rfl
         simp -implicitDefEqProofs only [go_sem, d0, hpos, w1, txs_len, hlt1, hx1, hle]
         cases h7 : leS s s1 with
         | true =>
           rw [h7] at hF
           rw [hF rfl]
           simp -implicitDefEqProofs only [go_sem]
           exact Fini.ret rfl
         | false =>
           rw [h7] at hJ
           have hgo := hJ rfl
           simp -implicitDefEqProofs only [go_sem, hin]
           exact hgo
   · intro hp J
     have hd : decide ((eq.length : Int) < eq.length) = false := by simp
     simp -implicitDefEqProofs only [mkE, go_sem, txs_len, hd]
     refine Fini.ret' rfl (bo_congr ?_)
     exact (List.all_eq_true.2 fun i hi => hp i (List.mem_range.1 hi)).symm
 · have x4 : decide (4 < eq.length) = true := decide_eq_true (by omega)
   rw [decide_eq_false h6]
   simp -implicitDefEqProofs only [go_sem, txs_len, d4, x4]
   exact Fini.ret rfl
end
end Go.Proofs.YtmkmhhjkdaklbaaGreat
namespace Go.Proofs.YtmkmhhjkdaklbaaGreat
open Go Go.Ab Go.Cod
set_option maxRecDepth 100000
def mkM (x : UInt8 × ByteArray × ByteArray) : Mtr := ((x.1.toNat : Int), x.2.1, x.2.2)
def mtrR : Rd Mtr := dressR (seqR byteR (seqR (textR 12) (textR 40))) mkM
def listR : Rd (List Mtr) := onlyR (rowR 5 mtrR) listB
def putM (x : Mtr) : Byt := x.1.toNat.toUInt8 :: (txtB x.2.1 ++ txtB x.2.2)
def putL (M : List Mtr) : Byt := laidRow putM M
theorem ends_mtr : EndsR mtrR := ends_dress (ends_seq ends_byte (ends_seq (ends_text 12) (ends_text 40))) _
theorem ends_list : EndsR listR := ends_only (ends_row ends_mtr 5) _
theorem mtr_fits : Fits mtrR putM (fun x => 0 ≤ x.1 ∧ x.1 < 256 ∧ x.2.1.size ≤ 12 ∧ x.2.2.size ≤ 40) := by
 refine dress_fits (seq_fits byte_fits (seq_fits (text_fits (by decide)) (text_fits (by decide)))) (g := fun x => (x.1.toNat.toUInt8, x.2.1, x.2.2)) ?_ ?_
 · rintro ⟨c, n, v⟩ ⟨_, h1, h2⟩
   have := c.toNat_lt
   refine ⟨⟨by simp only [mkM]; omega, by simp only [mkM]; omega, h1, h2⟩, ?_⟩
   simp only [putM, mkM, Int.toNat_natCast, toUInt8_toNat]
   rfl
 · rintro ⟨k, n, v⟩ ⟨h0, h1, h2, h3⟩
   refine ⟨⟨trivial, h2, h3⟩, ?_⟩
   simp only at h0 h1
   have : (k.toNat.toUInt8.toNat : Int) = k := by rw [toNat_toUInt8 (by omega)]; omega
   simp only [mkM, this]
theorem pparse_size {s : ByteArray} (h : (pparse s).2 = true) : s.size ≤ 40 := by
 unfold pparse at h
 rcases Nat.lt_or_ge 40 s.size with h40 | h40
 · exfalso
   have := (fwd_PW s 8 0 true).2 rfl
   simp [h40, this] at h
 · exact h40
theorem isB_kind {k : Int} {nm v : ByteArray} (h : isB k nm v = true) : (1 ≤ k ∧ k ≤ 4) ∧ nm.size ≤ 12 ∧ v.size ≤ 40 := by
 unfold isB nameB at h
 simp only [Bool.and_eq_true, decide_eq_true_eq] at h
 obtain ⟨⟨⟨⟨_, hn⟩, _⟩, _⟩, h2⟩ := h
 split at h2
 · rename_i hl
   unfold likeB at hl
   simp only [Bool.or_eq_true, beq_iff_eq] at hl
   exact ⟨by omega, hn, pparse_size h2⟩
 · simp only [Bool.and_eq_true, Bool.or_eq_true, beq_iff_eq, decide_eq_true_eq] at h2
   exact ⟨by omega, hn, by omega⟩
theorem listB_fits : Fits listR putL (fun M => listB M = true) := by
 refine (only_fits (row_fits (by decide) mtr_fits) listB).weaken fun M => ⟨fun h => h.2, fun h => ⟨?_, h⟩⟩
 unfold listB at h
 simp only [Bool.and_eq_true, decide_eq_true_eq] at h
 refine ⟨h.1, fun x hx => ?_⟩
 obtain ⟨i, hi, rfl⟩ := List.getElem_of_mem hx
 have h2 := List.all_eq_true.1 h.2 i (List.mem_range.2 hi)
 unfold okL isM at h2
 simp only [Bool.and_eq_true] at h2
 have e : M.getD i noM3 = M[i] := by rw [List.getD_eq_getElem?_getD, List.getElem?_eq_getElem hi]; rfl
 rw [e] at h2
 have := isB_kind h2.1
 omega
def mtrS (b : Byt) (q : Nat × Bool) : Mtr × (Nat × Bool) := dressSt (seqSt (runR byteR 0 b) (seqSt (runR (textR 12) ⟨#[]⟩ b) (runR (textR 40) ⟨#[]⟩ b))) mkM q
theorem steps_mtr (b : Byt) : StepsR b mtrR (mtrS b) := steps_dress (steps_seq (steps_run b byteR 0) (steps_seq (steps_run b _ _) (steps_run b _ _) (ends_text 12)) ends_byte) _
def listS (b : Byt) : Nat × Bool → List Mtr × (Nat × Bool) := onlySt (rowSt 5 b (mtrS b)) listB
theorem steps_list (b : Byt) : StepsR b listR (listS b) := steps_only (steps_row (steps_mtr b) ends_mtr 5) _
def readV {α : Type} (r : Option (α × Byt)) (b : Byt) (enc : α → AV) (none_ : AV) : AV := match r with
 | some p => .tup [enc p.1, I (b.length - p.2.length : Nat), Bo true]
 | none => .tup [none_, I 0, Bo false]
theorem runR_le {most : Nat} (b : Byt) (q : Nat × Bool) : (runR (numR most) 0 b q).1 ≤ most := by
 unfold runR
 split
 · exact Nat.zero_le _
 · split
   · exact Nat.zero_le _
   · rename_i p h
     simp only [numR] at h
     cases hg : getN 0 (b.drop q.1) with
     | none => simp [hg] at h
     | some x =>
       simp only [hg, Option.bind_some] at h
       split at h
       · simp only [Option.some.injEq] at h; rw [← h]; assumption
       · cases h
theorem mvs3_snoc (M : List Mtr) (x : Mtr) : mvs3 M ++ [mv3 x] = mvs3 (M ++ [x]) := by simp [mvs3]
theorem bel_tup3 {n : Nat} {x : AV} {i : Int} {c : Bool} (h : Bel n x) : Bel n (.tup [x, I i, Bo c]) := .tup _ fun j hj => by
 have : ∀ y ∈ ([x, I i, Bo c] : List AV), Bel n y := by
  intro y hy
  simp only [List.mem_cons, List.not_mem_nil, or_false] at hy
  rcases hy with rfl | rfl | rfl
  · exact h
  · exact .pl _
  · exact .pl _
 exact this _ (List.getElem_mem hj)
theorem mread_ans0 (σ : St) (b : Byt) (hb : b.length ≤ 50000) : Ans Tryz.prog 56 [.sl 1 (byv b)] σ (readV (listR b) b (fun M => .sl 3 (mvs3 M)) .nils) σ := by
 have hS := (steps_list b).top
 refine Ans.of_run' t56 (fun hbel _ => ?_)
 simp -implicitDefEqProofs only [c56, r56, go_sem]
 refine CO.intro (new_ans σ b) ?_
 simp -implicitDefEqProofs only [go_sem, List.append_assoc, List.length_append]
 generalize hq1 : runR (numR 5) 0 b (0, false) = q1
 have hin0 : Inb b (0, false) := Nat.zero_le _
 have hn := num_ans (σ ++ [rob b (0, false), .row 3 []]) σ.length b (0, false) 5 (by decide) (g0 _ _ _) hin0 hb
 rw [hq1, s0] at hn
 refine CO.intro hn ?_
 have hn5 : q1.1 ≤ 5 := by rw [← hq1]; exact runR_le b _
 have hin1 : Inb b q1.2 := by rw [← hq1]; exact run_inb _ _ _ _ hin0
 simp -implicitDefEqProofs only [go_sem]
 refine Go.Ab.L.count q1.1 (fun i => mkE 40 [(5, .ptr σ.length 0), (6, .osl (σ.length + 1) i), (12, UN q1.1), (13, UN i)]) (fun i => σ ++ [rob b (itSt (mtrS b) q1.2 i).2, .row 3 (mvs3 (itSt (mtrS b) q1.2 i).1)]) ?_ ?_ rfl rfl
 · intro i hi J hJ
   have hitI := itSt_inb (steps_mtr b).inb q1.2 hin1 i
   have hlen := itSt_len (mtrS b) q1.2 i
   simp only [itSt] at hJ
   generalize itSt (mtrS b) q1.2 i = c at hJ hitI hlen ⊢
   obtain ⟨l, q⟩ := c
   simp only at hJ hitI hlen ⊢
   have d0 : decide ((i : Int) < q1.1) = true := dec_lt hi
   have w0 := wrapUN (n := i + 1) (by omega)
   have e0 : ((i : Int) + 1) = ((i + 1 : Nat) : Int) := rfl
   unfold mtrS dressSt seqSt at hJ
   simp only at hJ
   simp -implicitDefEqProofs only [mkE, go_sem, d0]
   have h1 := byte_ans' (σ ++ [rob b q, .row 3 (mvs3 l)]) σ.length b q (g0 _ _ _) hitI hb
   have hi2 := run_inb byteR 0 b q hitI
   generalize runR byteR 0 b q = r1 at h1 hi2 hJ
   rw [s0] at h1
   refine CO.intro h1 ?_
   have h2 := text_ans (σ ++ [rob b r1.2, .row 3 (mvs3 l)]) σ.length b r1.2 12 (by decide) (g0 _ _ _) hi2 hb
   have hi3 := run_inb (textR 12) ⟨#[]⟩ b r1.2 hi2
   generalize runR (textR 12) ⟨#[]⟩ b r1.2 = r2 at h2 hi3 hJ
   rw [s0] at h2
   simp -implicitDefEqProofs only [go_sem, bc]
   refine CO.intro h2 ?_
   have h3 := text_ans (σ ++ [rob b r2.2, .row 3 (mvs3 l)]) σ.length b r2.2 40 (by decide) (g0 _ _ _) hi3 hb
   generalize runR (textR 40) ⟨#[]⟩ b r2.2 = r3 at h3 hJ
   rw [s0] at h3
   simp -implicitDefEqProofs only [go_sem]
   refine CO.intro h3 ?_
   have hl : (mvs3 l).length = i := by rw [mvs3_len, hlen]
   have hw : IntKind.i64.wrap (r1.1.toNat : Int) = (r1.1.toNat : Int) := wrapI (by have := r1.1.toNat_lt; omega)
   have hle : i + 1 ≤ 4294967296 := by omega
   have hsn := mvs3_snoc l (mkM (r1.1, r2.1, r3.1))
   simp -implicitDefEqProofs only [go_sem, hw, g1, s1, hl, hle, List.length_singleton, e0, w0]
   rw [← hsn] at hJ
   exact hJ
 · intro J
   have hitI := itSt_inb (steps_mtr b).inb q1.2 hin1 q1.1
   have hlen := itSt_len (mtrS b) q1.2 q1.1
   have hL : listS b (0, false) = ((itSt (mtrS b) q1.2 q1.1).1, took (itSt (mtrS b) q1.2 q1.1).2 0 (listB (itSt (mtrS b) q1.2 q1.1).1)) := by
    unfold listS onlySt rowSt
    rw [hq1]
   rw [hL] at hS
   generalize itSt (mtrS b) q1.2 q1.1 = c at hS hitI hlen ⊢
   obtain ⟨l, q⟩ := c
   simp only at hS hitI hlen ⊢
   have hl : (mvs3 l).length = q1.1 := by rw [mvs3_len, hlen]
   have d0 : decide ((q1.1 : Int) < q1.1) = false := by simp
   simp -implicitDefEqProofs only [mkE, go_sem, d0, g1, s1, hl]
   refine CO.intro (list_any _ l) ?_
   have h2 := refuse_ans (σ ++ [rob b q, .dead]) σ.length b q (listB l) (g0 _ _ _) hitI hb
   rw [s0] at h2
   simp -implicitDefEqProofs only [go_sem]
   refine CO.intro h2 ?_
   have h3 := end_ans (σ ++ [rob b (took q 0 (listB l)), .dead]) σ.length b (took q 0 (listB l)) (g0 _ _ _)
   simp -implicitDefEqProofs only [go_sem]
   refine CO.intro h3 ?_
   have hbm : Bel σ.length (.sl 3 (mvs3 l)) := bel_mvs3 _ _
   cases hr : listR b with
   | none =>
     have hb2 := hS.2 hr
     rw [hb2]
     simp -implicitDefEqProofs only [go_sem]
     exact Fini.trim2 (σ' := σ) rfl rfl (Nat.le_refl _) (by unfold readV; exact bel_tup3 .nils) hbel
   | some p =>
     obtain ⟨M, t⟩ := p
     have hb2 := hS.1 M t hr
     simp only [Prod.mk.injEq] at hb2
     obtain ⟨rfl, hb2⟩ := hb2
     rw [hb2]
     simp -implicitDefEqProofs only [go_sem]
     refine Fini.trim2 (σ' := σ) rfl rfl (Nat.le_refl _) ?_ hbel
     unfold readV
     exact bel_tup3 hbm
theorem mread_ans (σ : St) (b : Byt) (hb : b.length ≤ 50000) : Ans Tryz.prog 56 [.sl 1 (byv b)] σ (readV (listR b) b (fun M => .sl 3 (mvs3 M)) (.sl 3 [])) σ := by
 refine (mread_ans0 σ b hb).subR ?_
 unfold readV
 cases listR b with
 | none => exact .tup (.cons (.nils 3) (.refl _))
 | some p => exact .refl _
end Go.Proofs.YtmkmhhjkdaklbaaGreat
namespace Go.Proofs.YtmkmhhjkdaklbaaGreat
open Go Go.Ab Go.Cod
set_option maxRecDepth 100000
theorem txtB_len (s : ByteArray) (h : s.size ≤ 1000000) : (txtB s).length ≤ 10 + s.size := by
 have h10 := putN_len10 (n := s.size) (by omega)
 rw [txtB, List.length_append, size_list]
 omega
theorem listB_at {M : List Mtr} (h : listB M = true) : M.length ≤ 5 ∧ ∀ x ∈ M, (1 ≤ x.1 ∧ x.1 ≤ 4) ∧ x.2.1.size ≤ 12 ∧ x.2.2.size ≤ 40 := by
 unfold listB at h
 simp only [Bool.and_eq_true, decide_eq_true_eq] at h
 refine ⟨h.1, fun x hx => ?_⟩
 obtain ⟨i, hi, rfl⟩ := List.getElem_of_mem hx
 have h2 := List.all_eq_true.1 h.2 i (List.mem_range.2 hi)
 unfold okL isM at h2
 simp only [Bool.and_eq_true] at h2
 have e : M.getD i noM3 = M[i] := by rw [List.getD_eq_getElem?_getD, List.getElem?_eq_getElem hi]; rfl
 rw [e] at h2
 exact isB_kind h2.1
def preL (M : List Mtr) (i : Nat) : Byt := putN M.length ++ laidMany putM (M.take i)
theorem preL_succ (M : List Mtr) (i : Nat) (h : i < M.length) : preL M (i + 1) = preL M i ++ putM M[i] := by
 unfold preL laidMany
 rw [List.take_succ_eq_append_getElem h, List.flatMap_append, List.append_assoc]
 simp
theorem preL_all (M : List Mtr) : preL M M.length = putL M := by unfold preL putL laidRow; rw [List.take_length]
theorem preL_len {M : List Mtr} (h : listB M = true) : ∀ i, i ≤ M.length → (preL M i).length ≤ 10 + 100 * i
 | 0, _ => by
   have := (listB_at h).1
   unfold preL laidMany
   simp only [List.take_zero, List.flatMap_nil, List.append_nil]
   have := putN_len10 (n := M.length) (by omega)
   omega
 | i + 1, hi => by
   have ih := preL_len h i (by omega)
   have hx := (listB_at h).2 M[i] (List.getElem_mem (by omega))
   have h1 := txtB_len (M[i]).2.1 (by omega)
   have h2 := txtB_len (M[i]).2.2 (by omega)
   rw [preL_succ M i (by omega), List.length_append]
   unfold putM
   simp only [List.length_cons, List.length_append]
   omega
def bytesL (M : List Mtr) : Byt := if listB M then putL M else []
theorem kind_bc {k : Int} (h : 1 ≤ k ∧ k ≤ 4) : IntKind.u8.wrap k = ((k.toNat.toUInt8.toNat : Nat) : Int) := by
 obtain ⟨n, rfl⟩ := Int.eq_ofNat_of_zero_le (show 0 ≤ k by omega)
 have : n < 256 := by omega
 rw [wrap8N, Nat.mod_eq_of_lt this, Int.toNat_natCast, toNat_toUInt8 this]
section
variable (σ : St)
theorem mbytes_ans (M : List Mtr) : Ans Tryz.prog 69 [.sl 3 (mvs3 M)] σ (.sl 1 (byv (bytesL M))) σ := by
 unfold bytesL
 cases hL : listB M with
 | false =>
   have : Ans Tryz.prog 69 [.sl 3 (mvs3 M)] σ .nils σ := by
    refine Ans.of_run t69 ?_
    simp -implicitDefEqProofs only [c69, r69, go_sem]
    refine CO.intro (list_any σ M) ?_
    rw [hL]
    simp -implicitDefEqProofs only [go_sem]
    exact Fini.ret rfl
   exact this.subR (.nils 1)
 | true =>
   obtain ⟨h5, hM⟩ := listB_at hL
   have hpl := preL_len hL
   have hw := wrapUN (n := M.length) (by omega)
   have e00 : preL M 0 = putN M.length := by simp [preL, laidMany]
   refine Ans.of_run' t69 (fun hbel _ => ?_)
   simp -implicitDefEqProofs only [c69, r69, go_sem]
   refine CO.intro (list_any σ M) ?_
   rw [hL]
   simp -implicitDefEqProofs only [go_sem, mvs3_len, hw]
   refine CO.intro (put_ans σ M.length (by omega)) ?_
   simp -implicitDefEqProofs only [go_sem, mvs3_len]
   refine Go.Ab.L.count M.length (fun i => mkE 37 [(3, .osl σ.length (preL M i).length), (13, .sl 3 (mvs3 M)), (14, I M.length), (15, I i)]) (fun i => σ ++ [.row 1 (byv (preL M i))]) ?_ ?_ (by rw [e00]; rfl) (by rw [e00])
   · intro i hi J hJ
     have hx := mvs3_get M i hi
     have hxm := hM M[i] (List.getElem_mem hi)
     have hp := hpl (i + 1) (by omega)
     rw [preL_succ M i hi] at hJ hp
     generalize M[i] = x at hx hxm hJ hp
     obtain ⟨k, nm, v⟩ := x
     simp only at hxm
     generalize preL M i = pre at hJ hp ⊢
     have hkb := kind_bc hxm.1
     have hin := wrap_succ (i := i) (by omega)
     have h1 := txtB_len nm (by omega)
     have h2 := txtB_len v (by omega)
     unfold putM at hJ hp
     simp only [List.length_append, List.length_cons] at hp
     have l1 : pre.length + 1 ≤ 4294967296 := by omega
     have l2 : pre.length + 1 + (txtB nm).length ≤ 4294967296 := by omega
     have l3 : pre.length + 1 + (txtB nm).length + (txtB v).length ≤ 4294967296 := by omega
     simp -implicitDefEqProofs only [mkE, go_sem, mvs3_len, nat_lt hi, dec_lt hi, hx, mv3, hkb, g0, s0, byv_len, l1, List.length_singleton]
     refine CO.intro (puttext_ans _ nm (by omega)) ?_
     simp -implicitDefEqProofs only [go_sem, g0, s0, byv_len, byv_all', bc, l1, l2, List.length_append, List.length_singleton]
     refine CO.intro (puttext_ans _ v (by omega)) ?_
     simp -implicitDefEqProofs only [go_sem, g0, s0, byv_len, byv_all', bc, l1, l2, l3, List.length_append, List.length_singleton, hin]
     have e : pre ++ k.toNat.toUInt8 :: (txtB nm ++ txtB v) = pre ++ [k.toNat.toUInt8] ++ txtB nm ++ txtB v := by simp
     simp only at hJ
     rw [e] at hJ
     simp only [byv_append, List.length_append, List.length_singleton] at hJ
     exact hJ
   · intro J
     have d0 : decide ((M.length : Int) < M.length) = false := by simp
     simp -implicitDefEqProofs only [mkE, go_sem, d0, g0, s0, byv_len]
     exact Fini.trim2 (σ' := σ) (by rw [preL_all]; rfl) rfl (Nat.le_refl _) (by first | exact bel_byv _ _ | (rw [preL_all]; exact bel_byv _ _)) hbel
end
end Go.Proofs.YtmkmhhjkdaklbaaGreat
namespace Go.Proofs.YtmkmhhjkdaklbaaGreat
open Go Go.Ab Go.Cod
set_option maxRecDepth 100000
def okV (u : Nat) : Bool := decide (bitsF u = u)
def valR : Rd Nat := onlyR wordR okV
def putV (u : Nat) : Byt := wrdB (bitsF u)
theorem val_fits : Fits valR putV (fun u => u < 2 ^ 64 ∧ bitsF u = u) := by
 have h := only_fits word_fits okV
 refine ⟨fun a t ho => ?_, fun b a t hr => ?_⟩
 · have := h.fwd a t ⟨ho.1, by unfold okV; exact decide_eq_true ho.2⟩
   unfold putV; rw [ho.2]; exact this
 · obtain ⟨⟨h1, h2⟩, h3⟩ := h.bwd b a t hr
   have h2 : bitsF a = a := by unfold okV at h2; exact of_decide_eq_true h2
   exact ⟨⟨h1, h2⟩, by unfold putV; rw [h2]; exact h3⟩
theorem ends_val : EndsR valR := val_fits.ends
abbrev Bnd := Bool × Nat × Nat
def bnd0 : Rd Bnd
 | [] => none
 | c :: t => if c = 0 then (seqR valR valR t).map (fun p => ((false, p.1.1, p.1.2), p.2)) else if c = 1 then some ((true, 0, 0), t) else none
def bandR : Rd Bnd := onlyR bnd0 (fun x => mayB x.1 x.2.1 x.2.2)
def putBd (x : Bnd) : Byt := if x.1 then [1] else 0 :: (putV x.2.1 ++ putV x.2.2)
def bndOk (x : Bnd) : Prop := if x.1 then x.2.1 = 0 ∧ x.2.2 = 0 else (x.2.1 < 2 ^ 64 ∧ bitsF x.2.1 = x.2.1) ∧ (x.2.2 < 2 ^ 64 ∧ bitsF x.2.2 = x.2.2)
theorem bnd0_fits : Fits bnd0 putBd bndOk where
 fwd x t h := by
  obtain ⟨any, lo, hi⟩ := x
  cases any with
  | true =>
    obtain ⟨rfl, rfl⟩ : lo = 0 ∧ hi = 0 := h
    rfl
  | false =>
    have h : (lo < 2 ^ 64 ∧ bitsF lo = lo) ∧ (hi < 2 ^ 64 ∧ bitsF hi = hi) := h
    have h2 := (seq_fits val_fits val_fits).fwd (lo, hi) t h
    simp only at h2
    simp only [putBd, Bool.false_eq_true, if_false, bnd0, List.cons_append, if_true, h2, Option.map_some]
 bwd b x t hr := by
  cases b with
  | nil => cases hr
  | cons c u =>
    simp only [bnd0] at hr
    split at hr
    · rename_i hc
      cases h1 : seqR valR valR u with
      | none => simp [h1] at hr
      | some p =>
        simp only [h1, Option.map_some, Option.some.injEq, Prod.mk.injEq] at hr
        obtain ⟨rfl, rfl⟩ := hr
        obtain ⟨h2, h3⟩ := (seq_fits val_fits val_fits).bwd _ _ _ h1
        refine ⟨h2, ?_⟩
        rw [h3, hc]; rfl
    · split at hr
      · rename_i hc
        simp only [Option.some.injEq, Prod.mk.injEq] at hr
        obtain ⟨rfl, rfl⟩ := hr
        exact ⟨⟨rfl, rfl⟩, by rw [hc]; rfl⟩
      · cases hr
def bMay (x : Bnd) : Bool := mayB x.1 x.2.1 x.2.2
def bSz (x : Bnd) : Prop := x.2.1 < 2 ^ 64 ∧ x.2.2 < 2 ^ 64
theorem nan_of_leF {a b : Nat} (h : leF a b = true) : nanF a = false ∧ nanF b = false := by
 unfold leF Ieee.Format.order at h
 unfold nanF Ieee.Format.order
 generalize FloatKind.f64.format.read a = x at *
 generalize FloatKind.f64.format.read b = y at *
 cases x with
 | nan s m => simp [Ieee.Datum.order] at h
 | infinity s =>
   cases y with
   | nan t n => simp [Ieee.Datum.order] at h
   | infinity t => cases s <;> cases t <;> simp [Ieee.Datum.order] at h ⊢
   | number t n j => cases s <;> simp [Ieee.Datum.order] at h ⊢
 | number s m i =>
   cases y with
   | nan t n => simp [Ieee.Datum.order] at h
   | infinity t => cases t <;> simp [Ieee.Datum.order] at h ⊢
   | number t n j => simp [Ieee.Datum.order]
theorem bitsF_not {a : Nat} (h : nanF a = false) : bitsF a = a := by unfold bitsF; rw [h]; rfl
theorem bitsF_zero {a : Nat} (h : bitsF a = 0) : a = 0 := by
 unfold bitsF at h
 split at h
 · cases h
 · exact h
theorem may_ok {x : Bnd} (h : bMay x = true) (w : bSz x) : bndOk x := by
 obtain ⟨any, lo, hi⟩ := x
 unfold bMay mayB at h
 cases any with
 | true =>
   simp only [if_true, Bool.and_eq_true, beq_iff_eq] at h
   exact ⟨bitsF_zero (Int.ofNat.inj h.1), bitsF_zero (Int.ofNat.inj h.2)⟩
 | false =>
   obtain ⟨h1, h2⟩ := nan_of_leF h
   exact ⟨⟨w.1, bitsF_not h1⟩, ⟨w.2, bitsF_not h2⟩⟩
theorem ok_sz {x : Bnd} (h : bndOk x) : bSz x := by
 obtain ⟨any, lo, hi⟩ := x
 cases any with
 | true =>
   obtain ⟨rfl, rfl⟩ : lo = 0 ∧ hi = 0 := h
   exact ⟨by decide, by decide⟩
 | false =>
   have h : (lo < 2 ^ 64 ∧ bitsF lo = lo) ∧ (hi < 2 ^ 64 ∧ bitsF hi = hi) := h
   exact ⟨h.1.1, h.2.1⟩
theorem band_fits : Fits bandR putBd (fun x => bMay x = true ∧ bSz x) :=
 (only_fits bnd0_fits bMay).weaken fun x => ⟨fun h => ⟨h.2, ok_sz h.1⟩, fun h => ⟨may_ok h.1 h.2, h.1⟩⟩
theorem ends_band : EndsR bandR := band_fits.ends
def mkRu (x : List Mtr × List Mtr × Bnd × List ByteArray) : RuM := ⟨x.1, x.2.1, x.2.2.1.1, x.2.2.1.2.1, x.2.2.1.2.2, x.2.2.2⟩
def ruR0 : Rd RuM := dressR (seqR listR (seqR listR (seqR bandR (rowR 4 (textR 12))))) mkRu
def ruR : Rd RuM := onlyR ruR0 ruIs
def putR (r : RuM) : Byt := putL r.src ++ (putL r.tgt ++ (putBd (r.any, r.lo, r.hi) ++ laidRow txtB r.eq))
def ruSz (r : RuM) : Prop := r.lo < 2 ^ 64 ∧ r.hi < 2 ^ 64
theorem ru0_fits : Fits ruR0 putR (fun r => listB r.src = true ∧ listB r.tgt = true ∧ (mayB r.any r.lo r.hi = true ∧ ruSz r) ∧ (r.eq.length ≤ 4 ∧ ∀ a ∈ r.eq, a.size ≤ 12)) :=
 dress_fits (seq_fits listB_fits (seq_fits listB_fits (seq_fits band_fits (row_fits (by decide) (text_fits (by decide)))))) (g := fun r => (r.src, r.tgt, (r.any, r.lo, r.hi), r.eq))
  (fun _ h => ⟨h, rfl⟩) (fun _ h => ⟨h, rfl⟩)
theorem nameB_size {s : ByteArray} (h : nameB s = true) : s.size ≤ 12 := by
 unfold nameB at h
 simp only [Bool.and_eq_true, decide_eq_true_eq] at h
 exact h.1.1.2
theorem eqB_at {e : List ByteArray} (h : eqB e = true) : e.length ≤ 4 ∧ ∀ a ∈ e, a.size ≤ 12 := by
 unfold eqB at h
 simp only [Bool.and_eq_true, decide_eq_true_eq] at h
 refine ⟨h.1, fun a ha => ?_⟩
 obtain ⟨i, hi, rfl⟩ := List.getElem_of_mem ha
 have h2 := List.all_eq_true.1 h.2 i (List.mem_range.2 hi)
 unfold eqOk at h2
 simp only [Bool.and_eq_true] at h2
 have e2 : e.getD i ⟨#[]⟩ = e[i] := by rw [List.getD_eq_getElem?_getD, List.getElem?_eq_getElem hi]; rfl
 rw [e2] at h2
 exact nameB_size h2.1
theorem ruIs_all {r : RuM} (h : ruIs r = true) : listB r.src = true ∧ listB r.tgt = true ∧ mayB r.any r.lo r.hi = true ∧ (r.eq.length ≤ 4 ∧ ∀ a ∈ r.eq, a.size ≤ 12) := by
 unfold ruIs at h
 simp only [Bool.and_eq_true] at h
 exact ⟨h.2.2.1, h.2.2.2.1, h.2.2.2.2.1, eqB_at h.2.2.2.2.2⟩
theorem ru_fits : Fits ruR putR (fun r => ruIs r = true ∧ ruSz r) :=
 (only_fits ru0_fits ruIs).weaken fun r => ⟨fun h => ⟨h.2, h.1.2.2.1.2⟩, fun h => ⟨⟨(ruIs_all h.1).1, (ruIs_all h.1).2.1, ⟨(ruIs_all h.1).2.2.1, h.2⟩, (ruIs_all h.1).2.2.2⟩, h.1⟩⟩
theorem steps_val {α : Type} {b : Byt} {rd : Rd α} {st st' : Nat × Bool → α × (Nat × Bool)} (h : StepsR b rd st) (h2 : ∀ q, (st' q).2 = (st q).2) (h3 : ∀ q, (st q).2.2 = false → st' q = st q) : StepsR b rd st' where
 some_ a x t ha hr := by
  have := h.some_ a x t ha hr
  rw [h3 _ (by rw [this]), this]
 none_ a ha hr := by rw [h2]; exact h.none_ a ha hr
 bad a := by rw [h2]; exact h.bad a
 inb q hq := by rw [h2]; exact h.inb q hq
def valS (b : Byt) (q : Nat × Bool) : Nat × (Nat × Bool) := (if okV (runR wordR 0 b q).1 then (runR wordR 0 b q).1 else 0, took (runR wordR 0 b q).2 0 (okV (runR wordR 0 b q).1))
theorem steps_value (b : Byt) : StepsR b valR (valS b) := by
 refine steps_val (steps_only (steps_run b wordR 0) okV) (fun q => rfl) fun q h => ?_
 unfold onlySt took at h
 unfold valS onlySt
 simp only at h ⊢
 cases ho : okV (runR wordR 0 b q).1 with
 | true => rfl
 | false => rw [ho] at h; simp at h
def bnd0S (b : Byt) (q : Nat × Bool) : Bnd × (Nat × Bool) :=
 if (runR byteR 0 b q).1 = 0 then ((false, (valS b (runR byteR 0 b q).2).1, (valS b (valS b (runR byteR 0 b q).2).2).1), (valS b (valS b (runR byteR 0 b q).2).2).2)
 else if (runR byteR 0 b q).1 = 1 then ((true, 0, 0), (runR byteR 0 b q).2) else ((false, 0, 0), took (runR byteR 0 b q).2 0 false)
theorem steps_bnd0 (b : Byt) : StepsR b bnd0 (bnd0S b) where
 some_ a x t ha hr := by
  cases hd : b.drop a with
  | nil => rw [hd] at hr; cases hr
  | cons c u =>
    have h1 : byteR (b.drop a) = some (c, u) := by rw [hd]; rfl
    obtain ⟨e1, e2, e3⟩ := ends_byte.drop ha h1
    rw [hd] at hr
    simp only [bnd0] at hr
    unfold bnd0S
    simp only [runR_some h1]
    split at hr
    · rename_i hc
      rw [if_pos hc]
      cases h2 : seqR valR valR u with
      | none => simp [h2] at hr
      | some p =>
        simp only [h2, Option.map_some, Option.some.injEq, Prod.mk.injEq] at hr
        obtain ⟨rfl, rfl⟩ := hr
        have := (steps_seq (steps_value b) (steps_value b) ends_val).some_ (b.length - u.length) p.1 p.2 (by omega) (by rw [e1]; exact h2)
        unfold seqSt at this
        simp only [Prod.ext_iff] at this ⊢
        simp only [this, and_self]
    · rename_i hc
      rw [if_neg hc]
      split at hr
      · rename_i hc
        rw [if_pos hc]
        simp only [Option.some.injEq, Prod.mk.injEq] at hr
        obtain ⟨rfl, rfl⟩ := hr
        rfl
      · cases hr
 none_ a ha hr := by
  cases hd : b.drop a with
  | nil =>
    have h1 : byteR (b.drop a) = none := by rw [hd]; rfl
    unfold bnd0S
    simp only [runR_none h1, if_true]
    exact bad_eta (steps_value b).bad _ ((steps_value b).bad a)
  | cons c u =>
    have h1 : byteR (b.drop a) = some (c, u) := by rw [hd]; rfl
    obtain ⟨e1, e2, e3⟩ := ends_byte.drop ha h1
    rw [hd] at hr
    simp only [bnd0] at hr
    unfold bnd0S
    simp only [runR_some h1]
    split at hr
    · rename_i hc
      rw [if_pos hc]
      cases h2 : seqR valR valR u with
      | some p => simp [h2] at hr
      | none =>
        exact (steps_seq (steps_value b) (steps_value b) ends_val).none_ (b.length - u.length) (by omega) (by rw [e1]; exact h2)
    · rename_i hc
      rw [if_neg hc]
      split at hr
      · cases hr
      · rename_i hc
        rw [if_neg hc]
        rfl
 bad a := by
  unfold bnd0S
  simp only [runR_bad, if_true]
  exact bad_eta (steps_value b).bad _ ((steps_value b).bad a)
 inb q hq := by
  have h1 := run_inb byteR 0 b q hq
  unfold bnd0S
  split
  · exact (steps_value b).inb _ ((steps_value b).inb _ h1)
  · split
    · exact h1
    · exact took_inb b _ _ h1
def bandS (b : Byt) : Nat × Bool → Bnd × (Nat × Bool) := onlySt (bnd0S b) bMay
theorem steps_band (b : Byt) : StepsR b bandR (bandS b) := steps_only (steps_bnd0 b) _
def ruS (b : Byt) : Nat × Bool → RuM × (Nat × Bool) :=
 onlySt (dressSt (seqSt (runR listR [] b) (seqSt (runR listR [] b) (seqSt (runR bandR (false, 0, 0) b) (rowSt 4 b (runR (textR 12) ⟨#[]⟩ b))))) mkRu) ruIs
theorem steps_ru (b : Byt) : StepsR b ruR (ruS b) :=
 steps_only (steps_dress (steps_seq (steps_run b listR []) (steps_seq (steps_run b listR []) (steps_seq (steps_run b bandR _) (steps_row (steps_run b (textR 12) _) (ends_text 12) 4) ends_band) ends_list) ends_list) mkRu) ruIs
end Go.Proofs.YtmkmhhjkdaklbaaGreat
namespace Go.Proofs.YtmkmhhjkdaklbaaGreat
open Go Go.Ab
set_option maxRecDepth 100000
def c17 : ACode :=
 (.seq (.ops [⟨some 2, none, .prim (.allocm [.nils, .nils, .pl (.bool false), .pl (.float .f64 0), .pl (.float .f64 0), .nils])⟩,
 ⟨some 3, none, .prim (.mov (.const (.int .i64 0)))⟩,
 ⟨some 4, none, .prim (.mov (.const (.bool false)))⟩])
 (.seq (.ops [⟨some 9, none, .prim (.mov (.tmp 0))⟩,
 ⟨some 10, none, .call (.func 54) [(.tmp 9)]⟩,
 ⟨some 5, none, .prim (.mov (.tmp 10))⟩])
 (.seq (.ops [⟨some 11, none, .prim (.mov (.tmp 5))⟩,
 ⟨some 12, none, .call (.func 55) [(.tmp 11), (.func 56)]⟩,
 ⟨some 13, none, .prim (.mov (.tmp 5))⟩,
 ⟨some 14, none, .call (.func 55) [(.tmp 13), (.func 56)]⟩,
 ⟨some 15, none, .prim (.mov (.tmp 5))⟩,
 ⟨some 16, none, .call (.func 57) [(.tmp 15), (.func 58)]⟩,
 ⟨some 17, none, .prim (.build [.nils, .nils, .pl (.bool false), .pl (.float .f64 0), .pl (.float .f64 0), .nils] [(0, 1, (.tmp 12)), (1, 1, (.tmp 14)), (2, 3, (.tmp 16))])⟩,
 ⟨some 6, none, .prim (.allocm [.nils, .nils, .pl (.bool false), .pl (.float .f64 0), .pl (.float .f64 0), .nils])⟩,
 ⟨none, none, .prim (.store 6 (.tmp 6) (.tmp 17))⟩])
 (.seq (.seq (.ops [⟨some 18, none, .prim (.mov (.tmp 5))⟩,
 ⟨some 19, none, .call (.func 59) [(.tmp 18), (.const (.int .u64 4))]⟩,
 ⟨some 20, none, .prim (.mov (.const (.int .u64 0)))⟩])
 (.block 0 (.loop [0, 1, 3, 4, 7, 8, 9, 10, 11, 12, 13, 14, 15, 16, 17, 18, 21, 22, 23, 24, 25, 26, 27, 28, 29, 30, 31, 32, 33, 34, 35, 36, 37, 38, 39, 40, 41, 42, 43] (.seq (.ops [⟨some 21, none, .prim (.bin false .lss (.tmp 20) (.tmp 19))⟩])
 (.seq (.cond (.tmp 21)
 .skip
 (.exit 0))
 (.seq (.block 1 (.draw [⟨⟨some 22, none, .prim (.fadr 5 (.tmp 6))⟩, [], false, 0, 1⟩,
 ⟨⟨some 23, none, .prim (.load 1 false (.tmp 22))⟩, [0], false, 0, 1⟩,
 ⟨⟨some 24, none, .prim (.mov (.tmp 5))⟩, [], false, 0, 0⟩,
 ⟨⟨some 25, none, .call (.func 60) [(.tmp 24), (.const (.int .i64 12))]⟩, [2], true, 0, 0⟩,
 ⟨⟨some 26, none, .prim (.bsl false 1 false 1 [.pl (.string .empty)] [(0, 1, (.tmp 25))])⟩, [2, 3], false, 1, 1⟩,
 ⟨⟨some 27, none, .prim (.app 1 (.tmp 23) (.tmp 26))⟩, [0, 1, 2, 3, 4], true, 0, 0⟩,
 ⟨⟨some 28, none, .prim (.fadr 5 (.tmp 6))⟩, (List.range 6), false, 2, 2⟩,
 ⟨⟨none, none, .prim (.store 1 (.tmp 28) (.tmp 27))⟩, (List.range 7), true, 0, 0⟩]))
 (.ops [⟨some 29, none, .prim (.bin false .add (.tmp 20) (.const (.int .u64 1)))⟩,
 ⟨some 20, none, .prim (.mov (.tmp 29))⟩])))))))
 (.seq (.ghost (.shutc 6 5 1) (.ops [⟨some 30, none, .prim (.mov (.tmp 5))⟩,
 ⟨some 31, none, .prim (.load 6 true (.tmp 6))⟩,
 ⟨some 32, none, .call (.func 51) [(.tmp 31)]⟩,
 ⟨some 33, none, .call (.func 61) [(.tmp 30), (.tmp 32)]⟩]))
 (.seq (.ops [⟨some 35, none, .prim (.mov (.tmp 5))⟩,
 ⟨some 36, none, .call (.func 62) [(.tmp 35)]⟩,
 ⟨some 34, none, .prim (.mov (.tmp 36))⟩,
 ⟨some 37, none, .prim (.extr 0 (.tmp 34))⟩,
 ⟨some 38, none, .prim (.extr 1 (.tmp 34))⟩,
 ⟨some 7, none, .prim (.mov (.tmp 37))⟩,
 ⟨some 8, none, .prim (.mov (.tmp 38))⟩])
 (.seq (.seq (.ops [⟨some 39, none, .prim (.mov (.tmp 8))⟩,
 ⟨some 40, none, .prim (.un .not (.tmp 39))⟩])
 (.cond (.tmp 40)
 (.seq (.ops [⟨some 41, none, .prim (.build [.nils, .nils, .pl (.bool false), .pl (.float .f64 0), .pl (.float .f64 0), .nils] [])⟩,
 ⟨none, none, .prim (.store 6 (.tmp 2) (.tmp 41))⟩,
 ⟨some 3, none, .prim (.mov (.const (.int .i64 0)))⟩,
 ⟨some 4, none, .prim (.mov (.const (.bool false)))⟩])
 .ret)
 .skip))
 (.seq (.ops [⟨some 42, none, .prim (.load 6 true (.tmp 6))⟩,
 ⟨some 43, none, .prim (.mov (.tmp 7))⟩,
 ⟨none, none, .prim (.store 6 (.tmp 2) (.tmp 42))⟩,
 ⟨some 3, none, .prim (.mov (.tmp 43))⟩,
 ⟨some 4, none, .prim (.mov (.const (.bool true)))⟩])
 .ret))))))))
def o17 : List Tmp := [2, 6]
def r17 : List RV := [.cell 2 6 true, .tmp 3, .tmp 4]
theorem t17 : Text Tryz.prog 17 o17 c17 r17 44 := ⟨⟨Tryz.f17, _, by kernel_rfl, by kernel_rfl, rfl, by kernel_rfl, by kernel_rfl, rfl⟩, by kernel_rfl⟩
def c19 : ACode :=
 (.seq (.ops [⟨some 1, none, .prim (.boxr (.tmp 0))⟩,
 ⟨some 2, none, .prim (.mov (.const (.slice none 0 0)))⟩])
 (.seq (.seq (.ops [⟨some 6, none, .prim (.load 6 true (.tmp 1))⟩,
 ⟨some 7, none, .call (.func 51) [(.tmp 6)]⟩,
 ⟨some 8, none, .prim (.un .not (.tmp 7))⟩])
 (.cond (.tmp 8)
 (.seq (.ops [⟨some 2, none, .prim (.mov (.const (.slice none 0 0)))⟩])
 (.ghost (.shut 2) .ret))
 .skip))
 (.seq (.draw [⟨⟨some 9, none, .prim (.fadr 0 (.tmp 1))⟩, [], false, 0, 0⟩,
 ⟨⟨some 10, none, .prim (.load 1 false (.tmp 9))⟩, [0], false, 0, 0⟩,
 ⟨⟨some 11, none, .call (.func 69) [(.tmp 10)]⟩, [0, 1], true, 0, 0⟩,
 ⟨⟨some 12, none, .prim (.fadr 1 (.tmp 1))⟩, [], false, 0, 1⟩,
 ⟨⟨some 13, none, .prim (.load 1 false (.tmp 12))⟩, [3], false, 0, 1⟩,
 ⟨⟨some 14, none, .call (.func 69) [(.tmp 13)]⟩, [0, 1, 2, 3, 4], true, 0, 0⟩,
 ⟨⟨some 15, none, .prim (.fadr 2 (.tmp 1))⟩, [], false, 0, 2⟩,
 ⟨⟨some 16, none, .prim (.load 3 true (.tmp 15))⟩, [6], false, 0, 2⟩,
 ⟨⟨some 17, none, .call (.func 70) [(.tmp 16)]⟩, (List.range 8), true, 0, 0⟩,
 ⟨⟨some 18, none, .prim (.fadr 5 (.tmp 1))⟩, [], false, 0, 3⟩,
 ⟨⟨some 19, none, .prim (.load 1 false (.tmp 18))⟩, [9], false, 0, 3⟩,
 ⟨⟨some 20, none, .prim (.lenv (.tmp 19))⟩, [9, 10], false, 0, 3⟩,
 ⟨⟨some 21, none, .prim (.convi .u64 (.tmp 20))⟩, [9, 10, 11], false, 0, 3⟩,
 ⟨⟨some 22, none, .call (.func 71) [(.tmp 21)]⟩, (List.range 13), true, 0, 0⟩,
 ⟨⟨some 23, none, .prim (.bsl false 1 false 4 [.nils] [(0, 1, (.tmp 11)), (1, 1, (.tmp 14)), (2, 1, (.tmp 17)), (3, 1, (.tmp 22))])⟩, (List.range 14), false, 4, 4⟩,
 ⟨⟨some 24, none, .call (.func 68) [(.tmp 23)]⟩, (List.range 15), true, 0, 0⟩,
 ⟨⟨some 3, none, .prim (.mov (.tmp 24))⟩, (List.range 16), false, 5, 5⟩])
 (.seq (.seq (.ops [⟨some 25, none, .prim (.fadr 5 (.tmp 1))⟩,
 ⟨some 26, none, .prim (.load 1 false (.tmp 25))⟩,
 ⟨some 27, none, .prim (.lenv (.tmp 26))⟩,
 ⟨some 28, none, .prim (.mov (.const (.int .i64 0)))⟩])
 (.block 0 (.loop [0, 1, 2, 4, 5, 6, 7, 8, 9, 10, 11, 12, 13, 14, 15, 16, 17, 18, 19, 20, 21, 22, 23, 24, 25, 29, 30, 31, 32, 33, 34, 35, 36, 37] (.seq (.ops [⟨some 29, none, .prim (.bin false .lss (.tmp 28) (.tmp 27))⟩])
 (.seq (.cond (.tmp 29)
 .skip
 (.exit 0))
 (.seq (.block 1 (.seq (.ops [⟨some 30, none, .prim (.iadrs 1 (.tmp 26) (.tmp 28))⟩,
 ⟨some 31, none, .prim (.load 1 false (.tmp 30))⟩,
 ⟨some 5, none, .prim (.mov (.tmp 31))⟩])
 (.ops [⟨some 32, none, .prim (.mov (.tmp 3))⟩,
 ⟨some 33, none, .prim (.mov (.tmp 5))⟩,
 ⟨some 34, none, .call (.func 72) [(.tmp 33)]⟩,
 ⟨some 35, none, .prim (.app 1 (.tmp 32) (.tmp 34))⟩,
 ⟨some 3, none, .prim (.mov (.tmp 35))⟩])))
 (.ops [⟨some 36, none, .prim (.bin false .add (.tmp 28) (.const (.int .i64 1)))⟩,
 ⟨some 28, none, .prim (.mov (.tmp 36))⟩])))))))
 (.seq (.ops [⟨some 37, none, .prim (.mov (.tmp 3))⟩,
 ⟨some 2, none, .prim (.mov (.tmp 37))⟩])
 (.ghost (.shut 2) .ret))))))
def o19 : List Tmp := []
def r19 : List RV := [.tmp 2]
theorem t19 : Text Tryz.prog 19 o19 c19 r19 38 := ⟨⟨Tryz.f19, _, by kernel_rfl, by kernel_rfl, rfl, by kernel_rfl, by kernel_rfl, rfl⟩, by kernel_rfl⟩
def c23 : ACode :=
 (.seq (.ops [⟨some 2, none, .prim (.boxr (.tmp 0))⟩,
 ⟨some 3, none, .prim (.boxr (.tmp 1))⟩,
 ⟨some 4, none, .prim (.mov (.const (.bool false)))⟩])
 (.seq (.draw [⟨⟨some 5, none, .prim (.load 6 true (.tmp 2))⟩, [], false, 0, 0⟩,
 ⟨⟨some 6, none, .call (.func 51) [(.tmp 5)]⟩, [0], true, 0, 0⟩,
 ⟨⟨some 7, none, .prim (.mov (.tmp 6))⟩, [0, 1], false, 1, 1⟩,
 ⟨⟨some 8, (some (7, true)), .prim (.load 6 true (.tmp 3))⟩, [0, 1, 2], false, 1, 1⟩,
 ⟨⟨some 9, (some (7, true)), .call (.func 51) [(.tmp 8)]⟩, [0, 1, 2, 3], true, 0, 0⟩,
 ⟨⟨some 10, none, .prim (.pick (.tmp 7) (.tmp 9) (.const (.bool false)))⟩, [0, 1, 2, 3, 4], false, 2, 2⟩,
 ⟨⟨some 11, none, .prim (.mov (.tmp 10))⟩, (List.range 6), false, 2, 2⟩,
 ⟨⟨some 12, (some (11, true)), .prim (.load 6 true (.tmp 2))⟩, (List.range 7), false, 2, 2⟩,
 ⟨⟨some 13, (some (11, true)), .call (.func 19) [(.tmp 12)]⟩, (List.range 8), true, 0, 0⟩,
 ⟨⟨some 14, (some (11, true)), .prim (.load 6 true (.tmp 3))⟩, (List.range 7), false, 2, 3⟩,
 ⟨⟨some 15, (some (11, true)), .call (.func 19) [(.tmp 14)]⟩, (List.range 10), true, 0, 0⟩,
 ⟨⟨some 16, (some (11, true)), .call (.func 82) [(.tmp 13), (.tmp 15)]⟩, (List.range 11), true, 0, 0⟩,
 ⟨⟨some 17, none, .prim (.pick (.tmp 11) (.tmp 16) (.const (.bool false)))⟩, (List.range 12), false, 5, 5⟩,
 ⟨⟨some 4, none, .prim (.mov (.tmp 17))⟩, (List.range 13), false, 5, 5⟩])
 .ret))
def o23 : List Tmp := []
def r23 : List RV := [.tmp 4]
theorem t23 : Text Tryz.prog 23 o23 c23 r23 18 := ⟨⟨Tryz.f23, _, by kernel_rfl, by kernel_rfl, rfl, by kernel_rfl, by kernel_rfl, rfl⟩, by kernel_rfl⟩
def c55 : ACode :=
 (.seq (.ops [⟨some 4, none, .prim (.mov (.const (.slice none 0 0)))⟩])
 (.seq (.ops [⟨some 10, none, .prim (.mov (.tmp 1))⟩,
 ⟨some 11, none, .prim (.mov (.tmp 0))⟩,
 ⟨some 12, none, .call (.func 112) [(.tmp 11)]⟩,
 ⟨some 13, none, .call (.tmp 10) [(.tmp 12)]⟩,
 ⟨some 9, none, .prim (.mov (.tmp 13))⟩,
 ⟨some 14, none, .prim (.extr 0 (.tmp 9))⟩,
 ⟨some 15, none, .prim (.extr 1 (.tmp 9))⟩,
 ⟨some 16, none, .prim (.extr 2 (.tmp 9))⟩,
 ⟨some 5, none, .prim (.mov (.tmp 14))⟩,
 ⟨some 6, none, .prim (.mov (.tmp 15))⟩,
 ⟨some 7, none, .prim (.mov (.tmp 16))⟩])
 (.seq (.seq (.ops [⟨some 17, none, .prim (.mov (.tmp 0))⟩,
 ⟨some 18, none, .prim (.mov (.tmp 6))⟩,
 ⟨some 19, none, .prim (.mov (.tmp 7))⟩,
 ⟨some 20, none, .call (.func 113) [(.tmp 17), (.tmp 18), (.tmp 19)]⟩,
 ⟨some 21, none, .prim (.un .not (.tmp 20))⟩])
 (.cond (.tmp 21)
 (.seq (.ops [⟨some 8, none, .prim (.mov (.const (.slice none 0 0)))⟩])
 (.seq (.ops [⟨some 22, none, .prim (.mov (.tmp 8))⟩,
 ⟨some 4, none, .prim (.mov (.tmp 22))⟩])
 .ret))
 .skip))
 (.seq (.ops [⟨some 23, none, .prim (.mov (.tmp 5))⟩,
 ⟨some 4, none, .prim (.mov (.tmp 23))⟩])
 .ret))))
def o55 : List Tmp := []
def r55 : List RV := [.tmp 4]
theorem t55 : Text Tryz.prog 55 o55 c55 r55 24 := ⟨⟨Tryz.f55, _, by kernel_rfl, by kernel_rfl, rfl, by kernel_rfl, by kernel_rfl, rfl⟩, by kernel_rfl⟩
def c57 : ACode :=
 (.seq (.ops [⟨some 4, none, .prim (.allocm [.pl (.bool false), .pl (.float .f64 0), .pl (.float .f64 0)])⟩])
 (.seq (.ops [⟨some 10, none, .prim (.mov (.tmp 1))⟩,
 ⟨some 11, none, .prim (.mov (.tmp 0))⟩,
 ⟨some 12, none, .call (.func 112) [(.tmp 11)]⟩,
 ⟨some 13, none, .call (.tmp 10) [(.tmp 12)]⟩,
 ⟨some 9, none, .prim (.mov (.tmp 13))⟩,
 ⟨some 14, none, .prim (.extr 0 (.tmp 9))⟩,
 ⟨some 15, none, .prim (.extr 1 (.tmp 9))⟩,
 ⟨some 16, none, .prim (.extr 2 (.tmp 9))⟩,
 ⟨some 5, none, .fresh 3 5 (.tmp 14)⟩,
 ⟨some 6, none, .prim (.mov (.tmp 15))⟩,
 ⟨some 7, none, .prim (.mov (.tmp 16))⟩])
 (.seq (.seq (.ops [⟨some 17, none, .prim (.mov (.tmp 0))⟩,
 ⟨some 18, none, .prim (.mov (.tmp 6))⟩,
 ⟨some 19, none, .prim (.mov (.tmp 7))⟩,
 ⟨some 20, none, .call (.func 113) [(.tmp 17), (.tmp 18), (.tmp 19)]⟩,
 ⟨some 21, none, .prim (.un .not (.tmp 20))⟩])
 (.cond (.tmp 21)
 (.seq (.ops [⟨some 8, none, .prim (.allocm [.pl (.bool false), .pl (.float .f64 0), .pl (.float .f64 0)])⟩])
 (.seq (.ops [⟨some 22, none, .prim (.load 3 true (.tmp 8))⟩,
 ⟨none, none, .prim (.store 3 (.tmp 4) (.tmp 22))⟩])
 .ret))
 .skip))
 (.seq (.ops [⟨some 23, none, .prim (.load 3 true (.tmp 5))⟩,
 ⟨none, none, .prim (.store 3 (.tmp 4) (.tmp 23))⟩])
 .ret))))
def o57 : List Tmp := [4]
def r57 : List RV := [.cell 4 3 true]
theorem t57 : Text Tryz.prog 57 o57 c57 r57 24 := ⟨⟨Tryz.f57, _, by kernel_rfl, by kernel_rfl, rfl, by kernel_rfl, by kernel_rfl, rfl⟩, by kernel_rfl⟩
def c58 : ACode :=
 (.seq (.ops [⟨some 2, none, .prim (.allocm [.pl (.bool false), .pl (.float .f64 0), .pl (.float .f64 0)])⟩,
 ⟨some 3, none, .prim (.mov (.const (.int .i64 0)))⟩,
 ⟨some 4, none, .prim (.mov (.const (.bool false)))⟩])
 (.seq (.ops [⟨some 9, none, .prim (.mov (.tmp 0))⟩,
 ⟨some 10, none, .call (.func 54) [(.tmp 9)]⟩,
 ⟨some 5, none, .prim (.mov (.tmp 10))⟩])
 (.seq (.ops [⟨some 6, none, .prim (.allocm [.pl (.bool false), .pl (.float .f64 0), .pl (.float .f64 0)])⟩])
 (.seq (.seq (.ops [⟨some 11, none, .prim (.mov (.tmp 5))⟩,
 ⟨some 12, none, .call (.func 83) [(.tmp 11)]⟩])
 (.block 0 (.seq (.ops [⟨some 16, none, .prim (.bin false .eql (.tmp 12) (.const (.int .u8 0)))⟩,
 ⟨some 15, none, .prim (.mov (.tmp 16))⟩])
 (.cond (.tmp 15)
 (.ops [⟨some 17, none, .prim (.mov (.tmp 5))⟩,
 ⟨some 18, none, .call (.func 114) [(.tmp 17)]⟩,
 ⟨some 19, none, .prim (.mov (.tmp 5))⟩,
 ⟨some 20, none, .call (.func 114) [(.tmp 19)]⟩,
 ⟨some 21, none, .prim (.fadr 1 (.tmp 6))⟩,
 ⟨none, none, .prim (.store 1 (.tmp 21) (.tmp 18))⟩,
 ⟨some 22, none, .prim (.fadr 2 (.tmp 6))⟩,
 ⟨none, none, .prim (.store 1 (.tmp 22) (.tmp 20))⟩])
 (.seq (.ops [⟨some 24, none, .prim (.bin false .eql (.tmp 12) (.const (.int .u8 1)))⟩,
 ⟨some 23, none, .prim (.mov (.tmp 24))⟩])
 (.cond (.tmp 23)
 (.ops [⟨some 25, none, .prim (.fadr 0 (.tmp 6))⟩,
 ⟨none, none, .prim (.store 1 (.tmp 25) (.const (.bool true)))⟩])
 (.ops [⟨some 13, none, .prim (.mov (.tmp 5))⟩,
 ⟨some 14, none, .call (.func 61) [(.tmp 13), (.const (.bool false))]⟩])))))))
 (.seq (.ops [⟨some 26, none, .prim (.mov (.tmp 5))⟩,
 ⟨some 27, none, .prim (.load 3 true (.tmp 6))⟩,
 ⟨some 28, none, .call (.func 107) [(.tmp 27)]⟩,
 ⟨some 29, none, .call (.func 61) [(.tmp 26), (.tmp 28)]⟩])
 (.seq (.ops [⟨some 31, none, .prim (.mov (.tmp 5))⟩,
 ⟨some 32, none, .call (.func 62) [(.tmp 31)]⟩,
 ⟨some 30, none, .prim (.mov (.tmp 32))⟩,
 ⟨some 33, none, .prim (.extr 0 (.tmp 30))⟩,
 ⟨some 34, none, .prim (.extr 1 (.tmp 30))⟩,
 ⟨some 7, none, .prim (.mov (.tmp 33))⟩,
 ⟨some 8, none, .prim (.mov (.tmp 34))⟩])
 (.seq (.seq (.ops [⟨some 35, none, .prim (.mov (.tmp 8))⟩,
 ⟨some 36, none, .prim (.un .not (.tmp 35))⟩])
 (.cond (.tmp 36)
 (.seq (.ops [⟨some 37, none, .prim (.build [.pl (.bool false), .pl (.float .f64 0), .pl (.float .f64 0)] [])⟩,
 ⟨none, none, .prim (.store 3 (.tmp 2) (.tmp 37))⟩,
 ⟨some 3, none, .prim (.mov (.const (.int .i64 0)))⟩,
 ⟨some 4, none, .prim (.mov (.const (.bool false)))⟩])
 .ret)
 .skip))
 (.seq (.ops [⟨some 38, none, .prim (.load 3 true (.tmp 6))⟩,
 ⟨some 39, none, .prim (.mov (.tmp 7))⟩,
 ⟨none, none, .prim (.store 3 (.tmp 2) (.tmp 38))⟩,
 ⟨some 3, none, .prim (.mov (.tmp 39))⟩,
 ⟨some 4, none, .prim (.mov (.const (.bool true)))⟩])
 .ret))))))))
def o58 : List Tmp := [2, 6]
def r58 : List RV := [.cell 2 3 true, .tmp 3, .tmp 4]
theorem t58 : Text Tryz.prog 58 o58 c58 r58 40 := ⟨⟨Tryz.f58, _, by kernel_rfl, by kernel_rfl, rfl, by kernel_rfl, by kernel_rfl, rfl⟩, by kernel_rfl⟩
def c68 : ACode :=
 (.seq (.ops [⟨some 2, none, .prim (.mov (.const (.slice none 0 0)))⟩])
 (.seq (.ops [⟨some 3, none, .prim (.mov (.const (.int .i64 0)))⟩])
 (.seq (.seq (.ops [⟨some 9, none, .prim (.mov (.tmp 0))⟩,
 ⟨some 10, none, .prim (.lenv (.tmp 9))⟩,
 ⟨some 11, none, .prim (.mov (.const (.int .i64 0)))⟩])
 (.block 0 (.loop [1, 2, 4, 5, 6, 7, 8, 12, 13, 14, 15, 16, 17, 18, 19, 20, 21, 22, 23, 24, 25, 26, 27, 28, 29, 30, 31, 32, 33, 34, 35] (.seq (.ops [⟨some 12, none, .prim (.bin false .lss (.tmp 11) (.tmp 10))⟩])
 (.seq (.cond (.tmp 12)
 .skip
 (.exit 0))
 (.seq (.block 1 (.seq (.ops [⟨some 13, none, .prim (.iadrs 1 (.tmp 9) (.tmp 11))⟩,
 ⟨some 14, none, .prim (.load 1 false (.tmp 13))⟩,
 ⟨some 5, none, .prim (.mov (.tmp 14))⟩])
 (.seq (.ops [⟨some 15, none, .prim (.mov (.tmp 3))⟩,
 ⟨some 16, none, .prim (.mov (.tmp 5))⟩,
 ⟨some 17, none, .prim (.lenv (.tmp 16))⟩,
 ⟨some 18, none, .prim (.bin false .add (.tmp 15) (.tmp 17))⟩,
 ⟨some 3, none, .prim (.mov (.tmp 18))⟩])
 (.seq (.ops [⟨some 19, none, .prim (.mov (.tmp 3))⟩,
 ⟨some 20, none, .prim (.bin false .lss (.tmp 19) (.const (.int .i64 0)))⟩])
 (.cond (.tmp 20)
 (.ops [⟨some 21, none, .prim (.bad)⟩,
 ⟨none, none, .prim (.bad)⟩])
 .skip)))))
 (.ops [⟨some 22, none, .prim (.bin false .add (.tmp 11) (.const (.int .i64 1)))⟩,
 ⟨some 11, none, .prim (.mov (.tmp 22))⟩])))))))
 (.seq (.ops [⟨some 23, none, .prim (.mov (.tmp 3))⟩,
 ⟨some 24, none, .call (.func 122) [(.const (.slice none 0 0)), (.tmp 23)]⟩,
 ⟨some 6, none, .prim (.mov (.tmp 24))⟩])
 (.seq (.seq (.ops [⟨some 25, none, .prim (.mov (.tmp 0))⟩,
 ⟨some 26, none, .prim (.lenv (.tmp 25))⟩,
 ⟨some 27, none, .prim (.mov (.const (.int .i64 0)))⟩])
 (.block 2 (.loop [0, 1, 2, 3, 4, 5, 7, 8, 9, 10, 11, 12, 13, 14, 15, 16, 17, 18, 19, 20, 21, 22, 23, 24, 28, 29, 30, 31, 32, 33, 34, 35] (.seq (.ops [⟨some 28, none, .prim (.bin false .lss (.tmp 27) (.tmp 26))⟩])
 (.seq (.cond (.tmp 28)
 .skip
 (.exit 2))
 (.seq (.block 3 (.seq (.ops [⟨some 29, none, .prim (.iadrs 1 (.tmp 25) (.tmp 27))⟩,
 ⟨some 30, none, .prim (.load 1 false (.tmp 29))⟩,
 ⟨some 8, none, .prim (.mov (.tmp 30))⟩])
 (.ops [⟨some 31, none, .prim (.mov (.tmp 6))⟩,
 ⟨some 32, none, .prim (.mov (.tmp 8))⟩,
 ⟨some 33, none, .prim (.app 1 (.tmp 31) (.tmp 32))⟩,
 ⟨some 6, none, .prim (.mov (.tmp 33))⟩])))
 (.ops [⟨some 34, none, .prim (.bin false .add (.tmp 27) (.const (.int .i64 1)))⟩,
 ⟨some 27, none, .prim (.mov (.tmp 34))⟩])))))))
 (.seq (.ops [⟨some 35, none, .prim (.mov (.tmp 6))⟩,
 ⟨some 2, none, .prim (.mov (.tmp 35))⟩])
 .ret))))))
def o68 : List Tmp := []
def r68 : List RV := [.tmp 2]
theorem t68 : Text Tryz.prog 68 o68 c68 r68 36 := ⟨⟨Tryz.f68, _, by kernel_rfl, by kernel_rfl, rfl, by kernel_rfl, by kernel_rfl, rfl⟩, by kernel_rfl⟩
def c70 : ACode :=
 (.seq (.ops [⟨some 1, none, .prim (.boxr (.tmp 0))⟩,
 ⟨some 2, none, .prim (.mov (.const (.slice none 0 0)))⟩])
 (.seq (.seq (.ops [⟨some 3, none, .prim (.fadr 0 (.tmp 1))⟩,
 ⟨some 4, none, .prim (.load 1 false (.tmp 3))⟩])
 (.cond (.tmp 4)
 (.seq (.ops [⟨some 5, none, .prim (.bsl false 1 false 1 [.pl (.int .u8 0)] [(0, 1, (.const (.int .u8 1)))])⟩,
 ⟨some 2, none, .prim (.mov (.tmp 5))⟩])
 (.ghost (.shut 2) .ret))
 .skip))
 (.seq (.draw [⟨⟨some 6, none, .prim (.bsl false 1 false 1 [.pl (.int .u8 0)] [(0, 1, (.const (.int .u8 0)))])⟩, [], false, 0, 4⟩,
 ⟨⟨some 7, none, .prim (.fadr 1 (.tmp 1))⟩, [], false, 0, 0⟩,
 ⟨⟨some 8, none, .prim (.load 1 false (.tmp 7))⟩, [1], false, 0, 0⟩,
 ⟨⟨some 9, none, .call (.func 94) [(.tmp 8)]⟩, [1, 2], true, 0, 0⟩,
 ⟨⟨some 10, none, .call (.func 93) [(.tmp 9)]⟩, [1, 2, 3], true, 0, 0⟩,
 ⟨⟨some 11, none, .prim (.fadr 2 (.tmp 1))⟩, [], false, 0, 2⟩,
 ⟨⟨some 12, none, .prim (.load 1 false (.tmp 11))⟩, [5], false, 0, 2⟩,
 ⟨⟨some 13, none, .call (.func 94) [(.tmp 12)]⟩, [1, 2, 3, 4, 5, 6], true, 0, 0⟩,
 ⟨⟨some 14, none, .call (.func 93) [(.tmp 13)]⟩, [1, 2, 3, 4, 5, 6, 7], true, 0, 0⟩,
 ⟨⟨some 15, none, .prim (.bsl false 1 false 3 [.nils] [(0, 1, (.tmp 6)), (1, 1, (.tmp 10)), (2, 1, (.tmp 14))])⟩, (List.range 9), false, 4, 4⟩,
 ⟨⟨some 16, none, .call (.func 68) [(.tmp 15)]⟩, (List.range 10), true, 0, 0⟩,
 ⟨⟨some 2, none, .prim (.mov (.tmp 16))⟩, (List.range 11), false, 5, 5⟩])
 (.ghost (.shut 2) .ret))))
def o70 : List Tmp := []
def r70 : List RV := [.tmp 2]
theorem t70 : Text Tryz.prog 70 o70 c70 r70 17 := ⟨⟨Tryz.f70, _, by kernel_rfl, by kernel_rfl, rfl, by kernel_rfl, by kernel_rfl, rfl⟩, by kernel_rfl⟩
def c82 : ACode :=
 (.seq (.ops [⟨some 4, none, .prim (.mov (.const (.bool false)))⟩])
 (.seq (.ops [⟨some 5, none, .prim (.mov (.tmp 0))⟩,
 ⟨some 6, none, .prim (.b2s (.tmp 5))⟩,
 ⟨some 7, none, .prim (.mov (.tmp 1))⟩,
 ⟨some 8, none, .prim (.b2s (.tmp 7))⟩,
 ⟨some 9, none, .prim (.bin false .eql (.tmp 6) (.tmp 8))⟩,
 ⟨some 4, none, .prim (.mov (.tmp 9))⟩])
 .ret))
def o82 : List Tmp := []
def r82 : List RV := [.tmp 4]
theorem t82 : Text Tryz.prog 82 o82 c82 r82 10 := ⟨⟨Tryz.f82, _, by kernel_rfl, by kernel_rfl, rfl, by kernel_rfl, by kernel_rfl, rfl⟩, by kernel_rfl⟩
def c93 : ACode :=
 (.seq (.ops [⟨some 2, none, .prim (.mov (.const (.slice none 0 0)))⟩])
 (.seq (.ops [⟨some 5, none, .prim (.mks 1 false [.pl (.int .u8 0)] (.const (.int .i64 8)) (.const (.int .i64 8)))⟩,
 ⟨some 3, none, .prim (.mov (.tmp 5))⟩])
 (.seq (.seq (.ops [⟨some 6, none, .prim (.mov (.tmp 3))⟩,
 ⟨some 7, none, .prim (.lenv (.tmp 6))⟩,
 ⟨some 8, none, .prim (.mov (.const (.int .i64 0)))⟩])
 (.block 0 (.loop [1, 2, 4, 5, 6, 9, 10, 11, 12, 13, 14, 15, 16, 17, 18, 19, 20, 21] (.seq (.ops [⟨some 9, none, .prim (.bin false .lss (.tmp 8) (.tmp 7))⟩])
 (.seq (.cond (.tmp 9)
 .skip
 (.exit 0))
 (.seq (.block 1 (.seq (.ops [⟨some 10, none, .prim (.mov (.tmp 8))⟩,
 ⟨some 4, none, .prim (.mov (.tmp 10))⟩])
 (.ops [⟨some 11, none, .prim (.mov (.tmp 3))⟩,
 ⟨some 12, none, .prim (.mov (.tmp 4))⟩,
 ⟨some 13, none, .prim (.mov (.tmp 0))⟩,
 ⟨some 14, none, .prim (.mov (.tmp 4))⟩,
 ⟨some 15, none, .prim (.bin false .mul (.const (.int .i64 8)) (.tmp 14))⟩,
 ⟨some 16, none, .prim (.bin false .sub (.const (.int .i64 56)) (.tmp 15))⟩,
 ⟨some 17, none, .prim (.bin false .shr (.tmp 13) (.tmp 16))⟩,
 ⟨some 18, none, .prim (.convi .u8 (.tmp 17))⟩,
 ⟨some 19, none, .prim (.iadrs 1 (.tmp 11) (.tmp 12))⟩,
 ⟨none, none, .prim (.store 1 (.tmp 19) (.tmp 18))⟩])))
 (.ops [⟨some 20, none, .prim (.bin false .add (.tmp 8) (.const (.int .i64 1)))⟩,
 ⟨some 8, none, .prim (.mov (.tmp 20))⟩])))))))
 (.seq (.ops [⟨some 21, none, .prim (.mov (.tmp 3))⟩,
 ⟨some 2, none, .prim (.mov (.tmp 21))⟩])
 (.ghost (.shut 2) .ret)))))
def o93 : List Tmp := []
def r93 : List RV := [.tmp 2]
theorem t93 : Text Tryz.prog 93 o93 c93 r93 22 := ⟨⟨Tryz.f93, _, by kernel_rfl, by kernel_rfl, rfl, by kernel_rfl, by kernel_rfl, rfl⟩, by kernel_rfl⟩
def c114 : ACode :=
 (.seq (.ops [⟨some 2, none, .prim (.mov (.const (.float Go.FloatKind.f64 0)))⟩])
 (.seq (.ops [⟨some 6, none, .prim (.mov (.tmp 0))⟩,
 ⟨some 7, none, .call (.func 140) [(.tmp 6)]⟩,
 ⟨some 8, none, .call (.func 139) [(.tmp 7)]⟩,
 ⟨some 5, none, .prim (.mov (.tmp 8))⟩,
 ⟨some 9, none, .prim (.extr 0 (.tmp 5))⟩,
 ⟨some 10, none, .prim (.extr 1 (.tmp 5))⟩,
 ⟨some 3, none, .prim (.mov (.tmp 9))⟩,
 ⟨some 4, none, .prim (.mov (.tmp 10))⟩])
 (.seq (.ops [⟨some 11, none, .prim (.mov (.tmp 0))⟩,
 ⟨some 12, none, .prim (.mov (.tmp 4))⟩,
 ⟨some 13, none, .call (.func 61) [(.tmp 11), (.tmp 12)]⟩])
 (.seq (.ops [⟨some 14, none, .prim (.mov (.tmp 3))⟩,
 ⟨some 2, none, .prim (.mov (.tmp 14))⟩])
 .ret))))
def o114 : List Tmp := []
def r114 : List RV := [.tmp 2]
theorem t114 : Text Tryz.prog 114 o114 c114 r114 15 := ⟨⟨Tryz.f114, _, by kernel_rfl, by kernel_rfl, rfl, by kernel_rfl, by kernel_rfl, rfl⟩, by kernel_rfl⟩
def c122 : ACode :=
 (.seq (.ops [⟨some 4, none, .prim (.mov (.const (.slice none 0 0)))⟩])
 (.seq (.seq (.ops [⟨some 5, none, .prim (.mov (.tmp 1))⟩,
 ⟨some 6, none, .prim (.bin false .lss (.tmp 5) (.const (.int .i64 0)))⟩])
 (.cond (.tmp 6)
 (.ops [⟨some 7, none, .prim (.bad)⟩,
 ⟨none, none, .prim (.bad)⟩])
 .skip))
 (.seq (.seq (.ops [⟨some 8, none, .prim (.mov (.tmp 1))⟩,
 ⟨some 9, none, .prim (.mov (.tmp 0))⟩,
 ⟨some 10, none, .prim (.capn (.tmp 9))⟩,
 ⟨some 11, none, .prim (.mov (.tmp 0))⟩,
 ⟨some 12, none, .prim (.lenv (.tmp 11))⟩,
 ⟨some 13, none, .prim (.bin false .sub (.tmp 10) (.tmp 12))⟩,
 ⟨some 14, none, .prim (.bin false .sub (.tmp 8) (.tmp 13))⟩,
 ⟨some 1, none, .prim (.mov (.tmp 14))⟩])
 (.seq (.ops [⟨some 15, none, .prim (.mov (.tmp 1))⟩,
 ⟨some 16, none, .prim (.bin false .gtr (.tmp 15) (.const (.int .i64 0)))⟩])
 (.cond (.tmp 16)
 (.ops [⟨some 17, none, .prim (.mov (.tmp 0))⟩,
 ⟨some 18, none, .prim (.mov (.tmp 0))⟩,
 ⟨some 19, none, .prim (.capn (.tmp 18))⟩,
 ⟨some 20, none, .prim (.slco 1 (.tmp 17) none (some (.tmp 19)))⟩,
 ⟨some 21, none, .prim (.mov (.tmp 1))⟩,
 ⟨some 22, none, .prim (.appz 1 false [.pl (.int .u8 0)] (.tmp 20) (.tmp 21))⟩,
 ⟨some 23, none, .prim (.mov (.tmp 0))⟩,
 ⟨some 24, none, .prim (.lenv (.tmp 23))⟩,
 ⟨some 25, none, .prim (.slco 1 (.tmp 22) none (some (.tmp 24)))⟩,
 ⟨some 0, none, .prim (.mov (.tmp 25))⟩])
 .skip)))
 (.seq (.ops [⟨some 26, none, .prim (.mov (.tmp 0))⟩,
 ⟨some 4, none, .prim (.mov (.tmp 26))⟩])
 .ret))))
def o122 : List Tmp := [20, 25]
def r122 : List RV := [.tmp 4]
theorem t122 : Text Tryz.prog 122 o122 c122 r122 27 := ⟨⟨Tryz.f122, _, by kernel_rfl, by kernel_rfl, rfl, by kernel_rfl, by kernel_rfl, rfl⟩, by kernel_rfl⟩
def c139 : ACode :=
 (.seq (.ops [⟨some 2, none, .prim (.mov (.const (.float Go.FloatKind.f64 0)))⟩,
 ⟨some 3, none, .prim (.mov (.const (.bool false)))⟩])
 (.seq (.ops [⟨some 5, none, .prim (.mov (.tmp 0))⟩,
 ⟨some 6, none, .call (.func 151) [(.tmp 5)]⟩,
 ⟨some 4, none, .prim (.mov (.tmp 6))⟩])
 (.seq (.seq (.ops [⟨some 7, none, .prim (.mov (.tmp 4))⟩,
 ⟨some 8, none, .call (.func 94) [(.tmp 7)]⟩,
 ⟨some 9, none, .prim (.mov (.tmp 0))⟩,
 ⟨some 10, none, .prim (.bin false .neq (.tmp 8) (.tmp 9))⟩])
 (.cond (.tmp 10)
 (.seq (.ops [⟨some 2, none, .prim (.mov (.const (.float Go.FloatKind.f64 0)))⟩,
 ⟨some 3, none, .prim (.mov (.const (.bool false)))⟩])
 .ret)
 .skip))
 (.seq (.ops [⟨some 11, none, .prim (.mov (.tmp 4))⟩,
 ⟨some 2, none, .prim (.mov (.tmp 11))⟩,
 ⟨some 3, none, .prim (.mov (.const (.bool true)))⟩])
 .ret))))
def o139 : List Tmp := []
def r139 : List RV := [.tmp 2, .tmp 3]
theorem t139 : Text Tryz.prog 139 o139 c139 r139 12 := ⟨⟨Tryz.f139, _, by kernel_rfl, by kernel_rfl, rfl, by kernel_rfl, by kernel_rfl, rfl⟩, by kernel_rfl⟩
def c140 : ACode :=
 (.seq (.ops [⟨some 2, none, .prim (.mov (.const (.int .u64 0)))⟩])
 (.seq (.ops [⟨some 6, none, .prim (.mov (.tmp 0))⟩,
 ⟨some 7, none, .call (.func 112) [(.tmp 6)]⟩,
 ⟨some 8, none, .call (.func 158) [(.tmp 7)]⟩,
 ⟨some 5, none, .prim (.mov (.tmp 8))⟩,
 ⟨some 9, none, .prim (.extr 0 (.tmp 5))⟩,
 ⟨some 10, none, .prim (.extr 1 (.tmp 5))⟩,
 ⟨some 3, none, .prim (.mov (.tmp 9))⟩,
 ⟨some 4, none, .prim (.mov (.tmp 10))⟩])
 (.seq (.seq (.ops [⟨some 11, none, .prim (.mov (.tmp 0))⟩,
 ⟨some 12, none, .prim (.mov (.tmp 4))⟩,
 ⟨some 13, none, .call (.func 113) [(.tmp 11), (.const (.int .i64 8)), (.tmp 12)]⟩,
 ⟨some 14, none, .prim (.un .not (.tmp 13))⟩])
 (.cond (.tmp 14)
 (.seq (.ops [⟨some 2, none, .prim (.mov (.const (.int .u64 0)))⟩])
 .ret)
 .skip))
 (.seq (.ops [⟨some 15, none, .prim (.mov (.tmp 3))⟩,
 ⟨some 2, none, .prim (.mov (.tmp 15))⟩])
 .ret))))
def o140 : List Tmp := []
def r140 : List RV := [.tmp 2]
theorem t140 : Text Tryz.prog 140 o140 c140 r140 16 := ⟨⟨Tryz.f140, _, by kernel_rfl, by kernel_rfl, rfl, by kernel_rfl, by kernel_rfl, rfl⟩, by kernel_rfl⟩
def c158 : ACode :=
 (.seq (.ops [⟨some 2, none, .prim (.mov (.const (.int .u64 0)))⟩,
 ⟨some 3, none, .prim (.mov (.const (.bool false)))⟩])
 (.seq (.seq (.ops [⟨some 7, none, .prim (.mov (.tmp 0))⟩,
 ⟨some 8, none, .prim (.lenv (.tmp 7))⟩,
 ⟨some 9, none, .prim (.bin false .lss (.tmp 8) (.const (.int .i64 8)))⟩])
 (.cond (.tmp 9)
 (.seq (.ops [⟨some 2, none, .prim (.mov (.const (.int .u64 0)))⟩,
 ⟨some 3, none, .prim (.mov (.const (.bool false)))⟩])
 .ret)
 .skip))
 (.seq (.ops [⟨some 4, none, .prim (.mov (.const (.int .u64 0)))⟩])
 (.seq (.seq (.ops [⟨some 10, none, .prim (.mov (.tmp 0))⟩,
 ⟨some 11, none, .prim (.slcv 1 (.tmp 10) none (some (.const (.int .i64 8))))⟩,
 ⟨some 12, none, .prim (.lenv (.tmp 11))⟩,
 ⟨some 13, none, .prim (.mov (.const (.int .i64 0)))⟩])
 (.block 0 (.loop [0, 1, 2, 3, 5, 6, 7, 8, 9, 10, 14, 15, 16, 17, 18, 19, 20, 21, 22, 23] (.seq (.ops [⟨some 14, none, .prim (.bin false .lss (.tmp 13) (.tmp 12))⟩])
 (.seq (.cond (.tmp 14)
 .skip
 (.exit 0))
 (.seq (.block 1 (.seq (.ops [⟨some 15, none, .prim (.iadrs 1 (.tmp 11) (.tmp 13))⟩,
 ⟨some 16, none, .prim (.load 1 false (.tmp 15))⟩,
 ⟨some 6, none, .prim (.mov (.tmp 16))⟩])
 (.ops [⟨some 17, none, .prim (.mov (.tmp 4))⟩,
 ⟨some 18, none, .prim (.bin false .shl (.tmp 17) (.const (.int .u64 8)))⟩,
 ⟨some 19, none, .prim (.mov (.tmp 6))⟩,
 ⟨some 20, none, .prim (.convi .u64 (.tmp 19))⟩,
 ⟨some 21, none, .prim (.bin false .or (.tmp 18) (.tmp 20))⟩,
 ⟨some 4, none, .prim (.mov (.tmp 21))⟩])))
 (.ops [⟨some 22, none, .prim (.bin false .add (.tmp 13) (.const (.int .i64 1)))⟩,
 ⟨some 13, none, .prim (.mov (.tmp 22))⟩])))))))
 (.seq (.ops [⟨some 23, none, .prim (.mov (.tmp 4))⟩,
 ⟨some 2, none, .prim (.mov (.tmp 23))⟩,
 ⟨some 3, none, .prim (.mov (.const (.bool true)))⟩])
 .ret)))))
def o158 : List Tmp := []
def r158 : List RV := [.tmp 2, .tmp 3]
theorem t158 : Text Tryz.prog 158 o158 c158 r158 24 := ⟨⟨Tryz.f158, _, by kernel_rfl, by kernel_rfl, rfl, by kernel_rfl, by kernel_rfl, rfl⟩, by kernel_rfl⟩
end Go.Proofs.YtmkmhhjkdaklbaaGreat
