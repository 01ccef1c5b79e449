/- What the functions do, over abstract values: printed by a program, checked by the kernel. No condition. -/
import Derived.Test.YtoadgajhkhejiaaGreatProg
import Derived.Test.YtoadgajhkhejiaaGreatAbStepA
set_option linter.unusedSimpArgs false
set_option linter.unusedVariables false
namespace Go.Proofs.YtoadgajhkhejiaaGreat
open Go Go.Ab
set_option maxRecDepth 100000
def c2 : ACode :=
 (.ops [⟨some 0, none, .call (.func 1) []⟩])
def o2 : List Tmp := []
def r2 : List RV := []
theorem t2 : Text Tryz.prog 2 o2 c2 r2 1 := ⟨⟨Tryz.f2, _, by kernel_rfl, by kernel_rfl, rfl, by kernel_rfl, by kernel_rfl, rfl⟩, by kernel_rfl⟩
def c6 : ACode :=
 (.seq (.ops [⟨some 0, none, .prim (.mov (.const (.bool false)))⟩])
 (.seq (.ops [⟨some 2, none, .call (.func 22) []⟩,
 ⟨some 1, none, .fresh 6 1 (.tmp 2)⟩])
 (.seq (.draw [⟨⟨some 3, none, .prim (.load 6 true (.tmp 1))⟩, [], false, 0, 0⟩,
 ⟨⟨some 4, none, .call (.func 8) [(.tmp 3)]⟩, [0], true, 0, 0⟩,
 ⟨⟨some 5, none, .prim (.mov (.tmp 4))⟩, [0, 1], false, 1, 1⟩,
 ⟨⟨some 6, (some (5, true)), .prim (.load 6 true (.tmp 1))⟩, [0, 1, 2], false, 1, 3⟩,
 ⟨⟨some 7, (some (5, true)), .call (.func 23) [(.const (.string (ByteArray.mk #[99, 114, 105, 116]))), (.const (.string (ByteArray.mk #[120])))]⟩, [0, 1, 2], true, 0, 0⟩,
 ⟨⟨some 8, (some (5, true)), .call (.func 23) [(.const (.string (ByteArray.mk #[119, 97, 114, 110]))), (.const (.string (ByteArray.mk #[120])))]⟩, [0, 1, 2, 4], true, 0, 0⟩,
 ⟨⟨some 9, (some (5, true)), .call (.func 19) [(.tmp 6), (.tmp 7), (.tmp 8)]⟩, (List.range 6), true, 0, 0⟩,
 ⟨⟨some 10, none, .prim (.pick (.tmp 5) (.tmp 9) (.const (.bool false)))⟩, (List.range 7), false, 4, 4⟩,
 ⟨⟨some 11, none, .prim (.mov (.tmp 10))⟩, (List.range 8), false, 4, 4⟩,
 ⟨⟨some 12, (some (11, true)), .prim (.load 6 true (.tmp 1))⟩, (List.range 9), false, 4, 6⟩,
 ⟨⟨some 13, (some (11, true)), .call (.func 23) [(.const (.string (ByteArray.mk #[99, 114, 105, 116]))), (.const (.string (ByteArray.mk #[120])))]⟩, (List.range 9), true, 0, 0⟩,
 ⟨⟨some 14, (some (11, true)), .call (.func 23) [(.const (.string (ByteArray.mk #[119, 97, 114, 110]))), (.const (.string (ByteArray.mk #[121])))]⟩, [0, 1, 2, 3, 4, 5, 6, 7, 8, 10], true, 0, 0⟩,
 ⟨⟨some 15, (some (11, true)), .call (.func 19) [(.tmp 12), (.tmp 13), (.tmp 14)]⟩, (List.range 12), true, 0, 0⟩,
 ⟨⟨some 16, (some (11, true)), .prim (.un .not (.tmp 15))⟩, (List.range 13), false, 7, 7⟩,
 ⟨⟨some 17, none, .prim (.pick (.tmp 11) (.tmp 16) (.const (.bool false)))⟩, (List.range 14), false, 7, 7⟩,
 ⟨⟨some 18, none, .prim (.mov (.tmp 17))⟩, (List.range 15), false, 7, 7⟩,
 ⟨⟨some 19, (some (18, true)), .prim (.load 6 true (.tmp 1))⟩, (List.range 16), false, 7, 9⟩,
 ⟨⟨some 20, (some (18, true)), .call (.func 23) [(.const (.string (ByteArray.mk #[99, 114, 105, 116]))), (.const (.string (ByteArray.mk #[120])))]⟩, (List.range 16), true, 0, 0⟩,
 ⟨⟨some 21, (some (18, true)), .call (.func 23) [(.const (.string (ByteArray.mk #[99, 114, 105, 116]))), (.const (.string (ByteArray.mk #[120])))]⟩, [0, 1, 2, 3, 4, 5, 6, 7, 8, 9, 10, 11, 12, 13, 14, 15, 17], true, 0, 0⟩,
 ⟨⟨some 22, (some (18, true)), .call (.func 19) [(.tmp 19), (.tmp 20), (.tmp 21)]⟩, (List.range 19), true, 0, 0⟩,
 ⟨⟨some 23, (some (18, true)), .prim (.un .not (.tmp 22))⟩, (List.range 20), false, 10, 10⟩,
 ⟨⟨some 24, none, .prim (.pick (.tmp 18) (.tmp 23) (.const (.bool false)))⟩, (List.range 21), false, 10, 10⟩,
 ⟨⟨some 25, none, .prim (.mov (.tmp 24))⟩, (List.range 22), false, 10, 10⟩,
 ⟨⟨some 26, (some (25, true)), .prim (.load 6 true (.tmp 1))⟩, (List.range 23), false, 10, 12⟩,
 ⟨⟨some 27, (some (25, true)), .call (.func 23) [(.const (.string (ByteArray.mk #[119, 97, 114, 110]))), (.const (.string (ByteArray.mk #[120])))]⟩, (List.range 23), true, 0, 0⟩,
 ⟨⟨some 28, (some (25, true)), .call (.func 23) [(.const (.string (ByteArray.mk #[99, 114, 105, 116]))), (.const (.string (ByteArray.mk #[120])))]⟩, [0, 1, 2, 3, 4, 5, 6, 7, 8, 9, 10, 11, 12, 13, 14, 15, 16, 17, 18, 19, 20, 21, 22, 24], true, 0, 0⟩,
 ⟨⟨some 29, (some (25, true)), .call (.func 19) [(.tmp 26), (.tmp 27), (.tmp 28)]⟩, (List.range 26), true, 0, 0⟩,
 ⟨⟨some 30, (some (25, true)), .prim (.un .not (.tmp 29))⟩, (List.range 27), false, 13, 13⟩,
 ⟨⟨some 31, none, .prim (.pick (.tmp 25) (.tmp 30) (.const (.bool false)))⟩, (List.range 28), false, 13, 13⟩,
 ⟨⟨some 0, none, .prim (.mov (.tmp 31))⟩, (List.range 29), false, 13, 13⟩])
 .ret)))
def o6 : List Tmp := []
def r6 : List RV := [.tmp 0]
theorem t6 : Text Tryz.prog 6 o6 c6 r6 32 := ⟨⟨Tryz.f6, _, by kernel_rfl, by kernel_rfl, rfl, by kernel_rfl, by kernel_rfl, rfl⟩, by kernel_rfl⟩
def c21 : ACode :=
 (.seq (.ops [⟨some 4, none, .prim (.mov (.const (.int .i64 0)))⟩])
 (.seq (.ops [⟨some 5, none, .prim (.mov (.const (.int .i64 0)))⟩])
 (.seq (.seq (.ops [⟨some 6, none, .prim (.mov (.const (.int .i64 0)))⟩])
 (.block 0 (.loop [2, 3, 4, 7, 8, 9, 10, 11, 12, 13, 14, 15, 16, 17, 18, 19, 20, 21, 22, 23, 24, 25, 26, 27, 28, 29, 30, 31, 32, 33, 34, 35, 36, 37, 38, 39, 40, 41, 42, 43, 44, 45, 46, 47, 48, 49, 50, 51, 52, 53, 54, 55, 56, 57] (.seq (.seq (.ops [⟨some 7, none, .prim (.mov (.tmp 6))⟩,
 ⟨some 8, none, .prim (.mov (.tmp 0))⟩,
 ⟨some 9, none, .prim (.lenv (.tmp 8))⟩,
 ⟨some 10, none, .prim (.bin false .lss (.tmp 7) (.tmp 9))⟩,
 ⟨some 11, none, .prim (.mov (.tmp 10))⟩,
 ⟨some 12, (some (11, true)), .prim (.mov (.tmp 5))⟩,
 ⟨some 13, (some (11, true)), .prim (.mov (.tmp 1))⟩,
 ⟨some 14, (some (11, true)), .prim (.bin false .leq (.tmp 12) (.tmp 13))⟩,
 ⟨some 15, none, .prim (.pick (.tmp 11) (.tmp 14) (.const (.bool false)))⟩])
 (.cond (.tmp 15)
 .skip
 (.exit 0)))
 (.seq (.block 1 (.seq (.seq (.ops [⟨some 18, none, .prim (.mov (.tmp 0))⟩,
 ⟨some 19, none, .prim (.mov (.tmp 6))⟩,
 ⟨some 20, none, .prim (.iadrs 3 (.tmp 18) (.tmp 19))⟩,
 ⟨some 21, none, .prim (.fadr 1 (.tmp 20))⟩,
 ⟨some 22, none, .prim (.load 1 false (.tmp 21))⟩,
 ⟨some 23, none, .prim (.lens (.tmp 22))⟩,
 ⟨some 24, none, .prim (.mov (.tmp 1))⟩,
 ⟨some 25, none, .prim (.bin false .gtr (.tmp 23) (.tmp 24))⟩,
 ⟨some 26, none, .prim (.mov (.tmp 25))⟩,
 ⟨some 27, (some (26, false)), .prim (.mov (.tmp 0))⟩,
 ⟨some 28, (some (26, false)), .prim (.mov (.tmp 6))⟩,
 ⟨some 29, (some (26, false)), .prim (.iadrs 3 (.tmp 27) (.tmp 28))⟩,
 ⟨some 30, (some (26, false)), .prim (.fadr 2 (.tmp 29))⟩,
 ⟨some 31, (some (26, false)), .prim (.load 1 false (.tmp 30))⟩,
 ⟨some 32, (some (26, false)), .prim (.lens (.tmp 31))⟩,
 ⟨some 33, (some (26, false)), .prim (.mov (.tmp 1))⟩,
 ⟨some 34, (some (26, false)), .prim (.bin false .gtr (.tmp 32) (.tmp 33))⟩,
 ⟨some 35, none, .prim (.pick (.tmp 26) (.const (.bool true)) (.tmp 34))⟩])
 (.cond (.tmp 35)
 (.seq (.ops [⟨some 36, none, .prim (.mov (.tmp 1))⟩,
 ⟨some 37, none, .prim (.bin false .add (.tmp 36) (.const (.int .i64 1)))⟩,
 ⟨some 4, none, .prim (.mov (.tmp 37))⟩])
 .ret)
 .skip))
 (.draw [⟨⟨some 38, none, .prim (.mov (.tmp 5))⟩, [], false, 0, 0⟩,
 ⟨⟨some 39, none, .prim (.bin false .add (.tmp 38) (.const (.int .i64 1)))⟩, [0], false, 0, 0⟩,
 ⟨⟨some 40, none, .prim (.mov (.tmp 0))⟩, [], false, 0, 0⟩,
 ⟨⟨some 41, none, .prim (.mov (.tmp 6))⟩, [], false, 0, 0⟩,
 ⟨⟨some 42, none, .prim (.iadrs 3 (.tmp 40) (.tmp 41))⟩, [2, 3], false, 0, 0⟩,
 ⟨⟨some 43, none, .prim (.fadr 1 (.tmp 42))⟩, [2, 3, 4], false, 0, 0⟩,
 ⟨⟨some 44, none, .prim (.load 1 false (.tmp 43))⟩, [2, 3, 4, 5], false, 0, 0⟩,
 ⟨⟨some 45, none, .prim (.lens (.tmp 44))⟩, [2, 3, 4, 5, 6], false, 0, 0⟩,
 ⟨⟨some 46, none, .prim (.bin false .add (.tmp 39) (.tmp 45))⟩, (List.range 8), false, 0, 0⟩,
 ⟨⟨some 47, none, .prim (.mov (.tmp 0))⟩, [], false, 0, 0⟩,
 ⟨⟨some 48, none, .prim (.mov (.tmp 6))⟩, [], false, 0, 0⟩,
 ⟨⟨some 49, none, .prim (.iadrs 3 (.tmp 47) (.tmp 48))⟩, [9, 10], false, 0, 0⟩,
 ⟨⟨some 50, none, .prim (.fadr 2 (.tmp 49))⟩, [9, 10, 11], false, 0, 0⟩,
 ⟨⟨some 51, none, .prim (.load 1 false (.tmp 50))⟩, [9, 10, 11, 12], false, 0, 0⟩,
 ⟨⟨some 52, none, .prim (.lens (.tmp 51))⟩, [9, 10, 11, 12, 13], false, 0, 0⟩,
 ⟨⟨some 53, none, .prim (.bin false .add (.tmp 46) (.tmp 52))⟩, (List.range 15), false, 0, 0⟩,
 ⟨⟨some 5, none, .prim (.mov (.tmp 53))⟩, (List.range 16), false, 0, 0⟩])))
 (.ops [⟨some 16, none, .prim (.mov (.tmp 6))⟩,
 ⟨some 17, none, .prim (.bin false .add (.tmp 16) (.const (.int .i64 1)))⟩,
 ⟨some 6, none, .prim (.mov (.tmp 17))⟩]))))))
 (.seq (.ops [⟨some 54, none, .prim (.mov (.tmp 5))⟩,
 ⟨some 55, none, .prim (.mov (.tmp 1))⟩,
 ⟨some 56, none, .prim (.bin false .add (.tmp 55) (.const (.int .i64 1)))⟩,
 ⟨some 57, none, .prim (.mm false (.tmp 54) (.tmp 56))⟩,
 ⟨some 4, none, .prim (.mov (.tmp 57))⟩])
 .ret))))
def o21 : List Tmp := []
def r21 : List RV := [.tmp 4]
theorem t21 : Text Tryz.prog 21 o21 c21 r21 58 := ⟨⟨Tryz.f21, _, by kernel_rfl, by kernel_rfl, rfl, by kernel_rfl, by kernel_rfl, rfl⟩, by kernel_rfl⟩
def c22 : ACode :=
 (.seq (.ops [⟨some 0, none, .prim (.allocm [.nils, .nils, .pl (.bool false), .pl (.float .f64 0), .pl (.float .f64 0), .nils])⟩])
 (.seq (.ops [⟨some 1, none, .prim (.build [.pl (.int .i64 0), .pl (.string .empty), .pl (.string .empty)] [(0, 1, (.const (.int .i64 1))), (1, 1, (.const (.string (ByteArray.mk #[115, 101, 118])))), (2, 1, (.const (.string (ByteArray.mk #[99, 114, 105, 116]))))])⟩,
 ⟨some 2, none, .prim (.bsl false 3 true 1 [.pl (.int .i64 0), .pl (.string .empty), .pl (.string .empty)] [(0, 3, (.tmp 1))])⟩,
 ⟨some 3, none, .prim (.build [.pl (.int .i64 0), .pl (.string .empty), .pl (.string .empty)] [(0, 1, (.const (.int .i64 3))), (1, 1, (.const (.string (ByteArray.mk #[115, 101, 118])))), (2, 1, (.const (.string (ByteArray.mk #[99, 114, 105, 116, 124, 119, 97, 114, 110]))))])⟩,
 ⟨some 4, none, .prim (.bsl false 3 true 1 [.pl (.int .i64 0), .pl (.string .empty), .pl (.string .empty)] [(0, 3, (.tmp 3))])⟩,
 ⟨some 5, none, .prim (.build [.pl (.bool false), .pl (.float .f64 0), .pl (.float .f64 0)] [(0, 1, (.const (.bool true)))])⟩,
 ⟨some 6, none, .prim (.bsl false 1 false 1 [.pl (.string .empty)] [(0, 1, (.const (.string (ByteArray.mk #[99]))))])⟩,
 ⟨some 7, none, .prim (.build [.nils, .nils, .pl (.bool false), .pl (.float .f64 0), .pl (.float .f64 0), .nils] [(0, 1, (.tmp 2)), (1, 1, (.tmp 4)), (2, 3, (.tmp 5)), (5, 1, (.tmp 6))])⟩,
 ⟨none, none, .prim (.store 6 (.tmp 0) (.tmp 7))⟩])
 .ret))
def o22 : List Tmp := [0]
def r22 : List RV := [.cell 0 6 true]
theorem t22 : Text Tryz.prog 22 o22 c22 r22 8 := ⟨⟨Tryz.f22, _, by kernel_rfl, by kernel_rfl, rfl, by kernel_rfl, by kernel_rfl, rfl⟩, by kernel_rfl⟩
def c23 : ACode :=
 (.seq (.ops [⟨some 4, none, .prim (.allocm [.pl (.int .i64 0), .nils, .pl (.float .f64 0)])⟩])
 (.seq (.ops [⟨some 5, none, .prim (.mov (.tmp 1))⟩,
 ⟨some 6, none, .prim (.build [.pl (.string .empty), .pl (.string .empty)] [(0, 1, (.const (.string (ByteArray.mk #[99])))), (1, 1, (.tmp 5))])⟩,
 ⟨some 7, none, .prim (.mov (.tmp 0))⟩,
 ⟨some 8, none, .prim (.build [.pl (.string .empty), .pl (.string .empty)] [(0, 1, (.const (.string (ByteArray.mk #[115, 101, 118])))), (1, 1, (.tmp 7))])⟩,
 ⟨some 9, none, .prim (.bsl false 2 true 2 [.pl (.string .empty), .pl (.string .empty)] [(0, 2, (.tmp 6)), (2, 2, (.tmp 8))])⟩,
 ⟨some 10, none, .prim (.build [.pl (.int .i64 0), .nils, .pl (.float .f64 0)] [(0, 1, (.const (.int .i64 1))), (1, 1, (.tmp 9))])⟩,
 ⟨none, none, .prim (.store 3 (.tmp 4) (.tmp 10))⟩])
 .ret))
def o23 : List Tmp := [4]
def r23 : List RV := [.cell 4 3 true]
theorem t23 : Text Tryz.prog 23 o23 c23 r23 11 := ⟨⟨Tryz.f23, _, by kernel_rfl, by kernel_rfl, rfl, by kernel_rfl, by kernel_rfl, rfl⟩, by kernel_rfl⟩
def c24 : ACode :=
 (.seq (.ops [⟨some 2, none, .prim (.mov (.const (.slice none 0 0)))⟩])
 (.seq (.after (.ops [⟨some 3, none, .prim (.mov (.const (.slice none 0 0)))⟩]) (.own 3 2))
 (.seq (.seq (.ops [⟨some 4, none, .prim (.mov (.const (.int .i64 0)))⟩])
 (.block 0 (.loop [1, 2, 5, 6, 7, 8, 9, 10, 11, 12, 13, 14, 15, 16, 17, 18, 19, 20, 21, 22, 23, 24, 25, 26, 27, 28, 29, 30, 31, 32, 33, 34, 35, 36, 37, 38, 39, 40, 41, 42, 43, 44, 45, 46, 47, 48, 49, 50, 51, 52, 53] (.seq (.seq (.ops [⟨some 8, none, .prim (.mov (.tmp 4))⟩,
 ⟨some 9, none, .prim (.mov (.tmp 0))⟩,
 ⟨some 10, none, .prim (.lenv (.tmp 9))⟩,
 ⟨some 11, none, .prim (.bin false .lss (.tmp 8) (.tmp 10))⟩,
 ⟨some 12, none, .prim (.mov (.tmp 11))⟩,
 ⟨some 13, (some (12, true)), .prim (.mov (.tmp 4))⟩,
 ⟨some 14, (some (12, true)), .prim (.bin false .lss (.tmp 13) (.const (.int .i64 5)))⟩,
 ⟨some 15, none, .prim (.pick (.tmp 12) (.tmp 14) (.const (.bool false)))⟩])
 (.cond (.tmp 15)
 .skip
 (.exit 0)))
 (.seq (.block 1 (.seq (.draw [⟨⟨some 18, none, .prim (.mov (.tmp 0))⟩, [], false, 0, 1⟩,
 ⟨⟨some 19, none, .prim (.mov (.tmp 4))⟩, [], false, 0, 1⟩,
 ⟨⟨some 20, none, .prim (.iadrs 1 (.tmp 18) (.tmp 19))⟩, [0, 1], false, 0, 1⟩,
 ⟨⟨some 21, none, .prim (.load 1 false (.tmp 20))⟩, [0, 1, 2], false, 0, 1⟩,
 ⟨⟨some 22, none, .call (.func 44) [(.tmp 21), (.const (.int .i64 0)), (.const (.int .i64 4))]⟩, [0, 1, 2, 3], false, 0, 1⟩,
 ⟨⟨some 23, none, .call (.func 43) [(.tmp 22)]⟩, [0, 1, 2, 3, 4], false, 0, 1⟩,
 ⟨⟨some 24, none, .prim (.mov (.tmp 0))⟩, [], false, 0, 1⟩,
 ⟨⟨some 25, none, .prim (.mov (.tmp 4))⟩, [], false, 0, 1⟩,
 ⟨⟨some 26, none, .prim (.iadrs 1 (.tmp 24) (.tmp 25))⟩, [6, 7], false, 0, 1⟩,
 ⟨⟨some 27, none, .prim (.load 1 false (.tmp 26))⟩, [6, 7, 8], false, 0, 1⟩,
 ⟨⟨some 28, none, .prim (.bin false .quo (.tmp 27) (.const (.int .i64 5)))⟩, [6, 7, 8, 9], false, 0, 1⟩,
 ⟨⟨some 29, none, .call (.func 44) [(.tmp 28), (.const (.int .i64 0)), (.const (.int .i64 6))]⟩, (List.range 11), false, 0, 1⟩,
 ⟨⟨some 30, none, .call (.func 45) [(.tmp 29)]⟩, (List.range 12), false, 0, 1⟩,
 ⟨⟨some 31, none, .prim (.build [.pl (.string .empty), .pl (.string .empty)] [(0, 1, (.tmp 23)), (1, 1, (.tmp 30))])⟩, (List.range 13), false, 0, 1⟩,
 ⟨⟨some 5, none, .prim (.allocm [.pl (.string .empty), .pl (.string .empty)])⟩, [], true, 0, 0⟩,
 ⟨⟨none, none, .prim (.store 2 (.tmp 5) (.tmp 31))⟩, (List.range 15), true, 0, 0⟩])
 (.seq (.ops [⟨some 32, none, .prim (.mov (.tmp 3))⟩,
 ⟨some 33, none, .prim (.fadr 0 (.tmp 5))⟩,
 ⟨some 34, none, .prim (.load 1 false (.tmp 33))⟩,
 ⟨some 35, none, .call (.func 40) [(.tmp 32), (.tmp 34)]⟩,
 ⟨some 36, none, .prim (.bin false .eql (.tmp 35) (.const (.string (ByteArray.mk #[]))))⟩])
 (.cond (.tmp 36)
 (.ops [⟨some 37, none, .prim (.mov (.tmp 3))⟩,
 ⟨some 38, none, .prim (.load 2 true (.tmp 5))⟩,
 ⟨some 39, none, .prim (.bsl false 2 true 1 [.pl (.string .empty), .pl (.string .empty)] [(0, 2, (.tmp 38))])⟩,
 ⟨some 40, none, .prim (.app 2 (.tmp 37) (.tmp 39))⟩,
 ⟨some 3, none, .prim (.mov (.tmp 40))⟩])
 .skip))))
 (.after (.after (.ops [⟨some 16, none, .prim (.mov (.tmp 4))⟩,
 ⟨some 17, none, .prim (.bin false .add (.tmp 16) (.const (.int .i64 1)))⟩,
 ⟨some 4, none, .prim (.mov (.tmp 17))⟩]) (.clear [5, 33])) (.keep 1)))))))
 (.seq (.seq (.ops [⟨some 41, none, .prim (.mov (.tmp 3))⟩,
 ⟨some 42, none, .prim (.lenv (.tmp 41))⟩,
 ⟨some 43, none, .prim (.bin false .eql (.tmp 42) (.const (.int .i64 0)))⟩])
 (.cond (.tmp 43)
 (.ops [⟨some 44, none, .prim (.mov (.tmp 3))⟩,
 ⟨some 45, none, .prim (.build [.pl (.string .empty), .pl (.string .empty)] [(0, 1, (.const (.string (ByteArray.mk #[115, 101, 118])))), (1, 1, (.const (.string (ByteArray.mk #[97]))))])⟩,
 ⟨some 46, none, .prim (.bsl false 2 true 1 [.pl (.string .empty), .pl (.string .empty)] [(0, 2, (.tmp 45))])⟩,
 ⟨some 47, none, .prim (.app 2 (.tmp 44) (.tmp 46))⟩,
 ⟨some 3, none, .prim (.mov (.tmp 47))⟩])
 .skip))
 (.seq (.ghost (.shut 3) (.ops [⟨some 49, none, .prim (.mov (.tmp 3))⟩,
 ⟨some 50, none, .call (.func 46) [(.tmp 49)]⟩,
 ⟨some 48, none, .prim (.mov (.tmp 50))⟩,
 ⟨some 51, none, .prim (.extr 0 (.tmp 48))⟩,
 ⟨some 52, none, .prim (.extr 1 (.tmp 48))⟩,
 ⟨some 6, none, .prim (.mov (.tmp 51))⟩,
 ⟨some 7, none, .prim (.mov (.tmp 52))⟩]))
 (.seq (.ops [⟨some 53, none, .prim (.mov (.tmp 6))⟩,
 ⟨some 2, none, .prim (.mov (.tmp 53))⟩])
 (.ghost (.shut 2) .ret)))))))
def o24 : List Tmp := []
def r24 : List RV := [.tmp 2]
theorem t24 : Text Tryz.prog 24 o24 c24 r24 54 := ⟨⟨Tryz.f24, _, by kernel_rfl, by kernel_rfl, rfl, by kernel_rfl, by kernel_rfl, rfl⟩, by kernel_rfl⟩
def c25 : ACode :=
 (.seq (.ops [⟨some 2, none, .prim (.mov (.const (.bool false)))⟩])
 (.seq (.seq (.ops [⟨some 5, none, .prim (.mov (.tmp 0))⟩,
 ⟨some 6, none, .prim (.lenv (.tmp 5))⟩,
 ⟨some 7, none, .prim (.bin false .gtr (.tmp 6) (.const (.int .i64 5)))⟩])
 (.cond (.tmp 7)
 (.seq (.ops [⟨some 2, none, .prim (.mov (.const (.bool false)))⟩])
 .ret)
 .skip))
 (.seq (.seq (.ops [⟨some 8, none, .prim (.mov (.tmp 0))⟩,
 ⟨some 9, none, .prim (.lenv (.tmp 8))⟩,
 ⟨some 10, none, .prim (.mov (.const (.int .i64 0)))⟩])
 (.block 0 (.loop [1, 2, 3, 4, 5, 6, 7, 11, 12, 13, 14, 15, 16, 17, 18, 19, 20, 21, 22, 23, 24, 25, 26, 27, 28, 29, 30, 31, 32] (.seq (.ops [⟨some 11, none, .prim (.bin false .lss (.tmp 10) (.tmp 9))⟩])
 (.seq (.cond (.tmp 11)
 .skip
 (.exit 0))
 (.seq (.block 1 (.seq (.ops [⟨some 12, none, .prim (.mov (.tmp 10))⟩,
 ⟨some 13, none, .prim (.iadrs 3 (.tmp 8) (.tmp 10))⟩,
 ⟨some 14, none, .prim (.load 3 true (.tmp 13))⟩,
 ⟨some 4, none, .prim (.allocm [.pl (.int .i64 0), .pl (.string .empty), .pl (.string .empty)])⟩,
 ⟨some 3, none, .prim (.mov (.tmp 12))⟩,
 ⟨none, none, .prim (.store 3 (.tmp 4) (.tmp 14))⟩])
 (.seq (.draw [⟨⟨some 15, none, .prim (.load 3 true (.tmp 4))⟩, [], false, 0, 0⟩,
 ⟨⟨some 16, none, .call (.func 47) [(.tmp 15)]⟩, [0], true, 0, 0⟩,
 ⟨⟨some 17, none, .prim (.un .not (.tmp 16))⟩, [0, 1], false, 1, 1⟩,
 ⟨⟨some 18, none, .prim (.mov (.tmp 17))⟩, [0, 1, 2], false, 1, 1⟩,
 ⟨⟨some 19, (some (18, false)), .prim (.mov (.tmp 3))⟩, [0, 1, 2, 3], false, 1, 1⟩,
 ⟨⟨some 20, (some (18, false)), .prim (.bin false .gtr (.tmp 19) (.const (.int .i64 0)))⟩, [0, 1, 2, 3, 4], false, 1, 1⟩,
 ⟨⟨some 21, (some (18, false)), .prim (.mov (.tmp 20))⟩, (List.range 6), false, 1, 1⟩,
 ⟨⟨some 22, (some (21, true)), .prim (.mov (.tmp 0))⟩, (List.range 7), false, 1, 1⟩,
 ⟨⟨some 23, (some (21, true)), .prim (.mov (.tmp 3))⟩, (List.range 7), false, 1, 1⟩,
 ⟨⟨some 24, (some (21, true)), .prim (.bin false .sub (.tmp 23) (.const (.int .i64 1)))⟩, [0, 1, 2, 3, 4, 5, 6, 8], false, 1, 1⟩,
 ⟨⟨some 25, (some (21, true)), .prim (.iadrs 3 (.tmp 22) (.tmp 24))⟩, (List.range 10), false, 1, 1⟩,
 ⟨⟨some 26, (some (21, true)), .prim (.load 3 true (.tmp 25))⟩, (List.range 11), false, 1, 1⟩,
 ⟨⟨some 27, (some (21, true)), .prim (.load 3 true (.tmp 4))⟩, (List.range 7), false, 1, 1⟩,
 ⟨⟨some 28, (some (21, true)), .call (.func 48) [(.tmp 26), (.tmp 27)]⟩, (List.range 13), true, 0, 0⟩,
 ⟨⟨some 29, (some (21, true)), .prim (.bin false .geq (.tmp 28) (.const (.int .i64 0)))⟩, (List.range 14), false, 2, 2⟩,
 ⟨⟨some 30, (some (18, false)), .prim (.pick (.tmp 21) (.tmp 29) (.const (.bool false)))⟩, (List.range 15), false, 2, 2⟩,
 ⟨⟨some 31, none, .prim (.pick (.tmp 18) (.const (.bool true)) (.tmp 30))⟩, (List.range 16), false, 2, 2⟩])
 (.cond (.tmp 31)
 (.seq (.ops [⟨some 2, none, .prim (.mov (.const (.bool false)))⟩])
 .ret)
 .skip))))
 (.after (.after (.ops [⟨some 32, none, .prim (.bin false .add (.tmp 10) (.const (.int .i64 1)))⟩,
 ⟨some 10, none, .prim (.mov (.tmp 32))⟩]) (.clear [4])) (.keep 0))))))))
 (.seq (.ops [⟨some 2, none, .prim (.mov (.const (.bool true)))⟩])
 .ret))))
def o25 : List Tmp := [4]
def r25 : List RV := [.tmp 2]
theorem t25 : Text Tryz.prog 25 o25 c25 r25 33 := ⟨⟨Tryz.f25, _, by kernel_rfl, by kernel_rfl, rfl, by kernel_rfl, by kernel_rfl, rfl⟩, by kernel_rfl⟩
def c27 : ACode :=
 (.seq (.ops [⟨some 2, none, .prim (.mov (.const (.bool false)))⟩])
 (.seq (.seq (.ops [⟨some 4, none, .prim (.mov (.tmp 0))⟩,
 ⟨some 5, none, .prim (.lens (.tmp 4))⟩,
 ⟨some 6, none, .prim (.bin false .lss (.tmp 5) (.const (.int .i64 1)))⟩,
 ⟨some 7, none, .prim (.mov (.tmp 6))⟩,
 ⟨some 8, (some (7, false)), .prim (.mov (.tmp 0))⟩,
 ⟨some 9, (some (7, false)), .prim (.lens (.tmp 8))⟩,
 ⟨some 10, (some (7, false)), .prim (.bin false .gtr (.tmp 9) (.const (.int .i64 12)))⟩,
 ⟨some 11, none, .prim (.pick (.tmp 7) (.const (.bool true)) (.tmp 10))⟩,
 ⟨some 12, none, .prim (.mov (.tmp 11))⟩,
 ⟨some 13, (some (12, false)), .prim (.mov (.tmp 0))⟩,
 ⟨some 14, (some (12, false)), .prim (.idxs (.tmp 13) (.const (.int .i64 0)))⟩,
 ⟨some 15, (some (12, false)), .call (.func 50) [(.tmp 14)]⟩,
 ⟨some 16, (some (12, false)), .prim (.un .not (.tmp 15))⟩,
 ⟨some 17, none, .prim (.pick (.tmp 12) (.const (.bool true)) (.tmp 16))⟩])
 (.cond (.tmp 17)
 (.seq (.ops [⟨some 2, none, .prim (.mov (.const (.bool false)))⟩])
 .ret)
 .skip))
 (.seq (.seq (.ops [⟨some 18, none, .prim (.mov (.tmp 0))⟩,
 ⟨some 19, none, .prim (.lens (.tmp 18))⟩,
 ⟨some 20, none, .prim (.mov (.const (.int .i64 0)))⟩])
 (.block 0 (.loop [1, 2, 3, 4, 5, 6, 7, 8, 9, 10, 11, 12, 13, 14, 15, 16, 17, 18, 21, 22, 23, 24, 25, 26, 27, 28, 29, 30, 31, 32, 33, 34, 35, 36, 37, 38, 39, 40] (.seq (.ops [⟨some 21, none, .prim (.bin false .lss (.tmp 20) (.tmp 19))⟩])
 (.seq (.cond (.tmp 21)
 .skip
 (.exit 0))
 (.seq (.block 1 (.seq (.ops [⟨some 22, none, .prim (.mov (.tmp 20))⟩,
 ⟨some 3, none, .prim (.mov (.tmp 22))⟩])
 (.seq (.ops [⟨some 23, none, .prim (.mov (.tmp 0))⟩,
 ⟨some 24, none, .prim (.mov (.tmp 3))⟩,
 ⟨some 25, none, .prim (.idxs (.tmp 23) (.tmp 24))⟩,
 ⟨some 26, none, .call (.func 50) [(.tmp 25)]⟩,
 ⟨some 27, none, .prim (.un .not (.tmp 26))⟩,
 ⟨some 28, none, .prim (.mov (.tmp 27))⟩,
 ⟨some 29, (some (28, true)), .prim (.mov (.tmp 0))⟩,
 ⟨some 30, (some (28, true)), .prim (.mov (.tmp 3))⟩,
 ⟨some 31, (some (28, true)), .prim (.idxs (.tmp 29) (.tmp 30))⟩,
 ⟨some 32, (some (28, true)), .prim (.bin false .lss (.tmp 31) (.const (.int .u8 48)))⟩,
 ⟨some 33, (some (28, true)), .prim (.mov (.tmp 32))⟩,
 ⟨some 34, (some (33, false)), .prim (.mov (.tmp 0))⟩,
 ⟨some 35, (some (33, false)), .prim (.mov (.tmp 3))⟩,
 ⟨some 36, (some (33, false)), .prim (.idxs (.tmp 34) (.tmp 35))⟩,
 ⟨some 37, (some (33, false)), .prim (.bin false .gtr (.tmp 36) (.const (.int .u8 57)))⟩,
 ⟨some 38, (some (28, true)), .prim (.pick (.tmp 33) (.const (.bool true)) (.tmp 37))⟩,
 ⟨some 39, none, .prim (.pick (.tmp 28) (.tmp 38) (.const (.bool false)))⟩])
 (.cond (.tmp 39)
 (.seq (.ops [⟨some 2, none, .prim (.mov (.const (.bool false)))⟩])
 .ret)
 .skip))))
 (.ops [⟨some 40, none, .prim (.bin false .add (.tmp 20) (.const (.int .i64 1)))⟩,
 ⟨some 20, none, .prim (.mov (.tmp 40))⟩])))))))
 (.seq (.ops [⟨some 2, none, .prim (.mov (.const (.bool true)))⟩])
 .ret))))
def o27 : List Tmp := []
def r27 : List RV := [.tmp 2]
theorem t27 : Text Tryz.prog 27 o27 c27 r27 41 := ⟨⟨Tryz.f27, _, by kernel_rfl, by kernel_rfl, rfl, by kernel_rfl, by kernel_rfl, rfl⟩, by kernel_rfl⟩
def c28 : ACode :=
 (.seq (.ops [⟨some 2, none, .prim (.mov (.const (.bool false)))⟩])
 (.seq (.seq (.ops [⟨some 4, none, .prim (.mov (.tmp 0))⟩,
 ⟨some 5, none, .prim (.lenv (.tmp 4))⟩,
 ⟨some 6, none, .prim (.bin false .gtr (.tmp 5) (.const (.int .i64 5)))⟩])
 (.cond (.tmp 6)
 (.seq (.ops [⟨some 2, none, .prim (.mov (.const (.bool false)))⟩])
 .ret)
 .skip))
 (.seq (.seq (.ops [⟨some 3, none, .prim (.mov (.const (.int .i64 0)))⟩])
 (.block 0 (.loop [1, 2, 4, 5, 6, 7, 8, 9, 10, 11, 12, 13, 14, 15, 16, 17, 18, 19, 20, 21, 22, 23, 24, 25, 26, 27, 28, 29, 30, 31, 32, 33, 34, 35] (.seq (.seq (.ops [⟨some 7, none, .prim (.mov (.tmp 3))⟩,
 ⟨some 8, none, .prim (.mov (.tmp 0))⟩,
 ⟨some 9, none, .prim (.lenv (.tmp 8))⟩,
 ⟨some 10, none, .prim (.bin false .lss (.tmp 7) (.tmp 9))⟩])
 (.cond (.tmp 10)
 .skip
 (.exit 0)))
 (.seq (.block 1 (.seq (.draw [⟨⟨some 13, none, .prim (.mov (.tmp 0))⟩, [], false, 0, 0⟩,
 ⟨⟨some 14, none, .prim (.mov (.tmp 3))⟩, [], false, 0, 0⟩,
 ⟨⟨some 15, none, .prim (.iadrs 3 (.tmp 13) (.tmp 14))⟩, [0, 1], false, 0, 0⟩,
 ⟨⟨some 16, none, .prim (.load 3 true (.tmp 15))⟩, [0, 1, 2], false, 0, 0⟩,
 ⟨⟨some 17, none, .call (.func 51) [(.tmp 16)]⟩, [0, 1, 2, 3], true, 0, 0⟩,
 ⟨⟨some 18, none, .prim (.un .not (.tmp 17))⟩, [0, 1, 2, 3, 4], false, 1, 1⟩,
 ⟨⟨some 19, none, .prim (.mov (.tmp 18))⟩, (List.range 6), false, 1, 1⟩,
 ⟨⟨some 20, (some (19, false)), .prim (.mov (.tmp 3))⟩, (List.range 7), false, 1, 1⟩,
 ⟨⟨some 21, (some (19, false)), .prim (.bin false .gtr (.tmp 20) (.const (.int .i64 0)))⟩, (List.range 8), false, 1, 1⟩,
 ⟨⟨some 22, (some (19, false)), .prim (.mov (.tmp 21))⟩, (List.range 9), false, 1, 1⟩,
 ⟨⟨some 23, (some (22, true)), .prim (.mov (.tmp 0))⟩, (List.range 10), false, 1, 1⟩,
 ⟨⟨some 24, (some (22, true)), .prim (.mov (.tmp 3))⟩, (List.range 10), false, 1, 1⟩,
 ⟨⟨some 25, (some (22, true)), .prim (.bin false .sub (.tmp 24) (.const (.int .i64 1)))⟩, [0, 1, 2, 3, 4, 5, 6, 7, 8, 9, 11], false, 1, 1⟩,
 ⟨⟨some 26, (some (22, true)), .prim (.iadrs 3 (.tmp 23) (.tmp 25))⟩, (List.range 13), false, 1, 1⟩,
 ⟨⟨some 27, (some (22, true)), .prim (.load 3 true (.tmp 26))⟩, (List.range 14), false, 1, 1⟩,
 ⟨⟨some 28, (some (22, true)), .prim (.mov (.tmp 0))⟩, (List.range 10), false, 1, 1⟩,
 ⟨⟨some 29, (some (22, true)), .prim (.mov (.tmp 3))⟩, (List.range 10), false, 1, 1⟩,
 ⟨⟨some 30, (some (22, true)), .prim (.iadrs 3 (.tmp 28) (.tmp 29))⟩, [0, 1, 2, 3, 4, 5, 6, 7, 8, 9, 15, 16], false, 1, 1⟩,
 ⟨⟨some 31, (some (22, true)), .prim (.load 3 true (.tmp 30))⟩, [0, 1, 2, 3, 4, 5, 6, 7, 8, 9, 15, 16, 17], false, 1, 1⟩,
 ⟨⟨some 32, (some (22, true)), .call (.func 52) [(.tmp 27), (.tmp 31)]⟩, (List.range 19), true, 0, 0⟩,
 ⟨⟨some 33, (some (22, true)), .prim (.un .not (.tmp 32))⟩, (List.range 20), false, 2, 2⟩,
 ⟨⟨some 34, (some (19, false)), .prim (.pick (.tmp 22) (.tmp 33) (.const (.bool false)))⟩, (List.range 21), false, 2, 2⟩,
 ⟨⟨some 35, none, .prim (.pick (.tmp 19) (.const (.bool true)) (.tmp 34))⟩, (List.range 22), false, 2, 2⟩])
 (.cond (.tmp 35)
 (.seq (.ops [⟨some 2, none, .prim (.mov (.const (.bool false)))⟩])
 .ret)
 .skip)))
 (.ops [⟨some 11, none, .prim (.mov (.tmp 3))⟩,
 ⟨some 12, none, .prim (.bin false .add (.tmp 11) (.const (.int .i64 1)))⟩,
 ⟨some 3, none, .prim (.mov (.tmp 12))⟩]))))))
 (.seq (.ops [⟨some 2, none, .prim (.mov (.const (.bool true)))⟩])
 .ret))))
def o28 : List Tmp := []
def r28 : List RV := [.tmp 2]
theorem t28 : Text Tryz.prog 28 o28 c28 r28 36 := ⟨⟨Tryz.f28, _, by kernel_rfl, by kernel_rfl, rfl, by kernel_rfl, by kernel_rfl, rfl⟩, by kernel_rfl⟩
def c30 : ACode :=
 (.seq (.ops [⟨some 2, none, .prim (.mov (.const (.bool false)))⟩])
 (.seq (.seq (.ops [⟨some 3, none, .prim (.mov (.const (.int .i64 0)))⟩])
 (.block 0 (.loop [1, 2, 4, 5, 6, 7, 8, 9, 10, 11, 12, 13, 14, 15, 16, 17, 18, 19, 20, 21, 22, 23, 24, 25, 26, 27, 28, 29, 30, 31, 32, 33, 34, 35, 36, 37, 38, 39, 40, 41, 42, 43, 44, 45, 46, 47, 48, 49, 50, 51, 52, 53, 54] (.seq (.seq (.ops [⟨some 6, none, .prim (.mov (.tmp 3))⟩,
 ⟨some 7, none, .prim (.mov (.tmp 0))⟩,
 ⟨some 8, none, .prim (.lens (.tmp 7))⟩,
 ⟨some 9, none, .prim (.bin false .lss (.tmp 6) (.tmp 8))⟩])
 (.cond (.tmp 9)
 .skip
 (.exit 0)))
 (.seq (.block 1 (.seq (.ops [⟨some 12, none, .prim (.mov (.tmp 0))⟩,
 ⟨some 13, none, .prim (.mov (.tmp 3))⟩,
 ⟨some 14, none, .prim (.idxs (.tmp 12) (.tmp 13))⟩,
 ⟨some 4, none, .prim (.mov (.tmp 14))⟩])
 (.seq (.ops [⟨some 15, none, .prim (.mov (.tmp 4))⟩,
 ⟨some 16, none, .prim (.bin false .geq (.tmp 15) (.const (.int .u8 97)))⟩,
 ⟨some 17, none, .prim (.mov (.tmp 16))⟩,
 ⟨some 18, (some (17, true)), .prim (.mov (.tmp 4))⟩,
 ⟨some 19, (some (17, true)), .prim (.bin false .leq (.tmp 18) (.const (.int .u8 122)))⟩,
 ⟨some 20, none, .prim (.pick (.tmp 17) (.tmp 19) (.const (.bool false)))⟩,
 ⟨some 21, none, .prim (.mov (.tmp 20))⟩,
 ⟨some 22, (some (21, false)), .prim (.mov (.tmp 4))⟩,
 ⟨some 23, (some (21, false)), .prim (.bin false .geq (.tmp 22) (.const (.int .u8 65)))⟩,
 ⟨some 24, (some (21, false)), .prim (.mov (.tmp 23))⟩,
 ⟨some 25, (some (24, true)), .prim (.mov (.tmp 4))⟩,
 ⟨some 26, (some (24, true)), .prim (.bin false .leq (.tmp 25) (.const (.int .u8 90)))⟩,
 ⟨some 27, (some (21, false)), .prim (.pick (.tmp 24) (.tmp 26) (.const (.bool false)))⟩,
 ⟨some 28, none, .prim (.pick (.tmp 21) (.const (.bool true)) (.tmp 27))⟩,
 ⟨some 29, none, .prim (.mov (.tmp 28))⟩,
 ⟨some 30, (some (29, false)), .prim (.mov (.tmp 4))⟩,
 ⟨some 31, (some (29, false)), .prim (.bin false .eql (.tmp 30) (.const (.int .u8 95)))⟩,
 ⟨some 32, none, .prim (.pick (.tmp 29) (.const (.bool true)) (.tmp 31))⟩,
 ⟨some 5, none, .prim (.mov (.tmp 32))⟩])
 (.seq (.ops [⟨some 33, none, .prim (.mov (.tmp 5))⟩,
 ⟨some 34, none, .prim (.un .not (.tmp 33))⟩,
 ⟨some 35, none, .prim (.mov (.tmp 34))⟩,
 ⟨some 36, (some (35, true)), .prim (.mov (.tmp 3))⟩,
 ⟨some 37, (some (35, true)), .prim (.bin false .eql (.tmp 36) (.const (.int .i64 0)))⟩,
 ⟨some 38, (some (35, true)), .prim (.mov (.tmp 37))⟩,
 ⟨some 39, (some (38, false)), .prim (.mov (.tmp 4))⟩,
 ⟨some 40, (some (38, false)), .prim (.bin false .lss (.tmp 39) (.const (.int .u8 48)))⟩,
 ⟨some 41, (some (35, true)), .prim (.pick (.tmp 38) (.const (.bool true)) (.tmp 40))⟩,
 ⟨some 42, (some (35, true)), .prim (.mov (.tmp 41))⟩,
 ⟨some 43, (some (42, false)), .prim (.mov (.tmp 4))⟩,
 ⟨some 44, (some (42, false)), .prim (.bin false .gtr (.tmp 43) (.const (.int .u8 57)))⟩,
 ⟨some 45, (some (35, true)), .prim (.pick (.tmp 42) (.const (.bool true)) (.tmp 44))⟩,
 ⟨some 46, none, .prim (.pick (.tmp 35) (.tmp 45) (.const (.bool false)))⟩])
 (.cond (.tmp 46)
 (.seq (.ops [⟨some 2, none, .prim (.mov (.const (.bool false)))⟩])
 .ret)
 .skip)))))
 (.ops [⟨some 10, none, .prim (.mov (.tmp 3))⟩,
 ⟨some 11, none, .prim (.bin false .add (.tmp 10) (.const (.int .i64 1)))⟩,
 ⟨some 3, none, .prim (.mov (.tmp 11))⟩]))))))
 (.seq (.ops [⟨some 47, none, .prim (.mov (.tmp 0))⟩,
 ⟨some 48, none, .prim (.lens (.tmp 47))⟩,
 ⟨some 49, none, .prim (.bin false .geq (.tmp 48) (.const (.int .i64 1)))⟩,
 ⟨some 50, none, .prim (.mov (.tmp 49))⟩,
 ⟨some 51, (some (50, true)), .prim (.mov (.tmp 0))⟩,
 ⟨some 52, (some (50, true)), .prim (.lens (.tmp 51))⟩,
 ⟨some 53, (some (50, true)), .prim (.bin false .leq (.tmp 52) (.const (.int .i64 12)))⟩,
 ⟨some 54, none, .prim (.pick (.tmp 50) (.tmp 53) (.const (.bool false)))⟩,
 ⟨some 2, none, .prim (.mov (.tmp 54))⟩])
 .ret)))
def o30 : List Tmp := []
def r30 : List RV := [.tmp 2]
theorem t30 : Text Tryz.prog 30 o30 c30 r30 55 := ⟨⟨Tryz.f30, _, by kernel_rfl, by kernel_rfl, rfl, by kernel_rfl, by kernel_rfl, rfl⟩, by kernel_rfl⟩
def c31 : ACode :=
 (.seq (.ops [⟨some 2, none, .prim (.mov (.const (.bool false)))⟩])
 (.seq (.ops [⟨some 3, none, .prim (.mov (.tmp 0))⟩,
 ⟨some 4, none, .call (.func 54) [(.tmp 3), (.func 55)]⟩,
 ⟨some 2, none, .prim (.mov (.tmp 4))⟩])
 .ret))
def o31 : List Tmp := []
def r31 : List RV := [.tmp 2]
theorem t31 : Text Tryz.prog 31 o31 c31 r31 5 := ⟨⟨Tryz.f31, _, by kernel_rfl, by kernel_rfl, rfl, by kernel_rfl, by kernel_rfl, rfl⟩, by kernel_rfl⟩
def c32 : ACode :=
 (.seq (.ops [⟨some 2, none, .prim (.mov (.const (.bool false)))⟩])
 (.seq (.seq (.ops [⟨some 3, none, .prim (.mov (.const (.int .i64 0)))⟩])
 (.block 0 (.loop [1, 2, 4, 5, 6, 7, 8, 9, 10, 11, 12, 13, 14] (.seq (.seq (.ops [⟨some 4, none, .prim (.mov (.tmp 3))⟩,
 ⟨some 5, none, .prim (.mov (.tmp 0))⟩,
 ⟨some 6, none, .prim (.lenv (.tmp 5))⟩,
 ⟨some 7, none, .prim (.bin false .lss (.tmp 4) (.tmp 6))⟩])
 (.cond (.tmp 7)
 .skip
 (.exit 0)))
 (.seq (.block 1 (.seq (.ops [⟨some 10, none, .prim (.mov (.tmp 0))⟩,
 ⟨some 11, none, .prim (.mov (.tmp 3))⟩,
 ⟨some 12, none, .prim (.iadrs 3 (.tmp 10) (.tmp 11))⟩,
 ⟨some 13, none, .prim (.load 3 true (.tmp 12))⟩,
 ⟨some 14, none, .call (.func 56) [(.tmp 13)]⟩])
 (.cond (.tmp 14)
 (.seq (.ops [⟨some 2, none, .prim (.mov (.const (.bool true)))⟩])
 .ret)
 .skip)))
 (.ops [⟨some 8, none, .prim (.mov (.tmp 3))⟩,
 ⟨some 9, none, .prim (.bin false .add (.tmp 8) (.const (.int .i64 1)))⟩,
 ⟨some 3, none, .prim (.mov (.tmp 9))⟩]))))))
 (.seq (.ops [⟨some 2, none, .prim (.mov (.const (.bool false)))⟩])
 .ret)))
def o32 : List Tmp := []
def r32 : List RV := [.tmp 2]
theorem t32 : Text Tryz.prog 32 o32 c32 r32 15 := ⟨⟨Tryz.f32, _, by kernel_rfl, by kernel_rfl, rfl, by kernel_rfl, by kernel_rfl, rfl⟩, by kernel_rfl⟩
def c34 : ACode :=
 (.seq (.ops [⟨some 3, none, .prim (.boxr (.tmp 1))⟩,
 ⟨some 4, none, .prim (.mov (.const (.bool false)))⟩])
 (.seq (.ops [⟨some 5, none, .prim (.mov (.tmp 0))⟩,
 ⟨some 6, none, .prim (.mkfn 57 [] [(.tmp 3)])⟩,
 ⟨some 7, none, .call (.func 54) [(.tmp 5), (.tmp 6)]⟩,
 ⟨some 8, none, .prim (.un .not (.tmp 7))⟩,
 ⟨some 4, none, .prim (.mov (.tmp 8))⟩])
 .ret))
def o34 : List Tmp := []
def r34 : List RV := [.tmp 4]
theorem t34 : Text Tryz.prog 34 o34 c34 r34 9 := ⟨⟨Tryz.f34, _, by kernel_rfl, by kernel_rfl, rfl, by kernel_rfl, by kernel_rfl, rfl⟩, by kernel_rfl⟩
def c36 : ACode :=
 (.seq (.ops [⟨some 4, none, .prim (.mov (.const (.bool false)))⟩])
 (.seq (.seq (.ops [⟨some 5, none, .prim (.mov (.const (.int .i64 0)))⟩])
 (.block 0 (.loop [2, 3, 4, 6, 7, 8, 9, 10, 11, 12, 13, 14, 15, 16, 17, 18] (.seq (.seq (.ops [⟨some 6, none, .prim (.mov (.tmp 5))⟩,
 ⟨some 7, none, .prim (.mov (.tmp 0))⟩,
 ⟨some 8, none, .prim (.lenv (.tmp 7))⟩,
 ⟨some 9, none, .prim (.bin false .lss (.tmp 6) (.tmp 8))⟩])
 (.cond (.tmp 9)
 .skip
 (.exit 0)))
 (.seq (.block 1 (.seq (.ops [⟨some 12, none, .prim (.mov (.tmp 0))⟩,
 ⟨some 13, none, .prim (.mov (.tmp 5))⟩,
 ⟨some 14, none, .prim (.iadrs 3 (.tmp 12) (.tmp 13))⟩,
 ⟨some 15, none, .prim (.load 3 true (.tmp 14))⟩,
 ⟨some 16, none, .prim (.mov (.tmp 1))⟩,
 ⟨some 17, none, .call (.func 59) [(.tmp 15), (.tmp 16)]⟩,
 ⟨some 18, none, .prim (.un .not (.tmp 17))⟩])
 (.cond (.tmp 18)
 (.seq (.ops [⟨some 4, none, .prim (.mov (.const (.bool false)))⟩])
 .ret)
 .skip)))
 (.ops [⟨some 10, none, .prim (.mov (.tmp 5))⟩,
 ⟨some 11, none, .prim (.bin false .add (.tmp 10) (.const (.int .i64 1)))⟩,
 ⟨some 5, none, .prim (.mov (.tmp 11))⟩]))))))
 (.seq (.ops [⟨some 4, none, .prim (.mov (.const (.bool true)))⟩])
 .ret)))
def o36 : List Tmp := []
def r36 : List RV := [.tmp 4]
theorem t36 : Text Tryz.prog 36 o36 c36 r36 19 := ⟨⟨Tryz.f36, _, by kernel_rfl, by kernel_rfl, rfl, by kernel_rfl, by kernel_rfl, rfl⟩, by kernel_rfl⟩
def c40 : ACode :=
 (.seq (.ops [⟨some 4, none, .prim (.mov (.const (.string (ByteArray.mk #[]))))⟩])
 (.seq (.seq (.ops [⟨some 5, none, .prim (.mov (.const (.int .i64 0)))⟩])
 (.block 0 (.loop [2, 3, 4, 6, 7, 8, 9, 10, 11, 12, 13, 14, 15, 16, 17, 18, 19, 20, 21, 22, 23] (.seq (.seq (.ops [⟨some 6, none, .prim (.mov (.tmp 5))⟩,
 ⟨some 7, none, .prim (.mov (.tmp 0))⟩,
 ⟨some 8, none, .prim (.lenv (.tmp 7))⟩,
 ⟨some 9, none, .prim (.bin false .lss (.tmp 6) (.tmp 8))⟩])
 (.cond (.tmp 9)
 .skip
 (.exit 0)))
 (.seq (.block 1 (.seq (.ops [⟨some 12, none, .prim (.mov (.tmp 0))⟩,
 ⟨some 13, none, .prim (.mov (.tmp 5))⟩,
 ⟨some 14, none, .prim (.iadrs 2 (.tmp 12) (.tmp 13))⟩,
 ⟨some 15, none, .prim (.fadr 0 (.tmp 14))⟩,
 ⟨some 16, none, .prim (.load 1 false (.tmp 15))⟩,
 ⟨some 17, none, .prim (.mov (.tmp 1))⟩,
 ⟨some 18, none, .prim (.bin false .eql (.tmp 16) (.tmp 17))⟩])
 (.cond (.tmp 18)
 (.seq (.ops [⟨some 19, none, .prim (.mov (.tmp 0))⟩,
 ⟨some 20, none, .prim (.mov (.tmp 5))⟩,
 ⟨some 21, none, .prim (.iadrs 2 (.tmp 19) (.tmp 20))⟩,
 ⟨some 22, none, .prim (.fadr 1 (.tmp 21))⟩,
 ⟨some 23, none, .prim (.load 1 false (.tmp 22))⟩,
 ⟨some 4, none, .prim (.mov (.tmp 23))⟩])
 .ret)
 .skip)))
 (.ops [⟨some 10, none, .prim (.mov (.tmp 5))⟩,
 ⟨some 11, none, .prim (.bin false .add (.tmp 10) (.const (.int .i64 1)))⟩,
 ⟨some 5, none, .prim (.mov (.tmp 11))⟩]))))))
 (.seq (.ops [⟨some 4, none, .prim (.mov (.const (.string (ByteArray.mk #[]))))⟩])
 .ret)))
def o40 : List Tmp := []
def r40 : List RV := [.tmp 4]
theorem t40 : Text Tryz.prog 40 o40 c40 r40 24 := ⟨⟨Tryz.f40, _, by kernel_rfl, by kernel_rfl, rfl, by kernel_rfl, by kernel_rfl, rfl⟩, by kernel_rfl⟩
def c43 : ACode :=
 (.seq (.ops [⟨some 2, none, .prim (.mov (.const (.string (ByteArray.mk #[]))))⟩])
 (.seq (.ops [⟨some 3, none, .prim (.build [.pl (.string .empty), .pl (.string .empty), .pl (.string .empty), .pl (.string .empty), .pl (.string .empty)] [(0, 1, (.const (.string (ByteArray.mk #[115, 101, 118])))), (1, 1, (.const (.string (ByteArray.mk #[106, 111, 98])))), (2, 1, (.const (.string (ByteArray.mk #[104, 111, 115, 116])))), (3, 1, (.const (.string (ByteArray.mk #[95, 120])))), (4, 1, (.const (.string (ByteArray.mk #[90, 111, 110, 101, 57]))))])⟩,
 ⟨some 4, none, .prim (.mov (.tmp 0))⟩,
 ⟨some 5, none, .call (.func 65) [(.tmp 4), (.const (.int .i64 0)), (.const (.int .i64 4))]⟩,
 ⟨some 6, none, .prim (.idxa 1 5 false (.tmp 3) (.tmp 5))⟩,
 ⟨some 2, none, .prim (.mov (.tmp 6))⟩])
 .ret))
def o43 : List Tmp := []
def r43 : List RV := [.tmp 2]
theorem t43 : Text Tryz.prog 43 o43 c43 r43 7 := ⟨⟨Tryz.f43, _, by kernel_rfl, by kernel_rfl, rfl, by kernel_rfl, by kernel_rfl, rfl⟩, by kernel_rfl⟩
def c44 : ACode :=
 (.seq (.ops [⟨some 6, none, .prim (.mov (.const (.int .i64 0)))⟩])
 (.seq (.ops [⟨some 7, none, .prim (.mov (.tmp 0))⟩,
 ⟨some 8, none, .prim (.mov (.tmp 2))⟩,
 ⟨some 9, none, .prim (.mov (.tmp 1))⟩,
 ⟨some 10, none, .prim (.bin false .sub (.tmp 8) (.tmp 9))⟩,
 ⟨some 11, none, .prim (.bin false .add (.tmp 10) (.const (.int .i64 1)))⟩,
 ⟨some 12, none, .prim (.bin false .rem (.tmp 7) (.tmp 11))⟩,
 ⟨some 0, none, .prim (.mov (.tmp 12))⟩])
 (.seq (.seq (.ops [⟨some 13, none, .prim (.mov (.tmp 0))⟩,
 ⟨some 14, none, .prim (.bin false .lss (.tmp 13) (.const (.int .i64 0)))⟩])
 (.cond (.tmp 14)
 (.ops [⟨some 15, none, .prim (.mov (.tmp 0))⟩,
 ⟨some 16, none, .prim (.mov (.tmp 2))⟩,
 ⟨some 17, none, .prim (.bin false .add (.tmp 15) (.tmp 16))⟩,
 ⟨some 18, none, .prim (.mov (.tmp 1))⟩,
 ⟨some 19, none, .prim (.bin false .sub (.tmp 17) (.tmp 18))⟩,
 ⟨some 20, none, .prim (.bin false .add (.tmp 19) (.const (.int .i64 1)))⟩,
 ⟨some 0, none, .prim (.mov (.tmp 20))⟩])
 .skip))
 (.seq (.ops [⟨some 21, none, .prim (.mov (.tmp 1))⟩,
 ⟨some 22, none, .prim (.mov (.tmp 0))⟩,
 ⟨some 23, none, .prim (.bin false .add (.tmp 21) (.tmp 22))⟩,
 ⟨some 6, none, .prim (.mov (.tmp 23))⟩])
 .ret))))
def o44 : List Tmp := []
def r44 : List RV := [.tmp 6]
theorem t44 : Text Tryz.prog 44 o44 c44 r44 24 := ⟨⟨Tryz.f44, _, by kernel_rfl, by kernel_rfl, rfl, by kernel_rfl, by kernel_rfl, rfl⟩, by kernel_rfl⟩
def c45 : ACode :=
 (.seq (.ops [⟨some 2, none, .prim (.mov (.const (.string (ByteArray.mk #[]))))⟩])
 (.seq (.ops [⟨some 3, none, .prim (.build [.pl (.string .empty), .pl (.string .empty), .pl (.string .empty), .pl (.string .empty), .pl (.string .empty), .pl (.string .empty), .pl (.string .empty)] [(0, 1, (.const (.string (ByteArray.mk #[97])))), (1, 1, (.const (.string (ByteArray.mk #[98])))), (2, 1, (.const (.string (ByteArray.mk #[99, 114, 105, 116])))), (3, 1, (.const (.string (ByteArray.mk #[119, 97, 114, 110])))), (4, 1, (.const (.string (ByteArray.mk #[97, 98])))), (5, 1, (.const (.string (ByteArray.mk #[0, 255])))), (6, 1, (.const (.string (ByteArray.mk #[97, 98, 97, 98, 97, 98, 97, 98, 97, 98, 97, 98, 97, 98, 97, 98, 97, 98, 97, 98, 97, 98, 97, 98]))))])⟩,
 ⟨some 4, none, .prim (.mov (.tmp 0))⟩,
 ⟨some 5, none, .call (.func 65) [(.tmp 4), (.const (.int .i64 0)), (.const (.int .i64 6))]⟩,
 ⟨some 6, none, .prim (.idxa 1 7 false (.tmp 3) (.tmp 5))⟩,
 ⟨some 2, none, .prim (.mov (.tmp 6))⟩])
 .ret))
def o45 : List Tmp := []
def r45 : List RV := [.tmp 2]
theorem t45 : Text Tryz.prog 45 o45 c45 r45 7 := ⟨⟨Tryz.f45, _, by kernel_rfl, by kernel_rfl, rfl, by kernel_rfl, by kernel_rfl, rfl⟩, by kernel_rfl⟩
def c46 : ACode :=
 (.seq (.ops [⟨some 2, none, .prim (.mov (.const (.slice none 0 0)))⟩,
 ⟨some 3, none, .prim (.mov (.const (.bool false)))⟩])
 (.seq (.after (.after (.after (.ops [⟨some 4, none, .prim (.mov (.const (.slice none 0 0)))⟩]) (.own 4 2)) (.shut 4)) (.keep 0))
 (.seq (.seq (.ops [⟨some 5, none, .prim (.mov (.const (.int .i64 0)))⟩])
 (.block 0 (.loop [1, 2, 3, 6, 7, 8, 9, 10, 11, 12, 13, 14, 15, 16, 17, 18, 19, 20, 21, 22, 23, 24, 25, 26, 27, 28, 29, 30, 31, 32, 33, 34, 35, 36, 37, 38, 39, 40, 41, 42, 43, 44, 45, 46, 47, 48, 49, 50] (.seq (.seq (.ops [⟨some 7, none, .prim (.mov (.tmp 5))⟩,
 ⟨some 8, none, .prim (.mov (.tmp 0))⟩,
 ⟨some 9, none, .prim (.lenv (.tmp 8))⟩,
 ⟨some 10, none, .prim (.bin false .lss (.tmp 7) (.tmp 9))⟩])
 (.cond (.tmp 10)
 .skip
 (.exit 0)))
 (.seq (.block 1 (.seq (.ops [⟨some 13, none, .prim (.mov (.tmp 4))⟩,
 ⟨some 14, none, .prim (.lenv (.tmp 13))⟩,
 ⟨some 6, none, .prim (.mov (.tmp 14))⟩])
 (.seq (.block 2 (.loop [1, 2, 3, 7, 8, 9, 10, 11, 12, 13, 14, 15, 16, 17, 18, 19, 20, 21, 22, 23, 24, 25, 26, 27, 28, 29, 30, 31, 32, 33, 34, 35, 36, 37, 38, 39, 40, 41, 42, 43, 44, 45, 46, 47, 48, 49, 50] (.seq (.seq (.draw [⟨⟨some 15, none, .prim (.mov (.tmp 6))⟩, [], false, 0, 0⟩,
 ⟨⟨some 16, none, .prim (.bin false .gtr (.tmp 15) (.const (.int .i64 0)))⟩, [0], false, 0, 0⟩,
 ⟨⟨some 17, none, .prim (.mov (.tmp 16))⟩, [0, 1], false, 0, 0⟩,
 ⟨⟨some 18, (some (17, true)), .prim (.mov (.tmp 0))⟩, [0, 1, 2], false, 0, 0⟩,
 ⟨⟨some 19, (some (17, true)), .prim (.mov (.tmp 5))⟩, [0, 1, 2], false, 0, 0⟩,
 ⟨⟨some 20, (some (17, true)), .prim (.iadrs 2 (.tmp 18) (.tmp 19))⟩, [0, 1, 2, 3, 4], false, 0, 0⟩,
 ⟨⟨some 21, (some (17, true)), .prim (.fadr 0 (.tmp 20))⟩, (List.range 6), false, 0, 0⟩,
 ⟨⟨some 22, (some (17, true)), .prim (.load 1 false (.tmp 21))⟩, (List.range 7), false, 0, 0⟩,
 ⟨⟨some 23, (some (17, true)), .prim (.mov (.tmp 4))⟩, [0, 1, 2], false, 0, 0⟩,
 ⟨⟨some 24, (some (17, true)), .prim (.mov (.tmp 6))⟩, [0, 1, 2], false, 0, 0⟩,
 ⟨⟨some 25, (some (17, true)), .prim (.bin false .sub (.tmp 24) (.const (.int .i64 1)))⟩, [0, 1, 2, 9], false, 0, 0⟩,
 ⟨⟨some 26, (some (17, true)), .prim (.iadrs 2 (.tmp 23) (.tmp 25))⟩, [0, 1, 2, 8, 9, 10], false, 0, 0⟩,
 ⟨⟨some 27, (some (17, true)), .prim (.fadr 0 (.tmp 26))⟩, [0, 1, 2, 8, 9, 10, 11], false, 0, 0⟩,
 ⟨⟨some 28, (some (17, true)), .prim (.load 1 false (.tmp 27))⟩, [0, 1, 2, 8, 9, 10, 11, 12], false, 0, 0⟩,
 ⟨⟨some 29, (some (17, true)), .prim (.bin false .lss (.tmp 22) (.tmp 28))⟩, (List.range 14), false, 0, 0⟩,
 ⟨⟨some 30, none, .prim (.pick (.tmp 17) (.tmp 29) (.const (.bool false)))⟩, (List.range 15), false, 0, 0⟩])
 (.cond (.tmp 30)
 .skip
 (.exit 2)))
 (.block 3 (.ops [⟨some 31, none, .prim (.mov (.tmp 6))⟩,
 ⟨some 32, none, .prim (.bin false .sub (.tmp 31) (.const (.int .i64 1)))⟩,
 ⟨some 6, none, .prim (.mov (.tmp 32))⟩])))))
 (.after (.after (.after (.draw [⟨⟨some 33, none, .prim (.mov (.tmp 4))⟩, [], false, 0, 0⟩,
 ⟨⟨some 34, none, .prim (.mov (.tmp 6))⟩, [], false, 0, 0⟩,
 ⟨⟨some 35, none, .prim (.slcv 2 (.tmp 33) none (some (.tmp 34)))⟩, [0, 1], false, 0, 0⟩,
 ⟨⟨some 36, none, .prim (.app 2 (.const (.slice none 0 0)) (.tmp 35))⟩, [0, 1, 2], true, 0, 0⟩,
 ⟨⟨some 37, none, .prim (.mov (.tmp 0))⟩, [], false, 0, 1⟩,
 ⟨⟨some 38, none, .prim (.mov (.tmp 5))⟩, [], false, 0, 1⟩,
 ⟨⟨some 39, none, .prim (.iadrs 2 (.tmp 37) (.tmp 38))⟩, [4, 5], false, 0, 1⟩,
 ⟨⟨some 40, none, .prim (.load 2 true (.tmp 39))⟩, [4, 5, 6], false, 0, 1⟩,
 ⟨⟨some 41, none, .prim (.bsl false 2 true 1 [.pl (.string .empty), .pl (.string .empty)] [(0, 2, (.tmp 40))])⟩, [4, 5, 6, 7], false, 0, 1⟩,
 ⟨⟨some 42, none, .prim (.app 2 (.tmp 36) (.tmp 41))⟩, (List.range 9), true, 0, 0⟩,
 ⟨⟨some 43, none, .prim (.mov (.tmp 4))⟩, [], false, 0, 2⟩,
 ⟨⟨some 44, none, .prim (.mov (.tmp 6))⟩, [], false, 0, 2⟩,
 ⟨⟨some 45, none, .prim (.slcv 2 (.tmp 43) (some (.tmp 44)) none)⟩, [10, 11], false, 0, 2⟩,
 ⟨⟨some 46, none, .prim (.app 2 (.tmp 42) (.tmp 45))⟩, (List.range 13), true, 0, 0⟩,
 ⟨⟨some 4, none, .prim (.mov (.tmp 46))⟩, (List.range 14), false, 3, 3⟩]) (.shut 4)) (.clear [36, 42, 46])) (.keep 0)))))
 (.ops [⟨some 11, none, .prim (.mov (.tmp 5))⟩,
 ⟨some 12, none, .prim (.bin false .add (.tmp 11) (.const (.int .i64 1)))⟩,
 ⟨some 5, none, .prim (.mov (.tmp 12))⟩]))))))
 (.seq (.seq (.ops [⟨some 47, none, .prim (.mov (.tmp 4))⟩,
 ⟨some 48, none, .call (.func 66) [(.tmp 47)]⟩,
 ⟨some 49, none, .prim (.un .not (.tmp 48))⟩])
 (.cond (.tmp 49)
 (.seq (.ops [⟨some 2, none, .prim (.mov (.const (.slice none 0 0)))⟩,
 ⟨some 3, none, .prim (.mov (.const (.bool false)))⟩])
 (.ghost (.shut 2) .ret))
 .skip))
 (.seq (.ops [⟨some 50, none, .prim (.mov (.tmp 4))⟩,
 ⟨some 2, none, .prim (.mov (.tmp 50))⟩,
 ⟨some 3, none, .prim (.mov (.const (.bool true)))⟩])
 (.ghost (.shut 2) .ret))))))
def o46 : List Tmp := []
def r46 : List RV := [.tmp 2, .tmp 3]
theorem t46 : Text Tryz.prog 46 o46 c46 r46 51 := ⟨⟨Tryz.f46, _, by kernel_rfl, by kernel_rfl, rfl, by kernel_rfl, by kernel_rfl, rfl⟩, by kernel_rfl⟩
def c47 : ACode :=
 (.seq (.ops [⟨some 1, none, .prim (.boxr (.tmp 0))⟩,
 ⟨some 2, none, .prim (.mov (.const (.bool false)))⟩])
 (.seq (.seq (.ops [⟨some 5, none, .prim (.fadr 1 (.tmp 1))⟩,
 ⟨some 6, none, .prim (.load 1 false (.tmp 5))⟩,
 ⟨some 7, none, .call (.func 27) [(.tmp 6)]⟩,
 ⟨some 8, none, .prim (.un .not (.tmp 7))⟩])
 (.cond (.tmp 8)
 (.seq (.ops [⟨some 2, none, .prim (.mov (.const (.bool false)))⟩])
 .ret)
 .skip))
 (.seq (.seq (.ops [⟨some 9, none, .prim (.load 3 true (.tmp 1))⟩,
 ⟨some 10, none, .call (.func 67) [(.tmp 9)]⟩])
 (.cond (.tmp 10)
 (.seq (.ops [⟨some 12, none, .prim (.fadr 2 (.tmp 1))⟩,
 ⟨some 13, none, .prim (.load 1 false (.tmp 12))⟩,
 ⟨some 14, none, .call (.func 68) [(.tmp 13)]⟩,
 ⟨some 11, none, .prim (.mov (.tmp 14))⟩,
 ⟨some 15, none, .prim (.extr 0 (.tmp 11))⟩,
 ⟨some 16, none, .prim (.extr 1 (.tmp 11))⟩,
 ⟨some 3, none, .fresh 6 3 (.tmp 15)⟩,
 ⟨some 4, none, .prim (.mov (.tmp 16))⟩])
 (.seq (.ops [⟨some 17, none, .prim (.mov (.tmp 4))⟩,
 ⟨some 2, none, .prim (.mov (.tmp 17))⟩])
 .ret))
 .skip))
 (.seq (.ops [⟨some 18, none, .prim (.fadr 0 (.tmp 1))⟩,
 ⟨some 19, none, .prim (.load 1 false (.tmp 18))⟩,
 ⟨some 20, none, .prim (.bin false .eql (.tmp 19) (.const (.int .i64 1)))⟩,
 ⟨some 21, none, .prim (.mov (.tmp 20))⟩,
 ⟨some 22, (some (21, false)), .prim (.fadr 0 (.tmp 1))⟩,
 ⟨some 23, (some (21, false)), .prim (.load 1 false (.tmp 22))⟩,
 ⟨some 24, (some (21, false)), .prim (.bin false .eql (.tmp 23) (.const (.int .i64 2)))⟩,
 ⟨some 25, none, .prim (.pick (.tmp 21) (.const (.bool true)) (.tmp 24))⟩,
 ⟨some 26, none, .prim (.mov (.tmp 25))⟩,
 ⟨some 27, (some (26, true)), .prim (.fadr 2 (.tmp 1))⟩,
 ⟨some 28, (some (26, true)), .prim (.load 1 false (.tmp 27))⟩,
 ⟨some 29, (some (26, true)), .prim (.lens (.tmp 28))⟩,
 ⟨some 30, (some (26, true)), .prim (.bin false .leq (.tmp 29) (.const (.int .i64 24)))⟩,
 ⟨some 31, none, .prim (.pick (.tmp 26) (.tmp 30) (.const (.bool false)))⟩,
 ⟨some 2, none, .prim (.mov (.tmp 31))⟩])
 .ret))))
def o47 : List Tmp := []
def r47 : List RV := [.tmp 2]
theorem t47 : Text Tryz.prog 47 o47 c47 r47 32 := ⟨⟨Tryz.f47, _, by kernel_rfl, by kernel_rfl, rfl, by kernel_rfl, by kernel_rfl, rfl⟩, by kernel_rfl⟩
def c48 : ACode :=
 (.seq (.ops [⟨some 2, none, .prim (.boxr (.tmp 0))⟩,
 ⟨some 3, none, .prim (.boxr (.tmp 1))⟩,
 ⟨some 4, none, .prim (.mov (.const (.int .i64 0)))⟩])
 (.seq (.draw [⟨⟨some 5, none, .prim (.fadr 1 (.tmp 2))⟩, [], false, 0, 0⟩,
 ⟨⟨some 6, none, .prim (.load 1 false (.tmp 5))⟩, [0], false, 0, 0⟩,
 ⟨⟨some 7, none, .prim (.fadr 1 (.tmp 3))⟩, [], false, 0, 0⟩,
 ⟨⟨some 8, none, .prim (.load 1 false (.tmp 7))⟩, [2], false, 0, 0⟩,
 ⟨⟨some 9, none, .call (.func 70) [(.tmp 6), (.tmp 8)]⟩, [0, 1, 2, 3], true, 0, 0⟩,
 ⟨⟨some 10, none, .prim (.fadr 0 (.tmp 2))⟩, [], false, 0, 1⟩,
 ⟨⟨some 11, none, .prim (.load 1 false (.tmp 10))⟩, [5], false, 0, 1⟩,
 ⟨⟨some 12, none, .prim (.fadr 0 (.tmp 3))⟩, [], false, 0, 1⟩,
 ⟨⟨some 13, none, .prim (.load 1 false (.tmp 12))⟩, [7], false, 0, 1⟩,
 ⟨⟨some 14, none, .call (.func 71) [(.tmp 11), (.tmp 13)]⟩, (List.range 9), true, 0, 0⟩,
 ⟨⟨some 15, none, .prim (.fadr 2 (.tmp 2))⟩, [], false, 0, 2⟩,
 ⟨⟨some 16, none, .prim (.load 1 false (.tmp 15))⟩, [10], false, 0, 2⟩,
 ⟨⟨some 17, none, .prim (.fadr 2 (.tmp 3))⟩, [], false, 0, 2⟩,
 ⟨⟨some 18, none, .prim (.load 1 false (.tmp 17))⟩, [12], false, 0, 2⟩,
 ⟨⟨some 19, none, .call (.func 70) [(.tmp 16), (.tmp 18)]⟩, (List.range 14), true, 0, 0⟩,
 ⟨⟨some 20, none, .prim (.bsl false 1 false 3 [.pl (.int .i64 0)] [(0, 1, (.tmp 9)), (1, 1, (.tmp 14)), (2, 1, (.tmp 19))])⟩, (List.range 15), false, 3, 3⟩,
 ⟨⟨some 21, none, .call (.func 69) [(.tmp 20)]⟩, (List.range 16), true, 0, 0⟩,
 ⟨⟨some 4, none, .prim (.mov (.tmp 21))⟩, (List.range 17), false, 4, 4⟩])
 .ret))
def o48 : List Tmp := []
def r48 : List RV := [.tmp 4]
theorem t48 : Text Tryz.prog 48 o48 c48 r48 22 := ⟨⟨Tryz.f48, _, by kernel_rfl, by kernel_rfl, rfl, by kernel_rfl, by kernel_rfl, rfl⟩, by kernel_rfl⟩
def c50 : ACode :=
 (.seq (.ops [⟨some 2, none, .prim (.mov (.const (.bool false)))⟩])
 (.seq (.ops [⟨some 3, none, .prim (.mov (.tmp 0))⟩,
 ⟨some 4, none, .prim (.bin false .geq (.tmp 3) (.const (.int .u8 97)))⟩,
 ⟨some 5, none, .prim (.mov (.tmp 4))⟩,
 ⟨some 6, (some (5, true)), .prim (.mov (.tmp 0))⟩,
 ⟨some 7, (some (5, true)), .prim (.bin false .leq (.tmp 6) (.const (.int .u8 122)))⟩,
 ⟨some 8, none, .prim (.pick (.tmp 5) (.tmp 7) (.const (.bool false)))⟩,
 ⟨some 9, none, .prim (.mov (.tmp 8))⟩,
 ⟨some 10, (some (9, false)), .prim (.mov (.tmp 0))⟩,
 ⟨some 11, (some (9, false)), .prim (.bin false .geq (.tmp 10) (.const (.int .u8 65)))⟩,
 ⟨some 12, (some (9, false)), .prim (.mov (.tmp 11))⟩,
 ⟨some 13, (some (12, true)), .prim (.mov (.tmp 0))⟩,
 ⟨some 14, (some (12, true)), .prim (.bin false .leq (.tmp 13) (.const (.int .u8 90)))⟩,
 ⟨some 15, (some (9, false)), .prim (.pick (.tmp 12) (.tmp 14) (.const (.bool false)))⟩,
 ⟨some 16, none, .prim (.pick (.tmp 9) (.const (.bool true)) (.tmp 15))⟩,
 ⟨some 17, none, .prim (.mov (.tmp 16))⟩,
 ⟨some 18, (some (17, false)), .prim (.mov (.tmp 0))⟩,
 ⟨some 19, (some (17, false)), .prim (.bin false .eql (.tmp 18) (.const (.int .u8 95)))⟩,
 ⟨some 20, none, .prim (.pick (.tmp 17) (.const (.bool true)) (.tmp 19))⟩,
 ⟨some 2, none, .prim (.mov (.tmp 20))⟩])
 .ret))
def o50 : List Tmp := []
def r50 : List RV := [.tmp 2]
theorem t50 : Text Tryz.prog 50 o50 c50 r50 21 := ⟨⟨Tryz.f50, _, by kernel_rfl, by kernel_rfl, rfl, by kernel_rfl, by kernel_rfl, rfl⟩, by kernel_rfl⟩
def c51 : ACode :=
 (.seq (.ops [⟨some 1, none, .prim (.boxr (.tmp 0))⟩,
 ⟨some 2, none, .prim (.mov (.const (.bool false)))⟩])
 (.seq (.seq (.ops [⟨some 5, none, .prim (.fadr 1 (.tmp 1))⟩,
 ⟨some 6, none, .prim (.load 1 false (.tmp 5))⟩,
 ⟨some 7, none, .call (.func 30) [(.tmp 6)]⟩,
 ⟨some 8, none, .prim (.un .not (.tmp 7))⟩])
 (.cond (.tmp 8)
 (.seq (.ops [⟨some 2, none, .prim (.mov (.const (.bool false)))⟩])
 .ret)
 .skip))
 (.seq (.seq (.ops [⟨some 9, none, .prim (.load 3 true (.tmp 1))⟩,
 ⟨some 10, none, .call (.func 74) [(.tmp 9)]⟩])
 (.cond (.tmp 10)
 (.seq (.ops [⟨some 12, none, .prim (.fadr 2 (.tmp 1))⟩,
 ⟨some 13, none, .prim (.load 1 false (.tmp 12))⟩,
 ⟨some 14, none, .call (.func 75) [(.tmp 13)]⟩,
 ⟨some 11, none, .prim (.mov (.tmp 14))⟩,
 ⟨some 15, none, .prim (.extr 0 (.tmp 11))⟩,
 ⟨some 16, none, .prim (.extr 1 (.tmp 11))⟩,
 ⟨some 3, none, .fresh 6 3 (.tmp 15)⟩,
 ⟨some 4, none, .prim (.mov (.tmp 16))⟩])
 (.seq (.ops [⟨some 17, none, .prim (.mov (.tmp 4))⟩,
 ⟨some 2, none, .prim (.mov (.tmp 17))⟩])
 .ret))
 .skip))
 (.seq (.ops [⟨some 18, none, .prim (.fadr 0 (.tmp 1))⟩,
 ⟨some 19, none, .prim (.load 1 false (.tmp 18))⟩,
 ⟨some 20, none, .prim (.bin false .eql (.tmp 19) (.const (.int .i64 1)))⟩,
 ⟨some 21, none, .prim (.mov (.tmp 20))⟩,
 ⟨some 22, (some (21, false)), .prim (.fadr 0 (.tmp 1))⟩,
 ⟨some 23, (some (21, false)), .prim (.load 1 false (.tmp 22))⟩,
 ⟨some 24, (some (21, false)), .prim (.bin false .eql (.tmp 23) (.const (.int .i64 2)))⟩,
 ⟨some 25, none, .prim (.pick (.tmp 21) (.const (.bool true)) (.tmp 24))⟩,
 ⟨some 26, none, .prim (.mov (.tmp 25))⟩,
 ⟨some 27, (some (26, true)), .prim (.fadr 2 (.tmp 1))⟩,
 ⟨some 28, (some (26, true)), .prim (.load 1 false (.tmp 27))⟩,
 ⟨some 29, (some (26, true)), .prim (.lens (.tmp 28))⟩,
 ⟨some 30, (some (26, true)), .prim (.bin false .leq (.tmp 29) (.const (.int .i64 24)))⟩,
 ⟨some 31, none, .prim (.pick (.tmp 26) (.tmp 30) (.const (.bool false)))⟩,
 ⟨some 2, none, .prim (.mov (.tmp 31))⟩])
 .ret))))
def o51 : List Tmp := []
def r51 : List RV := [.tmp 2]
theorem t51 : Text Tryz.prog 51 o51 c51 r51 32 := ⟨⟨Tryz.f51, _, by kernel_rfl, by kernel_rfl, rfl, by kernel_rfl, by kernel_rfl, rfl⟩, by kernel_rfl⟩
def c52 : ACode :=
 (.seq (.ops [⟨some 2, none, .prim (.boxr (.tmp 0))⟩,
 ⟨some 3, none, .prim (.boxr (.tmp 1))⟩,
 ⟨some 4, none, .prim (.mov (.const (.bool false)))⟩])
 (.seq (.seq (.ops [⟨some 5, none, .prim (.fadr 1 (.tmp 2))⟩,
 ⟨some 6, none, .prim (.load 1 false (.tmp 5))⟩,
 ⟨some 7, none, .prim (.fadr 1 (.tmp 3))⟩,
 ⟨some 8, none, .prim (.load 1 false (.tmp 7))⟩,
 ⟨some 9, none, .prim (.bin false .neq (.tmp 6) (.tmp 8))⟩])
 (.cond (.tmp 9)
 (.seq (.ops [⟨some 10, none, .prim (.fadr 1 (.tmp 2))⟩,
 ⟨some 11, none, .prim (.load 1 false (.tmp 10))⟩,
 ⟨some 12, none, .prim (.fadr 1 (.tmp 3))⟩,
 ⟨some 13, none, .prim (.load 1 false (.tmp 12))⟩,
 ⟨some 14, none, .prim (.bin false .lss (.tmp 11) (.tmp 13))⟩,
 ⟨some 4, none, .prim (.mov (.tmp 14))⟩])
 .ret)
 .skip))
 (.seq (.seq (.ops [⟨some 15, none, .prim (.fadr 0 (.tmp 2))⟩,
 ⟨some 16, none, .prim (.load 1 false (.tmp 15))⟩,
 ⟨some 17, none, .prim (.fadr 0 (.tmp 3))⟩,
 ⟨some 18, none, .prim (.load 1 false (.tmp 17))⟩,
 ⟨some 19, none, .prim (.bin false .neq (.tmp 16) (.tmp 18))⟩])
 (.cond (.tmp 19)
 (.seq (.ops [⟨some 20, none, .prim (.fadr 0 (.tmp 2))⟩,
 ⟨some 21, none, .prim (.load 1 false (.tmp 20))⟩,
 ⟨some 22, none, .prim (.fadr 0 (.tmp 3))⟩,
 ⟨some 23, none, .prim (.load 1 false (.tmp 22))⟩,
 ⟨some 24, none, .prim (.bin false .lss (.tmp 21) (.tmp 23))⟩,
 ⟨some 4, none, .prim (.mov (.tmp 24))⟩])
 .ret)
 .skip))
 (.seq (.ops [⟨some 25, none, .prim (.fadr 2 (.tmp 2))⟩,
 ⟨some 26, none, .prim (.load 1 false (.tmp 25))⟩,
 ⟨some 27, none, .prim (.fadr 2 (.tmp 3))⟩,
 ⟨some 28, none, .prim (.load 1 false (.tmp 27))⟩,
 ⟨some 29, none, .prim (.bin false .lss (.tmp 26) (.tmp 28))⟩,
 ⟨some 4, none, .prim (.mov (.tmp 29))⟩])
 .ret))))
def o52 : List Tmp := []
def r52 : List RV := [.tmp 4]
theorem t52 : Text Tryz.prog 52 o52 c52 r52 30 := ⟨⟨Tryz.f52, _, by kernel_rfl, by kernel_rfl, rfl, by kernel_rfl, by kernel_rfl, rfl⟩, by kernel_rfl⟩
def c54 : ACode :=
 (.seq (.ops [⟨some 4, none, .prim (.mov (.const (.bool false)))⟩])
 (.seq (.ops [⟨some 5, none, .prim (.mov (.tmp 0))⟩,
 ⟨some 6, none, .prim (.mov (.tmp 1))⟩,
 ⟨some 7, none, .call (.func 76) [(.tmp 5), (.tmp 6)]⟩,
 ⟨some 8, none, .prim (.bin false .geq (.tmp 7) (.const (.int .i64 0)))⟩,
 ⟨some 4, none, .prim (.mov (.tmp 8))⟩])
 .ret))
def o54 : List Tmp := []
def r54 : List RV := [.tmp 4]
theorem t54 : Text Tryz.prog 54 o54 c54 r54 9 := ⟨⟨Tryz.f54, _, by kernel_rfl, by kernel_rfl, rfl, by kernel_rfl, by kernel_rfl, rfl⟩, by kernel_rfl⟩
def c55 : ACode :=
 (.seq (.ops [⟨some 1, none, .prim (.boxr (.tmp 0))⟩,
 ⟨some 2, none, .prim (.mov (.const (.bool false)))⟩])
 (.seq (.seq (.ops [⟨some 5, none, .prim (.load 3 true (.tmp 1))⟩,
 ⟨some 6, none, .call (.func 67) [(.tmp 5)]⟩,
 ⟨some 7, none, .prim (.un .not (.tmp 6))⟩,
 ⟨some 8, none, .prim (.mov (.tmp 7))⟩,
 ⟨some 9, (some (8, false)), .prim (.load 3 true (.tmp 1))⟩,
 ⟨some 10, (some (8, false)), .call (.func 47) [(.tmp 9)]⟩,
 ⟨some 11, (some (8, false)), .prim (.un .not (.tmp 10))⟩,
 ⟨some 12, none, .prim (.pick (.tmp 8) (.const (.bool true)) (.tmp 11))⟩])
 (.cond (.tmp 12)
 (.seq (.ops [⟨some 2, none, .prim (.mov (.const (.bool false)))⟩])
 .ret)
 .skip))
 (.seq (.ops [⟨some 14, none, .prim (.load 3 true (.tmp 1))⟩,
 ⟨some 15, none, .call (.func 77) [(.tmp 14)]⟩,
 ⟨some 13, none, .prim (.mov (.tmp 15))⟩,
 ⟨some 16, none, .prim (.extr 0 (.tmp 13))⟩,
 ⟨some 17, none, .prim (.extr 1 (.tmp 13))⟩,
 ⟨some 3, none, .prim (.mov (.tmp 16))⟩,
 ⟨some 4, none, .prim (.mov (.tmp 17))⟩])
 (.seq (.ops [⟨some 18, none, .prim (.mov (.tmp 4))⟩,
 ⟨some 19, none, .prim (.un .not (.tmp 18))⟩,
 ⟨some 2, none, .prim (.mov (.tmp 19))⟩])
 .ret))))
def o55 : List Tmp := []
def r55 : List RV := [.tmp 2]
theorem t55 : Text Tryz.prog 55 o55 c55 r55 20 := ⟨⟨Tryz.f55, _, by kernel_rfl, by kernel_rfl, rfl, by kernel_rfl, by kernel_rfl, rfl⟩, by kernel_rfl⟩
def c56 : ACode :=
 (.seq (.ops [⟨some 1, none, .prim (.boxr (.tmp 0))⟩,
 ⟨some 2, none, .prim (.mov (.const (.bool false)))⟩])
 (.seq (.seq (.ops [⟨some 5, none, .prim (.load 3 true (.tmp 1))⟩,
 ⟨some 6, none, .call (.func 51) [(.tmp 5)]⟩,
 ⟨some 7, none, .prim (.un .not (.tmp 6))⟩,
 ⟨some 8, none, .prim (.mov (.tmp 7))⟩,
 ⟨some 9, (some (8, false)), .prim (.load 3 true (.tmp 1))⟩,
 ⟨some 10, (some (8, false)), .call (.func 74) [(.tmp 9)]⟩,
 ⟨some 11, (some (8, false)), .prim (.un .not (.tmp 10))⟩,
 ⟨some 12, none, .prim (.pick (.tmp 8) (.const (.bool true)) (.tmp 11))⟩])
 (.cond (.tmp 12)
 (.seq (.ops [⟨some 2, none, .prim (.mov (.const (.bool false)))⟩])
 .ret)
 .skip))
 (.seq (.ops [⟨some 14, none, .prim (.fadr 2 (.tmp 1))⟩,
 ⟨some 15, none, .prim (.load 1 false (.tmp 14))⟩,
 ⟨some 16, none, .call (.func 75) [(.tmp 15)]⟩,
 ⟨some 13, none, .prim (.mov (.tmp 16))⟩,
 ⟨some 17, none, .prim (.extr 0 (.tmp 13))⟩,
 ⟨some 18, none, .prim (.extr 1 (.tmp 13))⟩,
 ⟨some 3, none, .fresh 6 3 (.tmp 17)⟩,
 ⟨some 4, none, .prim (.mov (.tmp 18))⟩])
 (.seq (.ops [⟨some 19, none, .prim (.load 6 true (.tmp 3))⟩,
 ⟨some 20, none, .call (.func 78) [(.tmp 19)]⟩,
 ⟨some 21, none, .prim (.bin false .gtr (.tmp 20) (.const (.int .i64 40)))⟩,
 ⟨some 2, none, .prim (.mov (.tmp 21))⟩])
 .ret))))
def o56 : List Tmp := []
def r56 : List RV := [.tmp 2]
theorem t56 : Text Tryz.prog 56 o56 c56 r56 22 := ⟨⟨Tryz.f56, _, by kernel_rfl, by kernel_rfl, rfl, by kernel_rfl, by kernel_rfl, rfl⟩, by kernel_rfl⟩
def c57 : ACode :=
 (.seq (.ops [⟨some 2, none, .prim (.boxr (.tmp 0))⟩,
 ⟨some 3, none, .prim (.mov (.const (.bool false)))⟩])
 (.seq (.ops [⟨some 4, none, .prim (.load 3 true (.tmp 2))⟩,
 ⟨some 5, none, .prim (.load 1 false (.tmp 1))⟩,
 ⟨some 6, none, .call (.func 58) [(.tmp 4), (.tmp 5)]⟩,
 ⟨some 7, none, .prim (.un .not (.tmp 6))⟩,
 ⟨some 3, none, .prim (.mov (.tmp 7))⟩])
 .ret))
def o57 : List Tmp := []
def r57 : List RV := [.tmp 3]
theorem t57 : Text Tryz.prog 57 o57 c57 r57 8 := ⟨⟨Tryz.f57, _, by kernel_rfl, by kernel_rfl, rfl, by kernel_rfl, by kernel_rfl, rfl⟩, by kernel_rfl⟩
def c58 : ACode :=
 (.seq (.ops [⟨some 2, none, .prim (.boxr (.tmp 0))⟩,
 ⟨some 4, none, .prim (.mov (.const (.bool false)))⟩])
 (.seq (.seq (.ops [⟨some 8, none, .prim (.load 3 true (.tmp 2))⟩,
 ⟨some 9, none, .call (.func 47) [(.tmp 8)]⟩,
 ⟨some 10, none, .prim (.un .not (.tmp 9))⟩])
 (.cond (.tmp 10)
 (.seq (.ops [⟨some 4, none, .prim (.mov (.const (.bool false)))⟩])
 .ret)
 .skip))
 (.seq (.ops [⟨some 11, none, .prim (.mov (.tmp 1))⟩,
 ⟨some 12, none, .prim (.fadr 1 (.tmp 2))⟩,
 ⟨some 13, none, .prim (.load 1 false (.tmp 12))⟩,
 ⟨some 14, none, .call (.func 61) [(.tmp 11), (.tmp 13)]⟩,
 ⟨some 5, none, .prim (.mov (.tmp 14))⟩])
 (.seq (.seq (.ops [⟨some 15, none, .prim (.fadr 0 (.tmp 2))⟩,
 ⟨some 16, none, .prim (.load 1 false (.tmp 15))⟩])
 (.block 0 (.seq (.ops [⟨some 18, none, .prim (.bin false .eql (.tmp 16) (.const (.int .i64 1)))⟩,
 ⟨some 17, none, .prim (.mov (.tmp 18))⟩])
 (.cond (.tmp 17)
 (.seq (.ops [⟨some 19, none, .prim (.mov (.tmp 5))⟩,
 ⟨some 20, none, .prim (.fadr 2 (.tmp 2))⟩,
 ⟨some 21, none, .prim (.load 1 false (.tmp 20))⟩,
 ⟨some 22, none, .prim (.bin false .eql (.tmp 19) (.tmp 21))⟩,
 ⟨some 4, none, .prim (.mov (.tmp 22))⟩])
 .ret)
 (.seq (.ops [⟨some 24, none, .prim (.bin false .eql (.tmp 16) (.const (.int .i64 2)))⟩,
 ⟨some 23, none, .prim (.mov (.tmp 24))⟩])
 (.cond (.tmp 23)
 (.seq (.ops [⟨some 25, none, .prim (.mov (.tmp 5))⟩,
 ⟨some 26, none, .prim (.fadr 2 (.tmp 2))⟩,
 ⟨some 27, none, .prim (.load 1 false (.tmp 26))⟩,
 ⟨some 28, none, .prim (.bin false .neq (.tmp 25) (.tmp 27))⟩,
 ⟨some 4, none, .prim (.mov (.tmp 28))⟩])
 .ret)
 .skip))))))
 (.seq (.ops [⟨some 30, none, .prim (.load 3 true (.tmp 2))⟩,
 ⟨some 31, none, .call (.func 77) [(.tmp 30)]⟩,
 ⟨some 29, none, .prim (.mov (.tmp 31))⟩,
 ⟨some 32, none, .prim (.extr 0 (.tmp 29))⟩,
 ⟨some 33, none, .prim (.extr 1 (.tmp 29))⟩,
 ⟨some 6, none, .prim (.mov (.tmp 32))⟩,
 ⟨some 7, none, .prim (.mov (.tmp 33))⟩])
 (.seq (.draw [⟨⟨some 34, none, .prim (.mov (.tmp 7))⟩, [], false, 0, 0⟩,
 ⟨⟨some 35, none, .prim (.mov (.tmp 34))⟩, [0], false, 0, 0⟩,
 ⟨⟨some 36, (some (35, true)), .prim (.mov (.tmp 6))⟩, [0, 1], false, 0, 0⟩,
 ⟨⟨some 37, (some (35, true)), .prim (.mov (.tmp 5))⟩, [0, 1], false, 0, 0⟩,
 ⟨⟨some 38, (some (35, true)), .call (.func 79) [(.tmp 36), (.tmp 37)]⟩, [0, 1, 2, 3], true, 0, 0⟩,
 ⟨⟨some 39, (some (35, true)), .prim (.fadr 0 (.tmp 2))⟩, [0, 1], false, 0, 1⟩,
 ⟨⟨some 40, (some (35, true)), .prim (.load 1 false (.tmp 39))⟩, [0, 1, 5], false, 0, 1⟩,
 ⟨⟨some 41, (some (35, true)), .prim (.bin false .eql (.tmp 40) (.const (.int .i64 3)))⟩, [0, 1, 5, 6], false, 0, 1⟩,
 ⟨⟨some 42, (some (35, true)), .prim (.bin true .eql (.tmp 38) (.tmp 41))⟩, (List.range 8), false, 1, 1⟩,
 ⟨⟨some 43, none, .prim (.pick (.tmp 35) (.tmp 42) (.const (.bool false)))⟩, (List.range 9), false, 1, 1⟩,
 ⟨⟨some 4, none, .prim (.mov (.tmp 43))⟩, (List.range 10), false, 1, 1⟩])
 .ret))))))
def o58 : List Tmp := []
def r58 : List RV := [.tmp 4]
theorem t58 : Text Tryz.prog 58 o58 c58 r58 44 := ⟨⟨Tryz.f58, _, by kernel_rfl, by kernel_rfl, rfl, by kernel_rfl, by kernel_rfl, rfl⟩, by kernel_rfl⟩
def c61 : ACode :=
 (.seq (.ops [⟨some 3, none, .prim (.boxr (.tmp 1))⟩,
 ⟨some 4, none, .prim (.mov (.const (.string (ByteArray.mk #[]))))⟩])
 (.seq (.ops [⟨some 6, none, .prim (.mov (.tmp 0))⟩,
 ⟨some 7, none, .prim (.mkfn 83 [] [(.tmp 3)])⟩,
 ⟨some 8, none, .call (.func 82) [(.tmp 6), (.tmp 7)]⟩,
 ⟨some 5, none, .prim (.mov (.tmp 8))⟩])
 (.seq (.seq (.ops [⟨some 9, none, .prim (.mov (.tmp 5))⟩,
 ⟨some 10, none, .prim (.bin false .lss (.tmp 9) (.const (.int .i64 0)))⟩])
 (.cond (.tmp 10)
 (.seq (.ops [⟨some 4, none, .prim (.mov (.const (.string (ByteArray.mk #[]))))⟩])
 .ret)
 .skip))
 (.seq (.ops [⟨some 11, none, .prim (.mov (.tmp 0))⟩,
 ⟨some 12, none, .prim (.mov (.tmp 5))⟩,
 ⟨some 13, none, .prim (.iadrs 2 (.tmp 11) (.tmp 12))⟩,
 ⟨some 14, none, .prim (.fadr 1 (.tmp 13))⟩,
 ⟨some 15, none, .prim (.load 1 false (.tmp 14))⟩,
 ⟨some 4, none, .prim (.mov (.tmp 15))⟩])
 .ret))))
def o61 : List Tmp := []
def r61 : List RV := [.tmp 4]
theorem t61 : Text Tryz.prog 61 o61 c61 r61 16 := ⟨⟨Tryz.f61, _, by kernel_rfl, by kernel_rfl, rfl, by kernel_rfl, by kernel_rfl, rfl⟩, by kernel_rfl⟩
def c65 : ACode :=
 (.seq (.ops [⟨some 6, none, .prim (.mov (.const (.int .i64 0)))⟩])
 (.seq (.seq (.ops [⟨some 7, none, .prim (.mov (.tmp 0))⟩,
 ⟨some 8, none, .prim (.mov (.tmp 1))⟩,
 ⟨some 9, none, .prim (.bin false .geq (.tmp 7) (.tmp 8))⟩,
 ⟨some 10, none, .prim (.mov (.tmp 9))⟩,
 ⟨some 11, (some (10, true)), .prim (.mov (.tmp 0))⟩,
 ⟨some 12, (some (10, true)), .prim (.mov (.tmp 2))⟩,
 ⟨some 13, (some (10, true)), .prim (.bin false .leq (.tmp 11) (.tmp 12))⟩,
 ⟨some 14, none, .prim (.pick (.tmp 10) (.tmp 13) (.const (.bool false)))⟩])
 (.cond (.tmp 14)
 (.seq (.ops [⟨some 15, none, .prim (.mov (.tmp 0))⟩,
 ⟨some 6, none, .prim (.mov (.tmp 15))⟩])
 .ret)
 .skip))
 (.seq (.ops [⟨some 16, none, .prim (.mov (.tmp 0))⟩,
 ⟨some 17, none, .prim (.mov (.tmp 1))⟩,
 ⟨some 18, none, .prim (.mov (.tmp 2))⟩,
 ⟨some 19, none, .call (.func 44) [(.tmp 16), (.tmp 17), (.tmp 18)]⟩,
 ⟨some 6, none, .prim (.mov (.tmp 19))⟩])
 .ret)))
def o65 : List Tmp := []
def r65 : List RV := [.tmp 6]
theorem t65 : Text Tryz.prog 65 o65 c65 r65 20 := ⟨⟨Tryz.f65, _, by kernel_rfl, by kernel_rfl, rfl, by kernel_rfl, by kernel_rfl, rfl⟩, by kernel_rfl⟩
def c66 : ACode :=
 (.seq (.ops [⟨some 2, none, .prim (.mov (.const (.bool false)))⟩])
 (.seq (.seq (.ops [⟨some 4, none, .prim (.mov (.tmp 0))⟩,
 ⟨some 5, none, .prim (.lenv (.tmp 4))⟩,
 ⟨some 6, none, .prim (.bin false .lss (.tmp 5) (.const (.int .i64 1)))⟩,
 ⟨some 7, none, .prim (.mov (.tmp 6))⟩,
 ⟨some 8, (some (7, false)), .prim (.mov (.tmp 0))⟩,
 ⟨some 9, (some (7, false)), .prim (.lenv (.tmp 8))⟩,
 ⟨some 10, (some (7, false)), .prim (.bin false .gtr (.tmp 9) (.const (.int .i64 6)))⟩,
 ⟨some 11, none, .prim (.pick (.tmp 7) (.const (.bool true)) (.tmp 10))⟩])
 (.cond (.tmp 11)
 (.seq (.ops [⟨some 2, none, .prim (.mov (.const (.bool false)))⟩])
 .ret)
 .skip))
 (.seq (.seq (.ops [⟨some 3, none, .prim (.mov (.const (.int .i64 0)))⟩])
 (.block 0 (.loop [1, 2, 4, 5, 6, 7, 8, 9, 10, 11, 12, 13, 14, 15, 16, 17, 18, 19, 20, 21, 22, 23, 24, 25, 26, 27, 28, 29, 30, 31, 32, 33, 34, 35, 36, 37, 38, 39, 40, 41, 42, 43, 44, 45, 46, 47, 48, 49, 50, 51] (.seq (.seq (.ops [⟨some 12, none, .prim (.mov (.tmp 3))⟩,
 ⟨some 13, none, .prim (.mov (.tmp 0))⟩,
 ⟨some 14, none, .prim (.lenv (.tmp 13))⟩,
 ⟨some 15, none, .prim (.bin false .lss (.tmp 12) (.tmp 14))⟩])
 (.cond (.tmp 15)
 .skip
 (.exit 0)))
 (.seq (.block 1 (.seq (.draw [⟨⟨some 18, none, .prim (.mov (.tmp 0))⟩, [], false, 0, 0⟩,
 ⟨⟨some 19, none, .prim (.mov (.tmp 3))⟩, [], false, 0, 0⟩,
 ⟨⟨some 20, none, .prim (.iadrs 2 (.tmp 18) (.tmp 19))⟩, [0, 1], false, 0, 0⟩,
 ⟨⟨some 21, none, .prim (.fadr 0 (.tmp 20))⟩, [0, 1, 2], false, 0, 0⟩,
 ⟨⟨some 22, none, .prim (.load 1 false (.tmp 21))⟩, [0, 1, 2, 3], false, 0, 0⟩,
 ⟨⟨some 23, none, .call (.func 30) [(.tmp 22)]⟩, [0, 1, 2, 3, 4], true, 0, 0⟩,
 ⟨⟨some 24, none, .prim (.un .not (.tmp 23))⟩, (List.range 6), false, 1, 1⟩,
 ⟨⟨some 25, none, .prim (.mov (.tmp 24))⟩, (List.range 7), false, 1, 1⟩,
 ⟨⟨some 26, (some (25, false)), .prim (.mov (.tmp 0))⟩, (List.range 8), false, 1, 1⟩,
 ⟨⟨some 27, (some (25, false)), .prim (.mov (.tmp 3))⟩, (List.range 8), false, 1, 1⟩,
 ⟨⟨some 28, (some (25, false)), .prim (.iadrs 2 (.tmp 26) (.tmp 27))⟩, (List.range 10), false, 1, 1⟩,
 ⟨⟨some 29, (some (25, false)), .prim (.fadr 1 (.tmp 28))⟩, (List.range 11), false, 1, 1⟩,
 ⟨⟨some 30, (some (25, false)), .prim (.load 1 false (.tmp 29))⟩, (List.range 12), false, 1, 1⟩,
 ⟨⟨some 31, (some (25, false)), .call (.func 85) [(.tmp 30)]⟩, (List.range 13), true, 0, 0⟩,
 ⟨⟨some 32, (some (25, false)), .prim (.un .not (.tmp 31))⟩, (List.range 14), false, 2, 2⟩,
 ⟨⟨some 33, none, .prim (.pick (.tmp 25) (.const (.bool true)) (.tmp 32))⟩, (List.range 15), false, 2, 2⟩,
 ⟨⟨some 34, none, .prim (.mov (.tmp 33))⟩, (List.range 16), false, 2, 2⟩,
 ⟨⟨some 35, (some (34, false)), .prim (.mov (.tmp 3))⟩, (List.range 17), false, 2, 2⟩,
 ⟨⟨some 36, (some (34, false)), .prim (.bin false .gtr (.tmp 35) (.const (.int .i64 0)))⟩, (List.range 18), false, 2, 2⟩,
 ⟨⟨some 37, (some (34, false)), .prim (.mov (.tmp 36))⟩, (List.range 19), false, 2, 2⟩,
 ⟨⟨some 38, (some (37, true)), .prim (.mov (.tmp 0))⟩, (List.range 20), false, 2, 2⟩,
 ⟨⟨some 39, (some (37, true)), .prim (.mov (.tmp 3))⟩, (List.range 20), false, 2, 2⟩,
 ⟨⟨some 40, (some (37, true)), .prim (.iadrs 2 (.tmp 38) (.tmp 39))⟩, (List.range 22), false, 2, 2⟩,
 ⟨⟨some 41, (some (37, true)), .prim (.fadr 0 (.tmp 40))⟩, (List.range 23), false, 2, 2⟩,
 ⟨⟨some 42, (some (37, true)), .prim (.load 1 false (.tmp 41))⟩, (List.range 24), false, 2, 2⟩,
 ⟨⟨some 43, (some (37, true)), .prim (.mov (.tmp 0))⟩, (List.range 20), false, 2, 2⟩,
 ⟨⟨some 44, (some (37, true)), .prim (.mov (.tmp 3))⟩, (List.range 20), false, 2, 2⟩,
 ⟨⟨some 45, (some (37, true)), .prim (.bin false .sub (.tmp 44) (.const (.int .i64 1)))⟩, [0, 1, 2, 3, 4, 5, 6, 7, 8, 9, 10, 11, 12, 13, 14, 15, 16, 17, 18, 19, 26], false, 2, 2⟩,
 ⟨⟨some 46, (some (37, true)), .prim (.iadrs 2 (.tmp 43) (.tmp 45))⟩, [0, 1, 2, 3, 4, 5, 6, 7, 8, 9, 10, 11, 12, 13, 14, 15, 16, 17, 18, 19, 25, 26, 27], false, 2, 2⟩,
 ⟨⟨some 47, (some (37, true)), .prim (.fadr 0 (.tmp 46))⟩, [0, 1, 2, 3, 4, 5, 6, 7, 8, 9, 10, 11, 12, 13, 14, 15, 16, 17, 18, 19, 25, 26, 27, 28], false, 2, 2⟩,
 ⟨⟨some 48, (some (37, true)), .prim (.load 1 false (.tmp 47))⟩, [0, 1, 2, 3, 4, 5, 6, 7, 8, 9, 10, 11, 12, 13, 14, 15, 16, 17, 18, 19, 25, 26, 27, 28, 29], false, 2, 2⟩,
 ⟨⟨some 49, (some (37, true)), .prim (.bin false .leq (.tmp 42) (.tmp 48))⟩, (List.range 31), false, 2, 2⟩,
 ⟨⟨some 50, (some (34, false)), .prim (.pick (.tmp 37) (.tmp 49) (.const (.bool false)))⟩, (List.range 32), false, 2, 2⟩,
 ⟨⟨some 51, none, .prim (.pick (.tmp 34) (.const (.bool true)) (.tmp 50))⟩, (List.range 33), false, 2, 2⟩])
 (.cond (.tmp 51)
 (.seq (.ops [⟨some 2, none, .prim (.mov (.const (.bool false)))⟩])
 .ret)
 .skip)))
 (.ops [⟨some 16, none, .prim (.mov (.tmp 3))⟩,
 ⟨some 17, none, .prim (.bin false .add (.tmp 16) (.const (.int .i64 1)))⟩,
 ⟨some 3, none, .prim (.mov (.tmp 17))⟩]))))))
 (.seq (.ops [⟨some 2, none, .prim (.mov (.const (.bool true)))⟩])
 .ret))))
def o66 : List Tmp := []
def r66 : List RV := [.tmp 2]
theorem t66 : Text Tryz.prog 66 o66 c66 r66 52 := ⟨⟨Tryz.f66, _, by kernel_rfl, by kernel_rfl, rfl, by kernel_rfl, by kernel_rfl, rfl⟩, by kernel_rfl⟩
def c67 : ACode :=
 (.seq (.ops [⟨some 1, none, .prim (.boxr (.tmp 0))⟩,
 ⟨some 2, none, .prim (.mov (.const (.bool false)))⟩])
 (.seq (.ops [⟨some 3, none, .prim (.fadr 0 (.tmp 1))⟩,
 ⟨some 4, none, .prim (.load 1 false (.tmp 3))⟩,
 ⟨some 5, none, .prim (.bin false .eql (.tmp 4) (.const (.int .i64 3)))⟩,
 ⟨some 6, none, .prim (.mov (.tmp 5))⟩,
 ⟨some 7, (some (6, false)), .prim (.fadr 0 (.tmp 1))⟩,
 ⟨some 8, (some (6, false)), .prim (.load 1 false (.tmp 7))⟩,
 ⟨some 9, (some (6, false)), .prim (.bin false .eql (.tmp 8) (.const (.int .i64 4)))⟩,
 ⟨some 10, none, .prim (.pick (.tmp 6) (.const (.bool true)) (.tmp 9))⟩,
 ⟨some 2, none, .prim (.mov (.tmp 10))⟩])
 .ret))
def o67 : List Tmp := []
def r67 : List RV := [.tmp 2]
theorem t67 : Text Tryz.prog 67 o67 c67 r67 11 := ⟨⟨Tryz.f67, _, by kernel_rfl, by kernel_rfl, rfl, by kernel_rfl, by kernel_rfl, rfl⟩, by kernel_rfl⟩
def c68 : ACode :=
 (.seq (.ops [⟨some 2, none, .prim (.allocm [.pl (.int .i64 0), .pl (.int .u64 0), .pl (.int .u64 0), .pl (.int .u64 0), .pl (.int .u64 0), .nils])⟩,
 ⟨some 3, none, .prim (.mov (.const (.bool false)))⟩])
 (.seq (.ops [⟨some 6, none, .prim (.mov (.tmp 0))⟩,
 ⟨some 7, none, .prim (.mov (.tmp 0))⟩,
 ⟨some 8, none, .prim (.lens (.tmp 7))⟩,
 ⟨some 9, none, .prim (.bin false .gtr (.tmp 8) (.const (.int .i64 40)))⟩,
 ⟨some 10, none, .prim (.build [.pl (.string .empty), .pl (.int .i64 0), .pl (.bool false)] [(0, 1, (.tmp 6)), (2, 1, (.tmp 9))])⟩,
 ⟨some 11, none, .prim (.boxm (.tmp 10))⟩,
 ⟨some 4, none, .prim (.mov (.tmp 11))⟩])
 (.seq (.ops [⟨some 12, none, .prim (.mov (.tmp 4))⟩,
 ⟨some 13, none, .call (.func 86) [(.tmp 12), (.const (.int .i64 0))]⟩,
 ⟨some 5, none, .fresh 6 5 (.tmp 13)⟩])
 (.seq (.seq (.ops [⟨some 14, none, .prim (.mov (.tmp 4))⟩,
 ⟨some 15, none, .prim (.nilc (.tmp 14))⟩,
 ⟨some 16, none, .prim (.fadr 2 (.tmp 15))⟩,
 ⟨some 17, none, .prim (.load 1 false (.tmp 16))⟩,
 ⟨some 18, none, .prim (.mov (.tmp 17))⟩,
 ⟨some 19, (some (18, false)), .prim (.mov (.tmp 4))⟩,
 ⟨some 20, (some (18, false)), .prim (.nilc (.tmp 19))⟩,
 ⟨some 21, (some (18, false)), .prim (.fadr 1 (.tmp 20))⟩,
 ⟨some 22, (some (18, false)), .prim (.load 1 false (.tmp 21))⟩,
 ⟨some 23, (some (18, false)), .prim (.mov (.tmp 0))⟩,
 ⟨some 24, (some (18, false)), .prim (.lens (.tmp 23))⟩,
 ⟨some 25, (some (18, false)), .prim (.bin false .lss (.tmp 22) (.tmp 24))⟩,
 ⟨some 26, none, .prim (.pick (.tmp 18) (.const (.bool true)) (.tmp 25))⟩])
 (.cond (.tmp 26)
 (.seq (.ops [⟨some 27, none, .prim (.build [.pl (.int .i64 0), .pl (.int .u64 0), .pl (.int .u64 0), .pl (.int .u64 0), .pl (.int .u64 0), .nils] [])⟩,
 ⟨none, none, .prim (.store 6 (.tmp 2) (.tmp 27))⟩,
 ⟨some 3, none, .prim (.mov (.const (.bool false)))⟩])
 .ret)
 .skip))
 (.seq (.ops [⟨some 28, none, .prim (.load 6 true (.tmp 5))⟩,
 ⟨none, none, .prim (.store 6 (.tmp 2) (.tmp 28))⟩,
 ⟨some 3, none, .prim (.mov (.const (.bool true)))⟩])
 .ret)))))
def o68 : List Tmp := [2, 11]
def r68 : List RV := [.cell 2 6 true, .tmp 3]
theorem t68 : Text Tryz.prog 68 o68 c68 r68 29 := ⟨⟨Tryz.f68, _, by kernel_rfl, by kernel_rfl, rfl, by kernel_rfl, by kernel_rfl, rfl⟩, by kernel_rfl⟩
def c69 : ACode :=
 (.seq (.ops [⟨some 2, none, .prim (.mov (.const (.int .i64 0)))⟩])
 (.seq (.ops [⟨some 3, none, .prim (.mov (.const (.int .i64 0)))⟩])
 (.seq (.seq (.ops [⟨some 6, none, .prim (.mov (.tmp 0))⟩,
 ⟨some 7, none, .prim (.lenv (.tmp 6))⟩,
 ⟨some 8, none, .prim (.mov (.const (.int .i64 0)))⟩])
 (.block 0 (.loop [0, 1, 2, 4, 5, 9, 10, 11, 12, 13, 14, 15, 16, 17] (.seq (.ops [⟨some 9, none, .prim (.bin false .lss (.tmp 8) (.tmp 7))⟩])
 (.seq (.cond (.tmp 9)
 .skip
 (.exit 0))
 (.seq (.block 1 (.seq (.ops [⟨some 10, none, .prim (.iadrs 1 (.tmp 6) (.tmp 8))⟩,
 ⟨some 11, none, .prim (.load 1 false (.tmp 10))⟩,
 ⟨some 5, none, .prim (.mov (.tmp 11))⟩])
 (.seq (.ops [⟨some 12, none, .prim (.mov (.tmp 5))⟩,
 ⟨some 13, none, .prim (.mov (.tmp 3))⟩,
 ⟨some 14, none, .prim (.bin false .neq (.tmp 12) (.tmp 13))⟩])
 (.cond (.tmp 14)
 (.seq (.ops [⟨some 15, none, .prim (.mov (.tmp 5))⟩,
 ⟨some 2, none, .prim (.mov (.tmp 15))⟩])
 .ret)
 .skip))))
 (.ops [⟨some 16, none, .prim (.bin false .add (.tmp 8) (.const (.int .i64 1)))⟩,
 ⟨some 8, none, .prim (.mov (.tmp 16))⟩])))))))
 (.seq (.ops [⟨some 17, none, .prim (.mov (.tmp 3))⟩,
 ⟨some 2, none, .prim (.mov (.tmp 17))⟩])
 .ret))))
def o69 : List Tmp := []
def r69 : List RV := [.tmp 2]
theorem t69 : Text Tryz.prog 69 o69 c69 r69 18 := ⟨⟨Tryz.f69, _, by kernel_rfl, by kernel_rfl, rfl, by kernel_rfl, by kernel_rfl, rfl⟩, by kernel_rfl⟩
def c70 : ACode :=
 (.seq (.ops [⟨some 4, none, .prim (.mov (.const (.int .i64 0)))⟩])
 (.seq (.ops [⟨some 5, none, .prim (.mov (.tmp 0))⟩,
 ⟨some 6, none, .prim (.mov (.tmp 1))⟩,
 ⟨some 7, none, .call (.func 87) [(.tmp 5), (.tmp 6)]⟩,
 ⟨some 4, none, .prim (.mov (.tmp 7))⟩])
 .ret))
def o70 : List Tmp := []
def r70 : List RV := [.tmp 4]
theorem t70 : Text Tryz.prog 70 o70 c70 r70 8 := ⟨⟨Tryz.f70, _, by kernel_rfl, by kernel_rfl, rfl, by kernel_rfl, by kernel_rfl, rfl⟩, by kernel_rfl⟩
def c71 : ACode :=
 (.seq (.ops [⟨some 4, none, .prim (.mov (.const (.int .i64 0)))⟩])
 (.seq (.ops [⟨some 7, none, .prim (.mov (.tmp 0))⟩,
 ⟨some 8, none, .call (.func 88) [(.tmp 7)]⟩,
 ⟨some 5, none, .prim (.mov (.tmp 8))⟩])
 (.seq (.ops [⟨some 9, none, .prim (.mov (.tmp 1))⟩,
 ⟨some 10, none, .call (.func 88) [(.tmp 9)]⟩,
 ⟨some 6, none, .prim (.mov (.tmp 10))⟩])
 (.seq (.seq (.ops [⟨some 11, none, .prim (.mov (.tmp 5))⟩])
 (.cond (.tmp 11)
 (.seq (.seq (.ops [⟨some 12, none, .prim (.mov (.tmp 6))⟩])
 (.cond (.tmp 12)
 (.seq (.ops [⟨some 4, none, .prim (.mov (.const (.int .i64 0)))⟩])
 .ret)
 .skip))
 (.seq (.ops [⟨some 4, none, .prim (.mov (.const (.int .i64 (-1))))⟩])
 .ret))
 .skip))
 (.seq (.seq (.ops [⟨some 13, none, .prim (.mov (.tmp 6))⟩])
 (.cond (.tmp 13)
 (.seq (.ops [⟨some 4, none, .prim (.mov (.const (.int .i64 1)))⟩])
 .ret)
 .skip))
 (.seq (.seq (.ops [⟨some 14, none, .prim (.mov (.tmp 0))⟩,
 ⟨some 15, none, .prim (.mov (.tmp 1))⟩,
 ⟨some 16, none, .prim (.bin false .lss (.tmp 14) (.tmp 15))⟩])
 (.cond (.tmp 16)
 (.seq (.ops [⟨some 4, none, .prim (.mov (.const (.int .i64 (-1))))⟩])
 .ret)
 .skip))
 (.seq (.seq (.ops [⟨some 17, none, .prim (.mov (.tmp 0))⟩,
 ⟨some 18, none, .prim (.mov (.tmp 1))⟩,
 ⟨some 19, none, .prim (.bin false .gtr (.tmp 17) (.tmp 18))⟩])
 (.cond (.tmp 19)
 (.seq (.ops [⟨some 4, none, .prim (.mov (.const (.int .i64 1)))⟩])
 .ret)
 .skip))
 (.seq (.ops [⟨some 4, none, .prim (.mov (.const (.int .i64 0)))⟩])
 .ret))))))))
def o71 : List Tmp := []
def r71 : List RV := [.tmp 4]
theorem t71 : Text Tryz.prog 71 o71 c71 r71 20 := ⟨⟨Tryz.f71, _, by kernel_rfl, by kernel_rfl, rfl, by kernel_rfl, by kernel_rfl, rfl⟩, by kernel_rfl⟩
def c72 : ACode :=
 (.seq (.ops [⟨some 2, none, .prim (.mov (.const (.bool false)))⟩])
 (.seq (.ops [⟨some 3, none, .prim (.mov (.tmp 0))⟩,
 ⟨some 4, none, .prim (.mov (.tmp 0))⟩,
 ⟨some 5, none, .prim (.bin false .neq (.tmp 3) (.tmp 4))⟩,
 ⟨some 2, none, .prim (.mov (.tmp 5))⟩])
 .ret))
def o72 : List Tmp := []
def r72 : List RV := [.tmp 2]
theorem t72 : Text Tryz.prog 72 o72 c72 r72 6 := ⟨⟨Tryz.f72, _, by kernel_rfl, by kernel_rfl, rfl, by kernel_rfl, by kernel_rfl, rfl⟩, by kernel_rfl⟩
def c74 : ACode :=
 (.seq (.ops [⟨some 1, none, .prim (.boxr (.tmp 0))⟩,
 ⟨some 2, none, .prim (.mov (.const (.bool false)))⟩])
 (.seq (.ops [⟨some 3, none, .prim (.fadr 0 (.tmp 1))⟩,
 ⟨some 4, none, .prim (.load 1 false (.tmp 3))⟩,
 ⟨some 5, none, .prim (.bin false .eql (.tmp 4) (.const (.int .i64 3)))⟩,
 ⟨some 6, none, .prim (.mov (.tmp 5))⟩,
 ⟨some 7, (some (6, false)), .prim (.fadr 0 (.tmp 1))⟩,
 ⟨some 8, (some (6, false)), .prim (.load 1 false (.tmp 7))⟩,
 ⟨some 9, (some (6, false)), .prim (.bin false .eql (.tmp 8) (.const (.int .i64 4)))⟩,
 ⟨some 10, none, .prim (.pick (.tmp 6) (.const (.bool true)) (.tmp 9))⟩,
 ⟨some 2, none, .prim (.mov (.tmp 10))⟩])
 .ret))
def o74 : List Tmp := []
def r74 : List RV := [.tmp 2]
theorem t74 : Text Tryz.prog 74 o74 c74 r74 11 := ⟨⟨Tryz.f74, _, by kernel_rfl, by kernel_rfl, rfl, by kernel_rfl, by kernel_rfl, rfl⟩, by kernel_rfl⟩
def c75 : ACode :=
 (.seq (.ops [⟨some 2, none, .prim (.allocm [.pl (.int .i64 0), .pl (.int .u64 0), .pl (.int .u64 0), .pl (.int .u64 0), .pl (.int .u64 0), .nils])⟩,
 ⟨some 3, none, .prim (.mov (.const (.bool false)))⟩])
 (.seq (.seq (.ops [⟨some 6, none, .prim (.mov (.tmp 0))⟩,
 ⟨some 7, none, .prim (.lens (.tmp 6))⟩,
 ⟨some 8, none, .prim (.bin false .gtr (.tmp 7) (.const (.int .i64 40)))⟩])
 (.cond (.tmp 8)
 (.seq (.ops [⟨some 9, none, .prim (.build [.pl (.int .i64 0), .pl (.int .u64 0), .pl (.int .u64 0), .pl (.int .u64 0), .pl (.int .u64 0), .nils] [])⟩,
 ⟨none, none, .prim (.store 6 (.tmp 2) (.tmp 9))⟩,
 ⟨some 3, none, .prim (.mov (.const (.bool false)))⟩])
 .ret)
 .skip))
 (.seq (.ops [⟨some 10, none, .prim (.mov (.tmp 0))⟩,
 ⟨some 11, none, .prim (.build [.pl (.string .empty), .pl (.int .i64 0), .pl (.int .i64 0), .pl (.bool false)] [(0, 1, (.tmp 10))])⟩,
 ⟨some 12, none, .prim (.boxm (.tmp 11))⟩,
 ⟨some 4, none, .prim (.mov (.tmp 12))⟩])
 (.seq (.ops [⟨some 13, none, .prim (.mov (.tmp 4))⟩,
 ⟨some 14, none, .call (.func 89) [(.tmp 13)]⟩,
 ⟨some 5, none, .fresh 6 5 (.tmp 14)⟩])
 (.seq (.seq (.ops [⟨some 15, none, .prim (.mov (.tmp 4))⟩,
 ⟨some 16, none, .prim (.nilc (.tmp 15))⟩,
 ⟨some 17, none, .prim (.fadr 3 (.tmp 16))⟩,
 ⟨some 18, none, .prim (.load 1 false (.tmp 17))⟩,
 ⟨some 19, none, .prim (.mov (.tmp 18))⟩,
 ⟨some 20, (some (19, false)), .prim (.mov (.tmp 4))⟩,
 ⟨some 21, (some (19, false)), .prim (.nilc (.tmp 20))⟩,
 ⟨some 22, (some (19, false)), .prim (.fadr 1 (.tmp 21))⟩,
 ⟨some 23, (some (19, false)), .prim (.load 1 false (.tmp 22))⟩,
 ⟨some 24, (some (19, false)), .prim (.mov (.tmp 0))⟩,
 ⟨some 25, (some (19, false)), .prim (.lens (.tmp 24))⟩,
 ⟨some 26, (some (19, false)), .prim (.bin false .lss (.tmp 23) (.tmp 25))⟩,
 ⟨some 27, none, .prim (.pick (.tmp 19) (.const (.bool true)) (.tmp 26))⟩])
 (.cond (.tmp 27)
 (.seq (.ops [⟨some 28, none, .prim (.build [.pl (.int .i64 0), .pl (.int .u64 0), .pl (.int .u64 0), .pl (.int .u64 0), .pl (.int .u64 0), .nils] [])⟩,
 ⟨none, none, .prim (.store 6 (.tmp 2) (.tmp 28))⟩,
 ⟨some 3, none, .prim (.mov (.const (.bool false)))⟩])
 .ret)
 .skip))
 (.seq (.ops [⟨some 29, none, .prim (.load 6 true (.tmp 5))⟩,
 ⟨none, none, .prim (.store 6 (.tmp 2) (.tmp 29))⟩,
 ⟨some 3, none, .prim (.mov (.const (.bool true)))⟩])
 .ret))))))
def o75 : List Tmp := [2, 12]
def r75 : List RV := [.cell 2 6 true, .tmp 3]
theorem t75 : Text Tryz.prog 75 o75 c75 r75 30 := ⟨⟨Tryz.f75, _, by kernel_rfl, by kernel_rfl, rfl, by kernel_rfl, by kernel_rfl, rfl⟩, by kernel_rfl⟩
def c76 : ACode :=
 (.seq (.ops [⟨some 4, none, .prim (.mov (.const (.int .i64 0)))⟩])
 (.seq (.seq (.ops [⟨some 6, none, .prim (.mov (.tmp 0))⟩,
 ⟨some 7, none, .prim (.lenv (.tmp 6))⟩,
 ⟨some 8, none, .prim (.mov (.const (.int .i64 0)))⟩])
 (.block 0 (.loop [2, 3, 4, 5, 6, 9, 10, 11, 12, 13, 14, 15, 16, 17, 18] (.seq (.ops [⟨some 9, none, .prim (.bin false .lss (.tmp 8) (.tmp 7))⟩])
 (.seq (.cond (.tmp 9)
 .skip
 (.exit 0))
 (.seq (.block 1 (.seq (.ops [⟨some 10, none, .prim (.mov (.tmp 8))⟩,
 ⟨some 5, none, .prim (.mov (.tmp 10))⟩])
 (.seq (.ops [⟨some 11, none, .prim (.mov (.tmp 1))⟩,
 ⟨some 12, none, .prim (.mov (.tmp 0))⟩,
 ⟨some 13, none, .prim (.mov (.tmp 5))⟩,
 ⟨some 14, none, .prim (.iadrs 3 (.tmp 12) (.tmp 13))⟩,
 ⟨some 15, none, .prim (.load 3 true (.tmp 14))⟩,
 ⟨some 16, none, .call (.tmp 11) [(.tmp 15)]⟩])
 (.cond (.tmp 16)
 (.seq (.ops [⟨some 17, none, .prim (.mov (.tmp 5))⟩,
 ⟨some 4, none, .prim (.mov (.tmp 17))⟩])
 .ret)
 .skip))))
 (.ops [⟨some 18, none, .prim (.bin false .add (.tmp 8) (.const (.int .i64 1)))⟩,
 ⟨some 8, none, .prim (.mov (.tmp 18))⟩])))))))
 (.seq (.ops [⟨some 4, none, .prim (.mov (.const (.int .i64 (-1))))⟩])
 .ret)))
def o76 : List Tmp := []
def r76 : List RV := [.tmp 4]
theorem t76 : Text Tryz.prog 76 o76 c76 r76 19 := ⟨⟨Tryz.f76, _, by kernel_rfl, by kernel_rfl, rfl, by kernel_rfl, by kernel_rfl, rfl⟩, by kernel_rfl⟩
def c77 : ACode :=
 (.seq (.ops [⟨some 1, none, .prim (.boxr (.tmp 0))⟩,
 ⟨some 2, none, .prim (.mov (.const (.slice none 0 0)))⟩,
 ⟨some 3, none, .prim (.mov (.const (.bool false)))⟩])
 (.seq (.ops [⟨some 7, none, .prim (.fadr 2 (.tmp 1))⟩,
 ⟨some 8, none, .prim (.load 1 false (.tmp 7))⟩,
 ⟨some 9, none, .call (.func 68) [(.tmp 8)]⟩,
 ⟨some 6, none, .prim (.mov (.tmp 9))⟩,
 ⟨some 10, none, .prim (.extr 0 (.tmp 6))⟩,
 ⟨some 11, none, .prim (.extr 1 (.tmp 6))⟩,
 ⟨some 4, none, .fresh 6 4 (.tmp 10)⟩,
 ⟨some 5, none, .prim (.mov (.tmp 11))⟩])
 (.seq (.seq (.ops [⟨some 12, none, .prim (.mov (.tmp 5))⟩,
 ⟨some 13, none, .prim (.un .not (.tmp 12))⟩])
 (.cond (.tmp 13)
 (.seq (.ops [⟨some 2, none, .prim (.mov (.const (.slice none 0 0)))⟩,
 ⟨some 3, none, .prim (.mov (.const (.bool false)))⟩])
 (.ghost (.shut 2) .ret))
 .skip))
 (.seq (.ops [⟨some 14, none, .prim (.load 6 true (.tmp 4))⟩,
 ⟨some 15, none, .call (.func 90) [(.tmp 14)]⟩,
 ⟨some 16, none, .prim (.extr 0 (.tmp 15))⟩,
 ⟨some 17, none, .prim (.extr 1 (.tmp 15))⟩,
 ⟨some 2, none, .prim (.mov (.tmp 16))⟩,
 ⟨some 3, none, .prim (.mov (.tmp 17))⟩])
 (.ghost (.shut 2) .ret)))))
def o77 : List Tmp := []
def r77 : List RV := [.tmp 2, .tmp 3]
theorem t77 : Text Tryz.prog 77 o77 c77 r77 18 := ⟨⟨Tryz.f77, _, by kernel_rfl, by kernel_rfl, rfl, by kernel_rfl, by kernel_rfl, rfl⟩, by kernel_rfl⟩
def c78 : ACode :=
 (.seq (.ops [⟨some 1, none, .prim (.boxr (.tmp 0))⟩,
 ⟨some 2, none, .prim (.mov (.const (.int .i64 0)))⟩])
 (.seq (.seq (.ops [⟨some 3, none, .prim (.load 6 true (.tmp 1))⟩,
 ⟨some 4, none, .call (.func 91) [(.tmp 3)]⟩,
 ⟨some 5, none, .prim (.un .not (.tmp 4))⟩])
 (.cond (.tmp 5)
 (.seq (.ops [⟨some 2, none, .prim (.mov (.const (.int .i64 0)))⟩])
 .ret)
 .skip))
 (.seq (.ops [⟨some 6, none, .prim (.load 6 true (.tmp 1))⟩,
 ⟨some 7, none, .call (.func 92) [(.tmp 6)]⟩,
 ⟨some 8, none, .prim (.bin false .add (.tmp 7) (.const (.int .i64 1)))⟩,
 ⟨some 2, none, .prim (.mov (.tmp 8))⟩])
 .ret)))
def o78 : List Tmp := []
def r78 : List RV := [.tmp 2]
theorem t78 : Text Tryz.prog 78 o78 c78 r78 9 := ⟨⟨Tryz.f78, _, by kernel_rfl, by kernel_rfl, rfl, by kernel_rfl, by kernel_rfl, rfl⟩, by kernel_rfl⟩
def c79 : ACode :=
 (.seq (.ops [⟨some 4, none, .prim (.mov (.const (.bool false)))⟩])
 (.seq (.seq (.ops [⟨some 9, none, .prim (.mov (.tmp 0))⟩,
 ⟨some 10, none, .call (.func 93) [(.tmp 9)]⟩,
 ⟨some 11, none, .prim (.un .not (.tmp 10))⟩])
 (.cond (.tmp 11)
 (.seq (.ops [⟨some 4, none, .prim (.mov (.const (.bool false)))⟩])
 .ret)
 .skip))
 (.seq (.ops [⟨some 12, none, .prim (.mov (.tmp 0))⟩,
 ⟨some 13, none, .call (.func 94) [(.tmp 12)]⟩,
 ⟨some 5, none, .prim (.mov (.tmp 13))⟩])
 (.seq (.seq (.ops [⟨some 14, none, .prim (.mov (.tmp 1))⟩,
 ⟨some 15, none, .prim (.lens (.tmp 14))⟩,
 ⟨some 16, none, .prim (.mov (.const (.int .i64 0)))⟩])
 (.block 0 (.loop [2, 3, 4, 6, 7, 8, 9, 10, 11, 12, 13, 14, 17, 18, 19, 20, 21, 22, 23, 24, 25, 26, 27, 28, 29, 30, 31, 32, 33, 34, 35, 36, 37, 38, 39, 40, 41, 42, 43] (.seq (.ops [⟨some 17, none, .prim (.bin false .lss (.tmp 16) (.tmp 15))⟩])
 (.seq (.cond (.tmp 17)
 .skip
 (.exit 0))
 (.seq (.block 1 (.seq (.ops [⟨some 18, none, .prim (.mov (.tmp 16))⟩,
 ⟨some 6, none, .prim (.mov (.tmp 18))⟩])
 (.ops [⟨some 19, none, .prim (.mov (.tmp 0))⟩,
 ⟨some 20, none, .prim (.mov (.tmp 5))⟩,
 ⟨some 21, none, .prim (.mov (.tmp 1))⟩,
 ⟨some 22, none, .prim (.mov (.tmp 6))⟩,
 ⟨some 23, none, .prim (.idxs (.tmp 21) (.tmp 22))⟩,
 ⟨some 24, none, .call (.func 95) [(.tmp 19), (.tmp 20), (.tmp 23)]⟩,
 ⟨some 5, none, .prim (.mov (.tmp 24))⟩])))
 (.ops [⟨some 25, none, .prim (.bin false .add (.tmp 16) (.const (.int .i64 1)))⟩,
 ⟨some 16, none, .prim (.mov (.tmp 25))⟩])))))))
 (.seq (.seq (.ops [⟨some 26, none, .prim (.mov (.tmp 0))⟩,
 ⟨some 27, none, .prim (.lenv (.tmp 26))⟩,
 ⟨some 28, none, .prim (.mov (.const (.int .i64 0)))⟩])
 (.block 2 (.loop [0, 1, 2, 3, 4, 6, 7, 8, 9, 10, 11, 12, 13, 14, 15, 16, 17, 18, 19, 20, 21, 22, 23, 24, 25, 29, 30, 31, 32, 33, 34, 35, 36, 37, 38, 39, 40, 41, 42, 43] (.seq (.ops [⟨some 29, none, .prim (.bin false .lss (.tmp 28) (.tmp 27))⟩])
 (.seq (.cond (.tmp 29)
 .skip
 (.exit 2))
 (.seq (.block 3 (.seq (.ops [⟨some 30, none, .prim (.mov (.tmp 28))⟩,
 ⟨some 31, none, .prim (.iadrs 7 (.tmp 26) (.tmp 28))⟩,
 ⟨some 32, none, .prim (.load 7 true (.tmp 31))⟩,
 ⟨some 8, none, .prim (.allocm [.pl (.int .i64 0), .pl (.int .u64 0), .pl (.int .u64 0), .pl (.int .u64 0), .pl (.int .u64 0), .pl (.int .i64 0), .pl (.int .i64 0)])⟩,
 ⟨some 7, none, .prim (.mov (.tmp 30))⟩,
 ⟨none, none, .prim (.store 7 (.tmp 8) (.tmp 32))⟩])
 (.seq (.ops [⟨some 33, none, .prim (.mov (.tmp 5))⟩,
 ⟨some 34, none, .prim (.mov (.tmp 7))⟩,
 ⟨some 35, none, .prim (.bin false .shr (.tmp 33) (.tmp 34))⟩,
 ⟨some 36, none, .prim (.bin false .and (.tmp 35) (.const (.int .u64 1)))⟩,
 ⟨some 37, none, .prim (.bin false .eql (.tmp 36) (.const (.int .u64 1)))⟩,
 ⟨some 38, none, .prim (.mov (.tmp 37))⟩,
 ⟨some 39, (some (38, true)), .prim (.fadr 0 (.tmp 8))⟩,
 ⟨some 40, (some (38, true)), .prim (.load 1 false (.tmp 39))⟩,
 ⟨some 41, (some (38, true)), .prim (.bin false .eql (.tmp 40) (.const (.int .i64 4)))⟩,
 ⟨some 42, none, .prim (.pick (.tmp 38) (.tmp 41) (.const (.bool false)))⟩])
 (.cond (.tmp 42)
 (.seq (.ops [⟨some 4, none, .prim (.mov (.const (.bool true)))⟩])
 .ret)
 .skip))))
 (.after (.after (.ops [⟨some 43, none, .prim (.bin false .add (.tmp 28) (.const (.int .i64 1)))⟩,
 ⟨some 28, none, .prim (.mov (.tmp 43))⟩]) (.clear [8, 39])) (.keep 0))))))))
 (.seq (.ops [⟨some 4, none, .prim (.mov (.const (.bool false)))⟩])
 .ret))))))
def o79 : List Tmp := [8]
def r79 : List RV := [.tmp 4]
theorem t79 : Text Tryz.prog 79 o79 c79 r79 44 := ⟨⟨Tryz.f79, _, by kernel_rfl, by kernel_rfl, rfl, by kernel_rfl, by kernel_rfl, rfl⟩, by kernel_rfl⟩
def c82 : ACode :=
 (.seq (.ops [⟨some 4, none, .prim (.mov (.const (.int .i64 0)))⟩])
 (.seq (.seq (.ops [⟨some 6, none, .prim (.mov (.tmp 0))⟩,
 ⟨some 7, none, .prim (.lenv (.tmp 6))⟩,
 ⟨some 8, none, .prim (.mov (.const (.int .i64 0)))⟩])
 (.block 0 (.loop [2, 3, 4, 5, 6, 9, 10, 11, 12, 13, 14, 15, 16, 17, 18] (.seq (.ops [⟨some 9, none, .prim (.bin false .lss (.tmp 8) (.tmp 7))⟩])
 (.seq (.cond (.tmp 9)
 .skip
 (.exit 0))
 (.seq (.block 1 (.seq (.ops [⟨some 10, none, .prim (.mov (.tmp 8))⟩,
 ⟨some 5, none, .prim (.mov (.tmp 10))⟩])
 (.seq (.ops [⟨some 11, none, .prim (.mov (.tmp 1))⟩,
 ⟨some 12, none, .prim (.mov (.tmp 0))⟩,
 ⟨some 13, none, .prim (.mov (.tmp 5))⟩,
 ⟨some 14, none, .prim (.iadrs 2 (.tmp 12) (.tmp 13))⟩,
 ⟨some 15, none, .prim (.load 2 true (.tmp 14))⟩,
 ⟨some 16, none, .call (.tmp 11) [(.tmp 15)]⟩])
 (.cond (.tmp 16)
 (.seq (.ops [⟨some 17, none, .prim (.mov (.tmp 5))⟩,
 ⟨some 4, none, .prim (.mov (.tmp 17))⟩])
 .ret)
 .skip))))
 (.ops [⟨some 18, none, .prim (.bin false .add (.tmp 8) (.const (.int .i64 1)))⟩,
 ⟨some 8, none, .prim (.mov (.tmp 18))⟩])))))))
 (.seq (.ops [⟨some 4, none, .prim (.mov (.const (.int .i64 (-1))))⟩])
 .ret)))
def o82 : List Tmp := []
def r82 : List RV := [.tmp 4]
theorem t82 : Text Tryz.prog 82 o82 c82 r82 19 := ⟨⟨Tryz.f82, _, by kernel_rfl, by kernel_rfl, rfl, by kernel_rfl, by kernel_rfl, rfl⟩, by kernel_rfl⟩
def c83 : ACode :=
 (.seq (.ops [⟨some 2, none, .prim (.boxr (.tmp 0))⟩,
 ⟨some 3, none, .prim (.mov (.const (.bool false)))⟩])
 (.seq (.ops [⟨some 4, none, .prim (.fadr 0 (.tmp 2))⟩,
 ⟨some 5, none, .prim (.load 1 false (.tmp 4))⟩,
 ⟨some 6, none, .prim (.load 1 false (.tmp 1))⟩,
 ⟨some 7, none, .prim (.bin false .eql (.tmp 5) (.tmp 6))⟩,
 ⟨some 3, none, .prim (.mov (.tmp 7))⟩])
 .ret))
def o83 : List Tmp := []
def r83 : List RV := [.tmp 3]
theorem t83 : Text Tryz.prog 83 o83 c83 r83 8 := ⟨⟨Tryz.f83, _, by kernel_rfl, by kernel_rfl, rfl, by kernel_rfl, by kernel_rfl, rfl⟩, by kernel_rfl⟩
def c85 : ACode :=
 (.seq (.ops [⟨some 2, none, .prim (.mov (.const (.bool false)))⟩])
 (.seq (.ops [⟨some 3, none, .prim (.mov (.tmp 0))⟩,
 ⟨some 4, none, .prim (.lens (.tmp 3))⟩,
 ⟨some 5, none, .prim (.bin false .geq (.tmp 4) (.const (.int .i64 1)))⟩,
 ⟨some 6, none, .prim (.mov (.tmp 5))⟩,
 ⟨some 7, (some (6, true)), .prim (.mov (.tmp 0))⟩,
 ⟨some 8, (some (6, true)), .prim (.lens (.tmp 7))⟩,
 ⟨some 9, (some (6, true)), .prim (.bin false .leq (.tmp 8) (.const (.int .i64 24)))⟩,
 ⟨some 10, none, .prim (.pick (.tmp 6) (.tmp 9) (.const (.bool false)))⟩,
 ⟨some 2, none, .prim (.mov (.tmp 10))⟩])
 .ret))
def o85 : List Tmp := []
def r85 : List RV := [.tmp 2]
theorem t85 : Text Tryz.prog 85 o85 c85 r85 11 := ⟨⟨Tryz.f85, _, by kernel_rfl, by kernel_rfl, rfl, by kernel_rfl, by kernel_rfl, rfl⟩, by kernel_rfl⟩
def c86 : ACode :=
 (.seq (.ops [⟨some 4, none, .prim (.allocm [.pl (.int .i64 0), .pl (.int .u64 0), .pl (.int .u64 0), .pl (.int .u64 0), .pl (.int .u64 0), .nils])⟩])
 (.seq (.ops [⟨some 6, none, .prim (.mov (.tmp 0))⟩,
 ⟨some 7, none, .prim (.mov (.tmp 1))⟩,
 ⟨some 8, none, .call (.func 97) [(.tmp 6), (.tmp 7)]⟩,
 ⟨some 9, none, .prim (.bsl true 6 true 1 [.pl (.int .i64 0), .pl (.int .u64 0), .pl (.int .u64 0), .pl (.int .u64 0), .pl (.int .u64 0), .nils] [(0, 6, (.tmp 8))])⟩,
 ⟨some 5, none, .prim (.mov (.tmp 9))⟩])
 (.seq (.block 0 (.loop [2, 3, 6, 7, 8, 9, 10, 11, 12, 13, 14, 15, 16, 17, 18, 19, 20, 21, 22, 23, 24, 25] (.seq (.seq (.ops [⟨some 10, none, .prim (.mov (.tmp 0))⟩,
 ⟨some 11, none, .call (.func 98) [(.tmp 10), (.const (.int .u8 124))]⟩])
 (.cond (.tmp 11)
 .skip
 (.exit 0)))
 (.block 1 (.ops [⟨some 12, none, .prim (.mov (.tmp 5))⟩,
 ⟨some 13, none, .prim (.mov (.tmp 0))⟩,
 ⟨some 14, none, .prim (.mov (.tmp 1))⟩,
 ⟨some 15, none, .call (.func 97) [(.tmp 13), (.tmp 14)]⟩,
 ⟨some 16, none, .prim (.bsl false 6 true 1 [.pl (.int .i64 0), .pl (.int .u64 0), .pl (.int .u64 0), .pl (.int .u64 0), .pl (.int .u64 0), .nils] [(0, 6, (.tmp 15))])⟩,
 ⟨some 17, none, .prim (.app 6 (.tmp 12) (.tmp 16))⟩,
 ⟨some 5, none, .prim (.mov (.tmp 17))⟩])))))
 (.seq (.seq (.ops [⟨some 18, none, .prim (.mov (.tmp 5))⟩,
 ⟨some 19, none, .prim (.lenv (.tmp 18))⟩,
 ⟨some 20, none, .prim (.bin false .eql (.tmp 19) (.const (.int .i64 1)))⟩])
 (.cond (.tmp 20)
 (.seq (.ops [⟨some 21, none, .prim (.mov (.tmp 5))⟩,
 ⟨some 22, none, .prim (.iadrs 6 (.tmp 21) (.const (.int .i64 0)))⟩,
 ⟨some 23, none, .prim (.load 6 true (.tmp 22))⟩,
 ⟨none, none, .prim (.store 6 (.tmp 4) (.tmp 23))⟩])
 .ret)
 .skip))
 (.seq (.ghost (.shut 5) (.ops [⟨some 24, none, .prim (.mov (.tmp 5))⟩,
 ⟨some 25, none, .prim (.build [.pl (.int .i64 0), .pl (.int .u64 0), .pl (.int .u64 0), .pl (.int .u64 0), .pl (.int .u64 0), .nils] [(0, 1, (.const (.int .i64 3))), (5, 1, (.tmp 24))])⟩,
 ⟨none, none, .prim (.store 6 (.tmp 4) (.tmp 25))⟩]))
 .ret)))))
def o86 : List Tmp := [4, 9]
def r86 : List RV := [.cell 4 6 true]
theorem t86 : Text Tryz.prog 86 o86 c86 r86 26 := ⟨⟨Tryz.f86, _, by kernel_rfl, by kernel_rfl, rfl, by kernel_rfl, by kernel_rfl, rfl⟩, by kernel_rfl⟩
def c87 : ACode :=
 (.seq (.ops [⟨some 4, none, .prim (.mov (.const (.int .i64 0)))⟩])
 (.seq (.ops [⟨some 5, none, .prim (.mov (.tmp 0))⟩,
 ⟨some 6, none, .prim (.mov (.tmp 1))⟩,
 ⟨some 7, none, .call (.func 99) [(.tmp 5), (.tmp 6)]⟩,
 ⟨some 4, none, .prim (.mov (.tmp 7))⟩])
 .ret))
def o87 : List Tmp := []
def r87 : List RV := [.tmp 4]
theorem t87 : Text Tryz.prog 87 o87 c87 r87 8 := ⟨⟨Tryz.f87, _, by kernel_rfl, by kernel_rfl, rfl, by kernel_rfl, by kernel_rfl, rfl⟩, by kernel_rfl⟩
def c88 : ACode :=
 (.seq (.ops [⟨some 2, none, .prim (.mov (.const (.bool false)))⟩])
 (.seq (.ops [⟨some 3, none, .prim (.mov (.tmp 0))⟩,
 ⟨some 4, none, .prim (.mov (.tmp 0))⟩,
 ⟨some 5, none, .prim (.bin false .neq (.tmp 3) (.tmp 4))⟩,
 ⟨some 2, none, .prim (.mov (.tmp 5))⟩])
 .ret))
def o88 : List Tmp := []
def r88 : List RV := [.tmp 2]
theorem t88 : Text Tryz.prog 88 o88 c88 r88 6 := ⟨⟨Tryz.f88, _, by kernel_rfl, by kernel_rfl, rfl, by kernel_rfl, by kernel_rfl, rfl⟩, by kernel_rfl⟩
def c89 : ACode :=
 (.seq (.ops [⟨some 2, none, .prim (.allocm [.pl (.int .i64 0), .pl (.int .u64 0), .pl (.int .u64 0), .pl (.int .u64 0), .pl (.int .u64 0), .nils])⟩])
 (.seq (.ops [⟨some 4, none, .prim (.mov (.tmp 0))⟩,
 ⟨some 5, none, .call (.func 100) [(.tmp 4)]⟩,
 ⟨some 6, none, .prim (.bsl true 6 true 1 [.pl (.int .i64 0), .pl (.int .u64 0), .pl (.int .u64 0), .pl (.int .u64 0), .pl (.int .u64 0), .nils] [(0, 6, (.tmp 5))])⟩,
 ⟨some 3, none, .prim (.mov (.tmp 6))⟩])
 (.seq (.block 0 (.loop [1, 4, 5, 6, 7, 8, 9, 10, 11, 12, 13, 14, 15, 16, 17, 18, 19, 20, 21, 22, 23, 24, 25, 26, 27, 28, 29, 30, 31, 32, 33, 34, 35, 36, 37, 38, 39, 40] (.seq (.seq (.draw [⟨⟨some 7, none, .prim (.mov (.tmp 0))⟩, [], false, 0, 0⟩,
 ⟨⟨some 8, none, .call (.func 101) [(.tmp 7)]⟩, [0], true, 0, 0⟩,
 ⟨⟨some 9, none, .prim (.mov (.tmp 8))⟩, [0, 1], false, 1, 1⟩,
 ⟨⟨some 10, (some (9, true)), .prim (.mov (.tmp 0))⟩, [0, 1, 2], false, 1, 1⟩,
 ⟨⟨some 11, (some (9, true)), .prim (.nilc (.tmp 10))⟩, [0, 1, 2, 3], false, 1, 1⟩,
 ⟨⟨some 12, (some (9, true)), .prim (.fadr 0 (.tmp 11))⟩, [0, 1, 2, 3, 4], false, 1, 1⟩,
 ⟨⟨some 13, (some (9, true)), .prim (.load 1 false (.tmp 12))⟩, (List.range 6), false, 1, 1⟩,
 ⟨⟨some 14, (some (9, true)), .prim (.mov (.tmp 0))⟩, [0, 1, 2], false, 1, 1⟩,
 ⟨⟨some 15, (some (9, true)), .prim (.nilc (.tmp 14))⟩, [0, 1, 2, 7], false, 1, 1⟩,
 ⟨⟨some 16, (some (9, true)), .prim (.fadr 1 (.tmp 15))⟩, [0, 1, 2, 7, 8], false, 1, 1⟩,
 ⟨⟨some 17, (some (9, true)), .prim (.load 1 false (.tmp 16))⟩, [0, 1, 2, 7, 8, 9], false, 1, 1⟩,
 ⟨⟨some 18, (some (9, true)), .prim (.idxs (.tmp 13) (.tmp 17))⟩, (List.range 11), false, 1, 1⟩,
 ⟨⟨some 19, (some (9, true)), .prim (.bin false .eql (.tmp 18) (.const (.int .u8 124)))⟩, (List.range 12), false, 1, 1⟩,
 ⟨⟨some 20, none, .prim (.pick (.tmp 9) (.tmp 19) (.const (.bool false)))⟩, (List.range 13), false, 1, 1⟩])
 (.cond (.tmp 20)
 .skip
 (.exit 0)))
 (.block 1 (.seq (.ops [⟨some 21, none, .prim (.mov (.tmp 0))⟩,
 ⟨some 22, none, .prim (.nilc (.tmp 21))⟩,
 ⟨some 23, none, .prim (.fadr 1 (.tmp 22))⟩,
 ⟨some 24, none, .prim (.load 1 false (.tmp 23))⟩,
 ⟨some 25, none, .prim (.bin false .add (.tmp 24) (.const (.int .i64 1)))⟩,
 ⟨some 26, none, .prim (.nilc (.tmp 21))⟩,
 ⟨some 27, none, .prim (.fadr 1 (.tmp 26))⟩,
 ⟨none, none, .prim (.store 1 (.tmp 27) (.tmp 25))⟩])
 (.ops [⟨some 28, none, .prim (.mov (.tmp 3))⟩,
 ⟨some 29, none, .prim (.mov (.tmp 0))⟩,
 ⟨some 30, none, .call (.func 100) [(.tmp 29)]⟩,
 ⟨some 31, none, .prim (.bsl false 6 true 1 [.pl (.int .i64 0), .pl (.int .u64 0), .pl (.int .u64 0), .pl (.int .u64 0), .pl (.int .u64 0), .nils] [(0, 6, (.tmp 30))])⟩,
 ⟨some 32, none, .prim (.app 6 (.tmp 28) (.tmp 31))⟩,
 ⟨some 3, none, .prim (.mov (.tmp 32))⟩]))))))
 (.seq (.seq (.ops [⟨some 33, none, .prim (.mov (.tmp 3))⟩,
 ⟨some 34, none, .prim (.lenv (.tmp 33))⟩,
 ⟨some 35, none, .prim (.bin false .eql (.tmp 34) (.const (.int .i64 1)))⟩])
 (.cond (.tmp 35)
 (.seq (.ops [⟨some 36, none, .prim (.mov (.tmp 3))⟩,
 ⟨some 37, none, .prim (.iadrs 6 (.tmp 36) (.const (.int .i64 0)))⟩,
 ⟨some 38, none, .prim (.load 6 true (.tmp 37))⟩,
 ⟨none, none, .prim (.store 6 (.tmp 2) (.tmp 38))⟩])
 .ret)
 .skip))
 (.seq (.ghost (.shut 3) (.ops [⟨some 39, none, .prim (.mov (.tmp 3))⟩,
 ⟨some 40, none, .prim (.build [.pl (.int .i64 0), .pl (.int .u64 0), .pl (.int .u64 0), .pl (.int .u64 0), .pl (.int .u64 0), .nils] [(0, 1, (.const (.int .i64 3))), (5, 1, (.tmp 39))])⟩,
 ⟨none, none, .prim (.store 6 (.tmp 2) (.tmp 40))⟩]))
 .ret)))))
def o89 : List Tmp := [2, 6]
def r89 : List RV := [.cell 2 6 true]
theorem t89 : Text Tryz.prog 89 o89 c89 r89 41 := ⟨⟨Tryz.f89, _, by kernel_rfl, by kernel_rfl, rfl, by kernel_rfl, by kernel_rfl, rfl⟩, by kernel_rfl⟩
def c90 : ACode :=
 (.seq (.ops [⟨some 1, none, .prim (.boxr (.tmp 0))⟩,
 ⟨some 2, none, .prim (.mov (.const (.slice none 0 0)))⟩,
 ⟨some 3, none, .prim (.mov (.const (.bool false)))⟩])
 (.seq (.ops [⟨some 5, none, .prim (.load 6 true (.tmp 1))⟩,
 ⟨some 6, none, .call (.func 102) [(.tmp 5)]⟩,
 ⟨some 4, none, .prim (.mov (.tmp 6))⟩])
 (.seq (.seq (.ops [⟨some 7, none, .prim (.mov (.tmp 4))⟩,
 ⟨some 8, none, .prim (.bin false .eql (.tmp 7) (.const (.int .i64 0)))⟩,
 ⟨some 9, none, .prim (.mov (.tmp 8))⟩,
 ⟨some 10, (some (9, false)), .prim (.mov (.tmp 4))⟩,
 ⟨some 11, (some (9, false)), .prim (.bin false .gtr (.tmp 10) (.const (.int .i64 40)))⟩,
 ⟨some 12, none, .prim (.pick (.tmp 9) (.const (.bool true)) (.tmp 11))⟩])
 (.cond (.tmp 12)
 (.seq (.ops [⟨some 2, none, .prim (.mov (.const (.slice none 0 0)))⟩,
 ⟨some 3, none, .prim (.mov (.const (.bool false)))⟩])
 (.ghost (.shut 2) .ret))
 .skip))
 (.seq (.ops [⟨some 13, none, .prim (.load 6 true (.tmp 1))⟩,
 ⟨some 14, none, .call (.func 103) [(.const (.slice none 0 0)), (.tmp 13)]⟩,
 ⟨some 15, none, .prim (.build [.pl (.int .i64 0), .pl (.int .u64 0), .pl (.int .u64 0), .pl (.int .u64 0), .pl (.int .u64 0), .pl (.int .i64 0), .pl (.int .i64 0)] [(0, 1, (.const (.int .i64 4)))])⟩,
 ⟨some 16, none, .prim (.bsl false 7 true 1 [.pl (.int .i64 0), .pl (.int .u64 0), .pl (.int .u64 0), .pl (.int .u64 0), .pl (.int .u64 0), .pl (.int .i64 0), .pl (.int .i64 0)] [(0, 7, (.tmp 15))])⟩,
 ⟨some 17, none, .prim (.app 7 (.tmp 14) (.tmp 16))⟩,
 ⟨some 2, none, .prim (.mov (.tmp 17))⟩,
 ⟨some 3, none, .prim (.mov (.const (.bool true)))⟩])
 (.ghost (.shut 2) .ret)))))
def o90 : List Tmp := []
def r90 : List RV := [.tmp 2, .tmp 3]
theorem t90 : Text Tryz.prog 90 o90 c90 r90 18 := ⟨⟨Tryz.f90, _, by kernel_rfl, by kernel_rfl, rfl, by kernel_rfl, by kernel_rfl, rfl⟩, by kernel_rfl⟩
def c91 : ACode :=
 (.seq (.ops [⟨some 1, none, .prim (.boxr (.tmp 0))⟩,
 ⟨some 2, none, .prim (.mov (.const (.bool false)))⟩])
 (.seq (.ops [⟨some 5, none, .prim (.fadr 5 (.tmp 1))⟩,
 ⟨some 6, none, .prim (.load 1 false (.tmp 5))⟩,
 ⟨some 7, none, .prim (.lenv (.tmp 6))⟩,
 ⟨some 3, none, .prim (.mov (.tmp 7))⟩])
 (.seq (.seq (.ops [⟨some 8, none, .prim (.fadr 0 (.tmp 1))⟩,
 ⟨some 9, none, .prim (.load 1 false (.tmp 8))⟩])
 (.block 0 (.seq (.ops [⟨some 11, none, .prim (.bin false .eql (.tmp 9) (.const (.int .i64 1)))⟩,
 ⟨some 10, none, .prim (.mov (.tmp 11))⟩])
 (.cond (.tmp 10)
 (.seq (.ops [⟨some 12, none, .prim (.mov (.tmp 3))⟩,
 ⟨some 13, none, .prim (.bin false .eql (.tmp 12) (.const (.int .i64 0)))⟩,
 ⟨some 2, none, .prim (.mov (.tmp 13))⟩])
 .ret)
 (.seq (.ops [⟨some 15, none, .prim (.bin false .eql (.tmp 9) (.const (.int .i64 2)))⟩,
 ⟨some 14, none, .prim (.mov (.tmp 15))⟩])
 (.cond (.tmp 14)
 .skip
 (.seq (.ops [⟨some 17, none, .prim (.bin false .eql (.tmp 9) (.const (.int .i64 3)))⟩,
 ⟨some 16, none, .prim (.mov (.tmp 17))⟩])
 (.cond (.tmp 16)
 (.seq (.ops [⟨some 18, none, .prim (.mov (.tmp 3))⟩,
 ⟨some 19, none, .prim (.bin false .lss (.tmp 18) (.const (.int .i64 1)))⟩])
 (.cond (.tmp 19)
 (.seq (.ops [⟨some 2, none, .prim (.mov (.const (.bool false)))⟩])
 .ret)
 .skip))
 (.seq (.seq (.ops [⟨some 21, none, .prim (.bin false .eql (.tmp 9) (.const (.int .i64 4)))⟩,
 ⟨some 20, none, .prim (.mov (.tmp 21))⟩])
 (.cond (.tmp 20)
 .skip
 (.seq (.ops [⟨some 22, none, .prim (.bin false .eql (.tmp 9) (.const (.int .i64 5)))⟩,
 ⟨some 20, none, .prim (.mov (.tmp 22))⟩])
 (.cond (.tmp 20)
 .skip
 (.ops [⟨some 23, none, .prim (.bin false .eql (.tmp 9) (.const (.int .i64 6)))⟩,
 ⟨some 20, none, .prim (.mov (.tmp 23))⟩])))))
 (.cond (.tmp 20)
 (.seq (.ops [⟨some 24, none, .prim (.mov (.tmp 3))⟩,
 ⟨some 25, none, .prim (.bin false .neq (.tmp 24) (.const (.int .i64 1)))⟩])
 (.cond (.tmp 25)
 (.seq (.ops [⟨some 2, none, .prim (.mov (.const (.bool false)))⟩])
 .ret)
 .skip))
 (.seq (.ops [⟨some 2, none, .prim (.mov (.const (.bool false)))⟩])
 .ret)))))))))))
 (.seq (.seq (.ops [⟨some 4, none, .prim (.mov (.const (.int .i64 0)))⟩])
 (.block 1 (.loop [0, 2, 5, 6, 7, 8, 9, 10, 11, 12, 13, 14, 15, 16, 17, 18, 19, 20, 21, 22, 23, 24, 25, 26, 27, 28, 29, 30, 31, 32, 33, 34, 35, 36, 37, 38, 39, 40, 41] (.seq (.seq (.ops [⟨some 26, none, .prim (.mov (.tmp 4))⟩,
 ⟨some 27, none, .prim (.mov (.tmp 3))⟩,
 ⟨some 28, none, .prim (.bin false .lss (.tmp 26) (.tmp 27))⟩])
 (.cond (.tmp 28)
 .skip
 (.exit 1)))
 (.seq (.block 2 (.seq (.ops [⟨some 31, none, .prim (.fadr 5 (.tmp 1))⟩,
 ⟨some 32, none, .prim (.load 1 false (.tmp 31))⟩,
 ⟨some 33, none, .prim (.mov (.tmp 4))⟩,
 ⟨some 34, none, .prim (.iadrs 6 (.tmp 32) (.tmp 33))⟩,
 ⟨some 35, none, .prim (.load 6 true (.tmp 34))⟩,
 ⟨some 36, none, .call (.func 91) [(.tmp 35)]⟩,
 ⟨some 37, none, .prim (.un .not (.tmp 36))⟩])
 (.cond (.tmp 37)
 (.seq (.ops [⟨some 2, none, .prim (.mov (.const (.bool false)))⟩])
 .ret)
 .skip)))
 (.ops [⟨some 29, none, .prim (.mov (.tmp 4))⟩,
 ⟨some 30, none, .prim (.bin false .add (.tmp 29) (.const (.int .i64 1)))⟩,
 ⟨some 4, none, .prim (.mov (.tmp 30))⟩]))))))
 (.seq (.ops [⟨some 38, none, .prim (.fadr 1 (.tmp 1))⟩,
 ⟨some 39, none, .prim (.load 4 true (.tmp 38))⟩,
 ⟨some 40, none, .prim (.build [.pl (.int .u64 0), .pl (.int .u64 0), .pl (.int .u64 0), .pl (.int .u64 0)] [])⟩,
 ⟨some 41, none, .prim (.eqa false [.int, .int, .int, .int] (.tmp 39) (.tmp 40))⟩,
 ⟨some 2, none, .prim (.mov (.tmp 41))⟩])
 .ret)))))
def o91 : List Tmp := []
def r91 : List RV := [.tmp 2]
theorem t91 : Text Tryz.prog 91 o91 c91 r91 42 := ⟨⟨Tryz.f91, _, by kernel_rfl, by kernel_rfl, rfl, by kernel_rfl, by kernel_rfl, rfl⟩, by kernel_rfl⟩
def c92 : ACode :=
 (.seq (.ops [⟨some 1, none, .prim (.boxr (.tmp 0))⟩,
 ⟨some 2, none, .prim (.mov (.const (.int .i64 0)))⟩])
 (.seq (.ops [⟨some 3, none, .prim (.mov (.const (.int .i64 0)))⟩])
 (.seq (.seq (.ops [⟨some 4, none, .prim (.mov (.const (.int .i64 0)))⟩])
 (.block 0 (.loop [0, 2, 5, 6, 7, 8, 9, 10, 11, 12, 13, 14, 15, 16, 17, 18, 19, 20, 21, 22, 23, 24, 25, 26, 27, 28, 29, 30, 31, 32, 33, 34, 35, 36, 37, 38, 39, 40, 41, 42] (.seq (.seq (.ops [⟨some 5, none, .prim (.mov (.tmp 4))⟩,
 ⟨some 6, none, .prim (.fadr 5 (.tmp 1))⟩,
 ⟨some 7, none, .prim (.load 1 false (.tmp 6))⟩,
 ⟨some 8, none, .prim (.lenv (.tmp 7))⟩,
 ⟨some 9, none, .prim (.bin false .lss (.tmp 5) (.tmp 8))⟩])
 (.cond (.tmp 9)
 .skip
 (.exit 0)))
 (.seq (.block 1 (.ops [⟨some 12, none, .prim (.mov (.tmp 3))⟩,
 ⟨some 13, none, .prim (.fadr 5 (.tmp 1))⟩,
 ⟨some 14, none, .prim (.load 1 false (.tmp 13))⟩,
 ⟨some 15, none, .prim (.mov (.tmp 4))⟩,
 ⟨some 16, none, .prim (.iadrs 6 (.tmp 14) (.tmp 15))⟩,
 ⟨some 17, none, .prim (.load 6 true (.tmp 16))⟩,
 ⟨some 18, none, .call (.func 92) [(.tmp 17)]⟩,
 ⟨some 19, none, .prim (.bin false .add (.tmp 12) (.tmp 18))⟩,
 ⟨some 3, none, .prim (.mov (.tmp 19))⟩]))
 (.ops [⟨some 10, none, .prim (.mov (.tmp 4))⟩,
 ⟨some 11, none, .prim (.bin false .add (.tmp 10) (.const (.int .i64 1)))⟩,
 ⟨some 4, none, .prim (.mov (.tmp 11))⟩]))))))
 (.seq (.seq (.ops [⟨some 20, none, .prim (.fadr 0 (.tmp 1))⟩,
 ⟨some 21, none, .prim (.load 1 false (.tmp 20))⟩])
 (.block 2 (.seq (.ops [⟨some 23, none, .prim (.bin false .eql (.tmp 21) (.const (.int .i64 1)))⟩,
 ⟨some 22, none, .prim (.mov (.tmp 23))⟩])
 (.cond (.tmp 22)
 (.seq (.ops [⟨some 2, none, .prim (.mov (.const (.int .i64 1)))⟩])
 .ret)
 (.seq (.ops [⟨some 25, none, .prim (.bin false .eql (.tmp 21) (.const (.int .i64 3)))⟩,
 ⟨some 24, none, .prim (.mov (.tmp 25))⟩])
 (.cond (.tmp 24)
 (.seq (.ops [⟨some 26, none, .prim (.mov (.tmp 3))⟩,
 ⟨some 27, none, .prim (.fadr 5 (.tmp 1))⟩,
 ⟨some 28, none, .prim (.load 1 false (.tmp 27))⟩,
 ⟨some 29, none, .prim (.lenv (.tmp 28))⟩,
 ⟨some 30, none, .prim (.bin false .sub (.tmp 29) (.const (.int .i64 1)))⟩,
 ⟨some 31, none, .prim (.bin false .mul (.const (.int .i64 2)) (.tmp 30))⟩,
 ⟨some 32, none, .prim (.bin false .add (.tmp 26) (.tmp 31))⟩,
 ⟨some 2, none, .prim (.mov (.tmp 32))⟩])
 .ret)
 (.seq (.ops [⟨some 34, none, .prim (.bin false .eql (.tmp 21) (.const (.int .i64 4)))⟩,
 ⟨some 33, none, .prim (.mov (.tmp 34))⟩])
 (.cond (.tmp 33)
 (.seq (.ops [⟨some 35, none, .prim (.mov (.tmp 3))⟩,
 ⟨some 36, none, .prim (.bin false .add (.tmp 35) (.const (.int .i64 2)))⟩,
 ⟨some 2, none, .prim (.mov (.tmp 36))⟩])
 .ret)
 (.seq (.seq (.ops [⟨some 38, none, .prim (.bin false .eql (.tmp 21) (.const (.int .i64 5)))⟩,
 ⟨some 37, none, .prim (.mov (.tmp 38))⟩])
 (.cond (.tmp 37)
 .skip
 (.ops [⟨some 39, none, .prim (.bin false .eql (.tmp 21) (.const (.int .i64 6)))⟩,
 ⟨some 37, none, .prim (.mov (.tmp 39))⟩])))
 (.cond (.tmp 37)
 (.seq (.ops [⟨some 40, none, .prim (.mov (.tmp 3))⟩,
 ⟨some 41, none, .prim (.bin false .add (.tmp 40) (.const (.int .i64 1)))⟩,
 ⟨some 2, none, .prim (.mov (.tmp 41))⟩])
 .ret)
 .skip))))))))))
 (.seq (.ops [⟨some 42, none, .prim (.mov (.tmp 3))⟩,
 ⟨some 2, none, .prim (.mov (.tmp 42))⟩])
 .ret)))))
def o92 : List Tmp := []
def r92 : List RV := [.tmp 2]
theorem t92 : Text Tryz.prog 92 o92 c92 r92 43 := ⟨⟨Tryz.f92, _, by kernel_rfl, by kernel_rfl, rfl, by kernel_rfl, by kernel_rfl, rfl⟩, by kernel_rfl⟩
def c93 : ACode :=
 (.seq (.ops [⟨some 1, none, .prim (.boxr (.tmp 0))⟩,
 ⟨some 2, none, .prim (.mov (.const (.bool false)))⟩])
 (.seq (.seq (.ops [⟨some 4, none, .prim (.load 1 false (.tmp 1))⟩,
 ⟨some 5, none, .prim (.lenv (.tmp 4))⟩,
 ⟨some 6, none, .prim (.bin false .lss (.tmp 5) (.const (.int .i64 1)))⟩,
 ⟨some 7, none, .prim (.mov (.tmp 6))⟩,
 ⟨some 8, (some (7, false)), .prim (.load 1 false (.tmp 1))⟩,
 ⟨some 9, (some (7, false)), .prim (.lenv (.tmp 8))⟩,
 ⟨some 10, (some (7, false)), .prim (.bin false .gtr (.tmp 9) (.const (.int .i64 40)))⟩,
 ⟨some 11, none, .prim (.pick (.tmp 7) (.const (.bool true)) (.tmp 10))⟩])
 (.cond (.tmp 11)
 (.seq (.ops [⟨some 2, none, .prim (.mov (.const (.bool false)))⟩])
 .ret)
 .skip))
 (.seq (.ops [⟨some 12, none, .prim (.load 1 false (.tmp 1))⟩,
 ⟨some 13, none, .prim (.lenv (.tmp 12))⟩,
 ⟨some 14, none, .prim (.bin false .sub (.tmp 13) (.const (.int .i64 1)))⟩,
 ⟨some 3, none, .prim (.mov (.tmp 14))⟩])
 (.seq (.draw [⟨⟨some 15, none, .prim (.load 1 false (.tmp 1))⟩, [], false, 0, 0⟩,
 ⟨⟨some 16, none, .prim (.mov (.tmp 3))⟩, [], false, 0, 0⟩,
 ⟨⟨some 17, none, .prim (.slcv 7 (.tmp 15) none (some (.tmp 16)))⟩, [0, 1], false, 0, 0⟩,
 ⟨⟨some 18, none, .prim (.mkfn 105 [] [(.tmp 1)])⟩, [], false, 0, 0⟩,
 ⟨⟨some 19, none, .call (.func 104) [(.tmp 17), (.tmp 18)]⟩, [0, 1, 2, 3], true, 0, 0⟩,
 ⟨⟨some 20, none, .prim (.un .not (.tmp 19))⟩, [0, 1, 2, 3, 4], false, 1, 1⟩,
 ⟨⟨some 21, none, .prim (.mov (.tmp 20))⟩, (List.range 6), false, 1, 1⟩,
 ⟨⟨some 22, (some (21, true)), .prim (.load 1 false (.tmp 1))⟩, (List.range 7), false, 1, 1⟩,
 ⟨⟨some 23, (some (21, true)), .prim (.mov (.tmp 3))⟩, (List.range 7), false, 1, 1⟩,
 ⟨⟨some 24, (some (21, true)), .prim (.iadrs 7 (.tmp 22) (.tmp 23))⟩, (List.range 9), false, 1, 1⟩,
 ⟨⟨some 25, (some (21, true)), .prim (.load 7 true (.tmp 24))⟩, (List.range 10), false, 1, 1⟩,
 ⟨⟨some 26, (some (21, true)), .prim (.load 1 false (.tmp 1))⟩, (List.range 7), false, 1, 1⟩,
 ⟨⟨some 27, (some (21, true)), .prim (.lenv (.tmp 26))⟩, [0, 1, 2, 3, 4, 5, 6, 11], false, 1, 1⟩,
 ⟨⟨some 28, (some (21, true)), .call (.func 106) [(.tmp 25), (.tmp 27), (.const (.bool true))]⟩, (List.range 13), true, 0, 0⟩,
 ⟨⟨some 29, none, .prim (.pick (.tmp 21) (.tmp 28) (.const (.bool false)))⟩, (List.range 14), false, 2, 2⟩,
 ⟨⟨some 2, none, .prim (.mov (.tmp 29))⟩, (List.range 15), false, 2, 2⟩])
 .ret))))
def o93 : List Tmp := []
def r93 : List RV := [.tmp 2]
theorem t93 : Text Tryz.prog 93 o93 c93 r93 30 := ⟨⟨Tryz.f93, _, by kernel_rfl, by kernel_rfl, rfl, by kernel_rfl, by kernel_rfl, rfl⟩, by kernel_rfl⟩
def c94 : ACode :=
 (.seq (.ops [⟨some 2, none, .prim (.mov (.const (.int .u64 0)))⟩])
 (.seq (.ops [⟨some 3, none, .prim (.allocm [.pl (.int .u64 0)])⟩,
 ⟨none, none, .prim (.store 1 (.tmp 3) (.const (.int .u64 0)))⟩])
 (.seq (.ops [⟨some 4, none, .prim (.mov (.tmp 0))⟩,
 ⟨some 5, none, .call (.func 107) [(.tmp 4), (.const (.int .i64 0)), (.tmp 3)]⟩,
 ⟨some 2, none, .prim (.mov (.tmp 5))⟩])
 .ret)))
def o94 : List Tmp := [3]
def r94 : List RV := [.tmp 2]
theorem t94 : Text Tryz.prog 94 o94 c94 r94 6 := ⟨⟨Tryz.f94, _, by kernel_rfl, by kernel_rfl, rfl, by kernel_rfl, by kernel_rfl, rfl⟩, by kernel_rfl⟩
def c95 : ACode :=
 (.seq (.ops [⟨some 6, none, .prim (.mov (.const (.int .u64 0)))⟩])
 (.seq (.ops [⟨some 7, none, .prim (.allocm [.pl (.int .u64 0)])⟩,
 ⟨none, none, .prim (.store 1 (.tmp 7) (.const (.int .u64 0)))⟩,
 ⟨some 8, none, .prim (.mov (.const (.int .u64 0)))⟩])
 (.seq (.seq (.ops [⟨some 11, none, .prim (.mov (.tmp 0))⟩,
 ⟨some 12, none, .prim (.lenv (.tmp 11))⟩,
 ⟨some 13, none, .prim (.mov (.const (.int .i64 0)))⟩])
 (.block 0 (.loop [3, 4, 5, 6, 9, 10, 14, 15, 16, 17, 18, 19, 20, 21, 22, 23, 24, 25, 26, 27, 28, 29, 30, 31, 32, 33, 34, 35, 36, 37, 38, 39, 40, 41, 42, 43, 44, 45, 46, 47] (.seq (.ops [⟨some 14, none, .prim (.bin false .lss (.tmp 13) (.tmp 12))⟩])
 (.seq (.cond (.tmp 14)
 .skip
 (.exit 0))
 (.seq (.block 1 (.seq (.ops [⟨some 15, none, .prim (.mov (.tmp 13))⟩,
 ⟨some 16, none, .prim (.iadrs 7 (.tmp 11) (.tmp 13))⟩,
 ⟨some 17, none, .prim (.load 7 true (.tmp 16))⟩,
 ⟨some 10, none, .prim (.allocm [.pl (.int .i64 0), .pl (.int .u64 0), .pl (.int .u64 0), .pl (.int .u64 0), .pl (.int .u64 0), .pl (.int .i64 0), .pl (.int .i64 0)])⟩,
 ⟨some 9, none, .prim (.mov (.tmp 15))⟩,
 ⟨none, none, .prim (.store 7 (.tmp 10) (.tmp 17))⟩])
 (.seq (.ops [⟨some 18, none, .prim (.mov (.tmp 1))⟩,
 ⟨some 19, none, .prim (.mov (.tmp 9))⟩,
 ⟨some 20, none, .prim (.bin false .shr (.tmp 18) (.tmp 19))⟩,
 ⟨some 21, none, .prim (.bin false .and (.tmp 20) (.const (.int .u64 1)))⟩,
 ⟨some 22, none, .prim (.bin false .eql (.tmp 21) (.const (.int .u64 1)))⟩,
 ⟨some 23, none, .prim (.mov (.tmp 22))⟩,
 ⟨some 24, (some (23, true)), .prim (.fadr 0 (.tmp 10))⟩,
 ⟨some 25, (some (23, true)), .prim (.load 1 false (.tmp 24))⟩,
 ⟨some 26, (some (23, true)), .prim (.bin false .eql (.tmp 25) (.const (.int .i64 1)))⟩,
 ⟨some 27, none, .prim (.pick (.tmp 23) (.tmp 26) (.const (.bool false)))⟩,
 ⟨some 28, none, .prim (.mov (.tmp 27))⟩,
 ⟨some 29, (some (28, true)), .prim (.mov (.tmp 2))⟩,
 ⟨some 30, (some (28, true)), .prim (.bin false .quo (.tmp 29) (.const (.int .u8 64)))⟩,
 ⟨some 31, (some (28, true)), .prim (.fadr 1 (.tmp 10))⟩,
 ⟨some 32, (some (28, true)), .prim (.iadra 1 4 (.tmp 31) (.tmp 30))⟩,
 ⟨some 33, (some (28, true)), .prim (.load 1 false (.tmp 32))⟩,
 ⟨some 34, (some (28, true)), .prim (.mov (.tmp 2))⟩,
 ⟨some 35, (some (28, true)), .prim (.bin false .rem (.tmp 34) (.const (.int .u8 64)))⟩,
 ⟨some 36, (some (28, true)), .prim (.bin false .shr (.tmp 33) (.tmp 35))⟩,
 ⟨some 37, (some (28, true)), .prim (.bin false .and (.tmp 36) (.const (.int .u64 1)))⟩,
 ⟨some 38, (some (28, true)), .prim (.bin false .eql (.tmp 37) (.const (.int .u64 1)))⟩,
 ⟨some 39, none, .prim (.pick (.tmp 28) (.tmp 38) (.const (.bool false)))⟩])
 (.cond (.tmp 39)
 (.ops [⟨some 40, none, .prim (.mov (.tmp 8))⟩,
 ⟨some 41, none, .prim (.mov (.tmp 0))⟩,
 ⟨some 42, none, .prim (.mov (.tmp 9))⟩,
 ⟨some 43, none, .prim (.bin false .add (.tmp 42) (.const (.int .i64 1)))⟩,
 ⟨some 44, none, .call (.func 107) [(.tmp 41), (.tmp 43), (.tmp 7)]⟩,
 ⟨some 45, none, .prim (.bin false .or (.tmp 40) (.tmp 44))⟩,
 ⟨some 8, none, .prim (.mov (.tmp 45))⟩])
 .skip))))
 (.after (.after (.ops [⟨some 46, none, .prim (.bin false .add (.tmp 13) (.const (.int .i64 1)))⟩,
 ⟨some 13, none, .prim (.mov (.tmp 46))⟩]) (.clear [10, 24, 31, 32])) (.keep 1))))))))
 (.seq (.ops [⟨some 47, none, .prim (.mov (.tmp 8))⟩,
 ⟨some 6, none, .prim (.mov (.tmp 47))⟩])
 .ret))))
def o95 : List Tmp := [7, 10]
def r95 : List RV := [.tmp 6]
theorem t95 : Text Tryz.prog 95 o95 c95 r95 48 := ⟨⟨Tryz.f95, _, by kernel_rfl, by kernel_rfl, rfl, by kernel_rfl, by kernel_rfl, rfl⟩, by kernel_rfl⟩
def c97 : ACode :=
 (.seq (.ops [⟨some 4, none, .prim (.allocm [.pl (.int .i64 0), .pl (.int .u64 0), .pl (.int .u64 0), .pl (.int .u64 0), .pl (.int .u64 0), .nils])⟩])
 (.seq (.ops [⟨some 5, none, .prim (.mov (.const (.slice none 0 0)))⟩])
 (.seq (.block 0 (.loop [2, 3, 6, 7, 8, 9, 10, 11, 12, 13, 14, 15, 16, 17, 18, 19, 20, 21, 22, 23, 24, 25, 26, 27, 28, 29, 30, 31, 32] (.seq (.seq (.ops [⟨some 6, none, .prim (.mov (.tmp 0))⟩,
 ⟨some 7, none, .call (.func 109) [(.tmp 6)]⟩,
 ⟨some 8, none, .prim (.un .not (.tmp 7))⟩,
 ⟨some 9, none, .prim (.mov (.tmp 8))⟩,
 ⟨some 10, (some (9, true)), .prim (.mov (.tmp 0))⟩,
 ⟨some 11, (some (9, true)), .call (.func 110) [(.tmp 10), (.const (.int .u8 124))]⟩,
 ⟨some 12, (some (9, true)), .prim (.un .not (.tmp 11))⟩,
 ⟨some 13, none, .prim (.pick (.tmp 9) (.tmp 12) (.const (.bool false)))⟩,
 ⟨some 14, none, .prim (.mov (.tmp 13))⟩,
 ⟨some 15, (some (14, true)), .prim (.mov (.tmp 0))⟩,
 ⟨some 16, (some (14, true)), .call (.func 110) [(.tmp 15), (.const (.int .u8 41))]⟩,
 ⟨some 17, (some (14, true)), .prim (.un .not (.tmp 16))⟩,
 ⟨some 18, none, .prim (.pick (.tmp 14) (.tmp 17) (.const (.bool false)))⟩])
 (.cond (.tmp 18)
 .skip
 (.exit 0)))
 (.block 1 (.ops [⟨some 19, none, .prim (.mov (.tmp 5))⟩,
 ⟨some 20, none, .prim (.mov (.tmp 0))⟩,
 ⟨some 21, none, .prim (.mov (.tmp 1))⟩,
 ⟨some 22, none, .call (.func 111) [(.tmp 20), (.tmp 21)]⟩,
 ⟨some 23, none, .prim (.bsl false 6 true 1 [.pl (.int .i64 0), .pl (.int .u64 0), .pl (.int .u64 0), .pl (.int .u64 0), .pl (.int .u64 0), .nils] [(0, 6, (.tmp 22))])⟩,
 ⟨some 24, none, .prim (.app 6 (.tmp 19) (.tmp 23))⟩,
 ⟨some 5, none, .prim (.mov (.tmp 24))⟩])))))
 (.seq (.seq (.ops [⟨some 25, none, .prim (.mov (.tmp 5))⟩,
 ⟨some 26, none, .prim (.lenv (.tmp 25))⟩,
 ⟨some 27, none, .prim (.bin false .eql (.tmp 26) (.const (.int .i64 1)))⟩])
 (.cond (.tmp 27)
 (.seq (.ops [⟨some 28, none, .prim (.mov (.tmp 5))⟩,
 ⟨some 29, none, .prim (.iadrs 6 (.tmp 28) (.const (.int .i64 0)))⟩,
 ⟨some 30, none, .prim (.load 6 true (.tmp 29))⟩,
 ⟨none, none, .prim (.store 6 (.tmp 4) (.tmp 30))⟩])
 .ret)
 .skip))
 (.seq (.ghost (.shut 5) (.ops [⟨some 31, none, .prim (.mov (.tmp 5))⟩,
 ⟨some 32, none, .prim (.build [.pl (.int .i64 0), .pl (.int .u64 0), .pl (.int .u64 0), .pl (.int .u64 0), .pl (.int .u64 0), .nils] [(0, 1, (.const (.int .i64 2))), (5, 1, (.tmp 31))])⟩,
 ⟨none, none, .prim (.store 6 (.tmp 4) (.tmp 32))⟩]))
 .ret)))))
def o97 : List Tmp := [4]
def r97 : List RV := [.cell 4 6 true]
theorem t97 : Text Tryz.prog 97 o97 c97 r97 33 := ⟨⟨Tryz.f97, _, by kernel_rfl, by kernel_rfl, rfl, by kernel_rfl, by kernel_rfl, rfl⟩, by kernel_rfl⟩
def c98 : ACode :=
 (.seq (.ops [⟨some 4, none, .prim (.mov (.const (.bool false)))⟩])
 (.seq (.seq (.ops [⟨some 5, none, .prim (.mov (.tmp 0))⟩,
 ⟨some 6, none, .prim (.mov (.tmp 1))⟩,
 ⟨some 7, none, .call (.func 110) [(.tmp 5), (.tmp 6)]⟩,
 ⟨some 8, none, .prim (.un .not (.tmp 7))⟩])
 (.cond (.tmp 8)
 (.seq (.ops [⟨some 4, none, .prim (.mov (.const (.bool false)))⟩])
 .ret)
 .skip))
 (.seq (.ops [⟨some 9, none, .prim (.mov (.tmp 0))⟩,
 ⟨some 10, none, .prim (.nilc (.tmp 9))⟩,
 ⟨some 11, none, .prim (.fadr 1 (.tmp 10))⟩,
 ⟨some 12, none, .prim (.load 1 false (.tmp 11))⟩,
 ⟨some 13, none, .prim (.bin false .add (.tmp 12) (.const (.int .i64 1)))⟩,
 ⟨some 14, none, .prim (.nilc (.tmp 9))⟩,
 ⟨some 15, none, .prim (.fadr 1 (.tmp 14))⟩,
 ⟨none, none, .prim (.store 1 (.tmp 15) (.tmp 13))⟩])
 (.seq (.ops [⟨some 4, none, .prim (.mov (.const (.bool true)))⟩])
 .ret))))
def o98 : List Tmp := []
def r98 : List RV := [.tmp 4]
theorem t98 : Text Tryz.prog 98 o98 c98 r98 16 := ⟨⟨Tryz.f98, _, by kernel_rfl, by kernel_rfl, rfl, by kernel_rfl, by kernel_rfl, rfl⟩, by kernel_rfl⟩
def c100 : ACode :=
 (.seq (.ops [⟨some 2, none, .prim (.allocm [.pl (.int .i64 0), .pl (.int .u64 0), .pl (.int .u64 0), .pl (.int .u64 0), .pl (.int .u64 0), .nils])⟩])
 (.seq (.ops [⟨some 3, none, .prim (.mov (.const (.slice none 0 0)))⟩])
 (.seq (.block 0 (.loop [1, 4, 5, 6, 7, 8, 9, 10, 11, 12, 13, 14, 15, 16, 17, 18, 19, 20, 21, 22, 23, 24, 25, 26, 27, 28, 29, 30, 31, 32, 33, 34, 35, 36, 37, 38, 39, 40, 41, 42] (.seq (.seq (.draw [⟨⟨some 4, none, .prim (.mov (.tmp 0))⟩, [], false, 0, 0⟩,
 ⟨⟨some 5, none, .call (.func 101) [(.tmp 4)]⟩, [0], true, 0, 0⟩,
 ⟨⟨some 6, none, .prim (.mov (.tmp 5))⟩, [0, 1], false, 1, 1⟩,
 ⟨⟨some 7, (some (6, true)), .prim (.mov (.tmp 0))⟩, [0, 1, 2], false, 1, 1⟩,
 ⟨⟨some 8, (some (6, true)), .prim (.nilc (.tmp 7))⟩, [0, 1, 2, 3], false, 1, 1⟩,
 ⟨⟨some 9, (some (6, true)), .prim (.fadr 0 (.tmp 8))⟩, [0, 1, 2, 3, 4], false, 1, 1⟩,
 ⟨⟨some 10, (some (6, true)), .prim (.load 1 false (.tmp 9))⟩, (List.range 6), false, 1, 1⟩,
 ⟨⟨some 11, (some (6, true)), .prim (.mov (.tmp 0))⟩, [0, 1, 2], false, 1, 1⟩,
 ⟨⟨some 12, (some (6, true)), .prim (.nilc (.tmp 11))⟩, [0, 1, 2, 7], false, 1, 1⟩,
 ⟨⟨some 13, (some (6, true)), .prim (.fadr 1 (.tmp 12))⟩, [0, 1, 2, 7, 8], false, 1, 1⟩,
 ⟨⟨some 14, (some (6, true)), .prim (.load 1 false (.tmp 13))⟩, [0, 1, 2, 7, 8, 9], false, 1, 1⟩,
 ⟨⟨some 15, (some (6, true)), .prim (.idxs (.tmp 10) (.tmp 14))⟩, (List.range 11), false, 1, 1⟩,
 ⟨⟨some 16, (some (6, true)), .prim (.bin false .neq (.tmp 15) (.const (.int .u8 124)))⟩, (List.range 12), false, 1, 1⟩,
 ⟨⟨some 17, none, .prim (.pick (.tmp 6) (.tmp 16) (.const (.bool false)))⟩, (List.range 13), false, 1, 1⟩,
 ⟨⟨some 18, none, .prim (.mov (.tmp 17))⟩, (List.range 14), false, 1, 1⟩,
 ⟨⟨some 19, (some (18, true)), .prim (.mov (.tmp 0))⟩, (List.range 15), false, 1, 1⟩,
 ⟨⟨some 20, (some (18, true)), .prim (.nilc (.tmp 19))⟩, (List.range 16), false, 1, 1⟩,
 ⟨⟨some 21, (some (18, true)), .prim (.fadr 0 (.tmp 20))⟩, (List.range 17), false, 1, 1⟩,
 ⟨⟨some 22, (some (18, true)), .prim (.load 1 false (.tmp 21))⟩, (List.range 18), false, 1, 1⟩,
 ⟨⟨some 23, (some (18, true)), .prim (.mov (.tmp 0))⟩, (List.range 15), false, 1, 1⟩,
 ⟨⟨some 24, (some (18, true)), .prim (.nilc (.tmp 23))⟩, [0, 1, 2, 3, 4, 5, 6, 7, 8, 9, 10, 11, 12, 13, 14, 19], false, 1, 1⟩,
 ⟨⟨some 25, (some (18, true)), .prim (.fadr 1 (.tmp 24))⟩, [0, 1, 2, 3, 4, 5, 6, 7, 8, 9, 10, 11, 12, 13, 14, 19, 20], false, 1, 1⟩,
 ⟨⟨some 26, (some (18, true)), .prim (.load 1 false (.tmp 25))⟩, [0, 1, 2, 3, 4, 5, 6, 7, 8, 9, 10, 11, 12, 13, 14, 19, 20, 21], false, 1, 1⟩,
 ⟨⟨some 27, (some (18, true)), .prim (.idxs (.tmp 22) (.tmp 26))⟩, (List.range 23), false, 1, 1⟩,
 ⟨⟨some 28, (some (18, true)), .prim (.bin false .neq (.tmp 27) (.const (.int .u8 41)))⟩, (List.range 24), false, 1, 1⟩,
 ⟨⟨some 29, none, .prim (.pick (.tmp 18) (.tmp 28) (.const (.bool false)))⟩, (List.range 25), false, 1, 1⟩])
 (.cond (.tmp 29)
 .skip
 (.exit 0)))
 (.block 1 (.ops [⟨some 30, none, .prim (.mov (.tmp 3))⟩,
 ⟨some 31, none, .prim (.mov (.tmp 0))⟩,
 ⟨some 32, none, .call (.func 112) [(.tmp 31)]⟩,
 ⟨some 33, none, .prim (.bsl false 6 true 1 [.pl (.int .i64 0), .pl (.int .u64 0), .pl (.int .u64 0), .pl (.int .u64 0), .pl (.int .u64 0), .nils] [(0, 6, (.tmp 32))])⟩,
 ⟨some 34, none, .prim (.app 6 (.tmp 30) (.tmp 33))⟩,
 ⟨some 3, none, .prim (.mov (.tmp 34))⟩])))))
 (.seq (.seq (.ops [⟨some 35, none, .prim (.mov (.tmp 3))⟩,
 ⟨some 36, none, .prim (.lenv (.tmp 35))⟩,
 ⟨some 37, none, .prim (.bin false .eql (.tmp 36) (.const (.int .i64 1)))⟩])
 (.cond (.tmp 37)
 (.seq (.ops [⟨some 38, none, .prim (.mov (.tmp 3))⟩,
 ⟨some 39, none, .prim (.iadrs 6 (.tmp 38) (.const (.int .i64 0)))⟩,
 ⟨some 40, none, .prim (.load 6 true (.tmp 39))⟩,
 ⟨none, none, .prim (.store 6 (.tmp 2) (.tmp 40))⟩])
 .ret)
 .skip))
 (.seq (.ghost (.shut 3) (.ops [⟨some 41, none, .prim (.mov (.tmp 3))⟩,
 ⟨some 42, none, .prim (.build [.pl (.int .i64 0), .pl (.int .u64 0), .pl (.int .u64 0), .pl (.int .u64 0), .pl (.int .u64 0), .nils] [(0, 1, (.const (.int .i64 2))), (5, 1, (.tmp 41))])⟩,
 ⟨none, none, .prim (.store 6 (.tmp 2) (.tmp 42))⟩]))
 .ret)))))
def o100 : List Tmp := [2]
def r100 : List RV := [.cell 2 6 true]
theorem t100 : Text Tryz.prog 100 o100 c100 r100 43 := ⟨⟨Tryz.f100, _, by kernel_rfl, by kernel_rfl, rfl, by kernel_rfl, by kernel_rfl, rfl⟩, by kernel_rfl⟩
def c101 : ACode :=
 (.seq (.ops [⟨some 2, none, .prim (.mov (.const (.bool false)))⟩])
 (.seq (.draw [⟨⟨some 3, none, .prim (.mov (.tmp 0))⟩, [], false, 0, 0⟩,
 ⟨⟨some 4, none, .prim (.nilc (.tmp 3))⟩, [0], false, 0, 0⟩,
 ⟨⟨some 5, none, .prim (.fadr 3 (.tmp 4))⟩, [0, 1], false, 0, 0⟩,
 ⟨⟨some 6, none, .prim (.load 1 false (.tmp 5))⟩, [0, 1, 2], false, 0, 0⟩,
 ⟨⟨some 7, none, .prim (.un .not (.tmp 6))⟩, [0, 1, 2, 3], false, 0, 0⟩,
 ⟨⟨some 8, none, .prim (.mov (.tmp 7))⟩, [0, 1, 2, 3, 4], false, 0, 0⟩,
 ⟨⟨some 9, (some (8, true)), .prim (.mov (.tmp 0))⟩, (List.range 6), false, 0, 0⟩,
 ⟨⟨some 10, (some (8, true)), .prim (.nilc (.tmp 9))⟩, (List.range 7), false, 0, 0⟩,
 ⟨⟨some 11, (some (8, true)), .prim (.fadr 1 (.tmp 10))⟩, (List.range 8), false, 0, 0⟩,
 ⟨⟨some 12, (some (8, true)), .prim (.load 1 false (.tmp 11))⟩, (List.range 9), false, 0, 0⟩,
 ⟨⟨some 13, (some (8, true)), .prim (.mov (.tmp 0))⟩, (List.range 6), false, 0, 0⟩,
 ⟨⟨some 14, (some (8, true)), .prim (.nilc (.tmp 13))⟩, [0, 1, 2, 3, 4, 5, 10], false, 0, 0⟩,
 ⟨⟨some 15, (some (8, true)), .prim (.fadr 0 (.tmp 14))⟩, [0, 1, 2, 3, 4, 5, 10, 11], false, 0, 0⟩,
 ⟨⟨some 16, (some (8, true)), .prim (.load 1 false (.tmp 15))⟩, [0, 1, 2, 3, 4, 5, 10, 11, 12], false, 0, 0⟩,
 ⟨⟨some 17, (some (8, true)), .prim (.lens (.tmp 16))⟩, [0, 1, 2, 3, 4, 5, 10, 11, 12, 13], false, 0, 0⟩,
 ⟨⟨some 18, (some (8, true)), .prim (.bin false .lss (.tmp 12) (.tmp 17))⟩, (List.range 15), false, 0, 0⟩,
 ⟨⟨some 19, none, .prim (.pick (.tmp 8) (.tmp 18) (.const (.bool false)))⟩, (List.range 16), false, 0, 0⟩,
 ⟨⟨some 2, none, .prim (.mov (.tmp 19))⟩, (List.range 17), false, 0, 0⟩])
 .ret))
def o101 : List Tmp := []
def r101 : List RV := [.tmp 2]
theorem t101 : Text Tryz.prog 101 o101 c101 r101 20 := ⟨⟨Tryz.f101, _, by kernel_rfl, by kernel_rfl, rfl, by kernel_rfl, by kernel_rfl, rfl⟩, by kernel_rfl⟩
def c102 : ACode :=
 (.seq (.ops [⟨some 1, none, .prim (.boxr (.tmp 0))⟩,
 ⟨some 2, none, .prim (.mov (.const (.int .i64 0)))⟩])
 (.seq (.seq (.ops [⟨some 3, none, .prim (.load 6 true (.tmp 1))⟩,
 ⟨some 4, none, .call (.func 113) [(.tmp 3)]⟩,
 ⟨some 5, none, .prim (.un .not (.tmp 4))⟩])
 (.cond (.tmp 5)
 (.seq (.ops [⟨some 2, none, .prim (.mov (.const (.int .i64 0)))⟩])
 .ret)
 .skip))
 (.seq (.ops [⟨some 6, none, .prim (.load 6 true (.tmp 1))⟩,
 ⟨some 7, none, .call (.func 114) [(.tmp 6)]⟩,
 ⟨some 8, none, .prim (.bin false .add (.tmp 7) (.const (.int .i64 1)))⟩,
 ⟨some 2, none, .prim (.mov (.tmp 8))⟩])
 .ret)))
def o102 : List Tmp := []
def r102 : List RV := [.tmp 2]
theorem t102 : Text Tryz.prog 102 o102 c102 r102 9 := ⟨⟨Tryz.f102, _, by kernel_rfl, by kernel_rfl, rfl, by kernel_rfl, by kernel_rfl, rfl⟩, by kernel_rfl⟩
def c103 : ACode :=
 (.seq (.ops [⟨some 3, none, .prim (.boxr (.tmp 1))⟩,
 ⟨some 4, none, .prim (.mov (.const (.slice none 0 0)))⟩])
 (.seq (.ops [⟨some 8, none, .prim (.mov (.tmp 0))⟩,
 ⟨some 9, none, .prim (.lenv (.tmp 8))⟩,
 ⟨some 5, none, .prim (.mov (.tmp 9))⟩])
 (.seq (.seq (.ops [⟨some 10, none, .prim (.fadr 0 (.tmp 3))⟩,
 ⟨some 11, none, .prim (.load 1 false (.tmp 10))⟩])
 (.block 0 (.seq (.ops [⟨some 13, none, .prim (.bin false .eql (.tmp 11) (.const (.int .i64 1)))⟩,
 ⟨some 12, none, .prim (.mov (.tmp 13))⟩])
 (.cond (.tmp 12)
 (.seq (.ops [⟨some 14, none, .prim (.mov (.tmp 0))⟩,
 ⟨some 15, none, .prim (.fadr 1 (.tmp 3))⟩,
 ⟨some 16, none, .prim (.load 4 true (.tmp 15))⟩,
 ⟨some 17, none, .prim (.build [.pl (.int .i64 0), .pl (.int .u64 0), .pl (.int .u64 0), .pl (.int .u64 0), .pl (.int .u64 0), .pl (.int .i64 0), .pl (.int .i64 0)] [(0, 1, (.const (.int .i64 1))), (1, 4, (.tmp 16))])⟩,
 ⟨some 18, none, .prim (.bsl false 7 true 1 [.pl (.int .i64 0), .pl (.int .u64 0), .pl (.int .u64 0), .pl (.int .u64 0), .pl (.int .u64 0), .pl (.int .i64 0), .pl (.int .i64 0)] [(0, 7, (.tmp 17))])⟩,
 ⟨some 19, none, .prim (.app 7 (.tmp 14) (.tmp 18))⟩,
 ⟨some 4, none, .prim (.mov (.tmp 19))⟩])
 .ret)
 (.seq (.ops [⟨some 21, none, .prim (.bin false .eql (.tmp 11) (.const (.int .i64 2)))⟩,
 ⟨some 20, none, .prim (.mov (.tmp 21))⟩])
 (.cond (.tmp 20)
 (.seq (.ops [⟨some 22, none, .prim (.fadr 5 (.tmp 3))⟩,
 ⟨some 23, none, .prim (.load 1 false (.tmp 22))⟩,
 ⟨some 24, none, .prim (.lenv (.tmp 23))⟩,
 ⟨some 25, none, .prim (.mov (.const (.int .i64 0)))⟩])
 (.block 1 (.loop [1, 2, 3, 4, 5, 6, 7, 8, 9, 10, 11, 12, 13, 14, 15, 16, 17, 18, 19, 20, 21, 22, 26, 27, 28, 29, 30, 31, 32, 33, 34, 35, 36, 37, 38, 39, 40, 41, 42, 43, 44, 45, 46, 47, 48, 49, 50, 51, 52, 53, 54, 55, 56, 57, 58, 59, 60, 61, 62, 63, 64, 65, 66, 67, 68, 69, 70, 71, 72, 73, 74, 75, 76, 77, 78, 79, 80, 81, 82, 83, 84, 85, 86, 87, 88, 89, 90, 91, 92, 93, 94, 95, 96, 97, 98] (.seq (.ops [⟨some 26, none, .prim (.bin false .lss (.tmp 25) (.tmp 24))⟩])
 (.seq (.cond (.tmp 26)
 .skip
 (.exit 1))
 (.seq (.block 2 (.seq (.ops [⟨some 27, none, .prim (.iadrs 6 (.tmp 23) (.tmp 25))⟩,
 ⟨some 28, none, .prim (.load 6 true (.tmp 27))⟩,
 ⟨some 7, none, .fresh 6 7 (.tmp 28)⟩])
 (.ops [⟨some 29, none, .prim (.mov (.tmp 0))⟩,
 ⟨some 30, none, .prim (.load 6 true (.tmp 7))⟩,
 ⟨some 31, none, .call (.func 103) [(.tmp 29), (.tmp 30)]⟩,
 ⟨some 0, none, .prim (.mov (.tmp 31))⟩])))
 (.ops [⟨some 32, none, .prim (.bin false .add (.tmp 25) (.const (.int .i64 1)))⟩,
 ⟨some 25, none, .prim (.mov (.tmp 32))⟩])))))))
 (.seq (.ops [⟨some 34, none, .prim (.bin false .eql (.tmp 11) (.const (.int .i64 3)))⟩,
 ⟨some 33, none, .prim (.mov (.tmp 34))⟩])
 (.cond (.tmp 33)
 (.seq (.ops [⟨some 35, none, .prim (.mov (.tmp 0))⟩,
 ⟨some 36, none, .prim (.fadr 5 (.tmp 3))⟩,
 ⟨some 37, none, .prim (.load 1 false (.tmp 36))⟩,
 ⟨some 38, none, .call (.func 115) [(.tmp 35), (.tmp 37)]⟩,
 ⟨some 4, none, .prim (.mov (.tmp 38))⟩])
 .ret)
 (.seq (.ops [⟨some 40, none, .prim (.bin false .eql (.tmp 11) (.const (.int .i64 4)))⟩,
 ⟨some 39, none, .prim (.mov (.tmp 40))⟩])
 (.cond (.tmp 39)
 (.seq (.draw [⟨⟨some 41, none, .prim (.mov (.tmp 0))⟩, [], false, 0, 0⟩,
 ⟨⟨some 42, none, .prim (.mov (.tmp 5))⟩, [], false, 0, 0⟩,
 ⟨⟨some 43, none, .prim (.bin false .add (.tmp 42) (.const (.int .i64 1)))⟩, [1], false, 0, 0⟩,
 ⟨⟨some 44, none, .prim (.build [.pl (.int .i64 0), .pl (.int .u64 0), .pl (.int .u64 0), .pl (.int .u64 0), .pl (.int .u64 0), .pl (.int .i64 0), .pl (.int .i64 0)] [(0, 1, (.const (.int .i64 2))), (5, 1, (.tmp 43))])⟩, [1, 2], false, 0, 0⟩,
 ⟨⟨some 45, none, .prim (.bsl false 7 true 1 [.pl (.int .i64 0), .pl (.int .u64 0), .pl (.int .u64 0), .pl (.int .u64 0), .pl (.int .u64 0), .pl (.int .i64 0), .pl (.int .i64 0)] [(0, 7, (.tmp 44))])⟩, [1, 2, 3], false, 0, 0⟩,
 ⟨⟨some 46, none, .prim (.app 7 (.tmp 41) (.tmp 45))⟩, [0, 1, 2, 3, 4], true, 0, 0⟩,
 ⟨⟨some 47, none, .prim (.fadr 5 (.tmp 3))⟩, [], false, 0, 1⟩,
 ⟨⟨some 48, none, .prim (.load 1 false (.tmp 47))⟩, [6], false, 0, 1⟩,
 ⟨⟨some 49, none, .prim (.iadrs 6 (.tmp 48) (.const (.int .i64 0)))⟩, [6, 7], false, 0, 1⟩,
 ⟨⟨some 50, none, .prim (.load 6 true (.tmp 49))⟩, [6, 7, 8], false, 0, 1⟩,
 ⟨⟨some 51, none, .call (.func 103) [(.tmp 46), (.tmp 50)]⟩, (List.range 10), true, 0, 0⟩,
 ⟨⟨some 0, none, .prim (.mov (.tmp 51))⟩, (List.range 11), false, 2, 2⟩])
 (.seq (.ops [⟨some 52, none, .prim (.mov (.tmp 0))⟩,
 ⟨some 53, none, .prim (.mov (.tmp 5))⟩,
 ⟨some 54, none, .prim (.build [.pl (.int .i64 0), .pl (.int .u64 0), .pl (.int .u64 0), .pl (.int .u64 0), .pl (.int .u64 0), .pl (.int .i64 0), .pl (.int .i64 0)] [(0, 1, (.const (.int .i64 3))), (5, 1, (.tmp 53))])⟩,
 ⟨some 55, none, .prim (.bsl false 7 true 1 [.pl (.int .i64 0), .pl (.int .u64 0), .pl (.int .u64 0), .pl (.int .u64 0), .pl (.int .u64 0), .pl (.int .i64 0), .pl (.int .i64 0)] [(0, 7, (.tmp 54))])⟩,
 ⟨some 56, none, .prim (.app 7 (.tmp 52) (.tmp 55))⟩,
 ⟨some 0, none, .prim (.mov (.tmp 56))⟩])
 (.ops [⟨some 57, none, .prim (.mov (.tmp 0))⟩,
 ⟨some 58, none, .prim (.mov (.tmp 5))⟩,
 ⟨some 59, none, .prim (.mov (.tmp 0))⟩,
 ⟨some 60, none, .prim (.lenv (.tmp 59))⟩,
 ⟨some 61, none, .prim (.iadrs 7 (.tmp 57) (.tmp 58))⟩,
 ⟨some 62, none, .prim (.fadr 6 (.tmp 61))⟩,
 ⟨none, none, .prim (.store 1 (.tmp 62) (.tmp 60))⟩])))
 (.seq (.ops [⟨some 64, none, .prim (.bin false .eql (.tmp 11) (.const (.int .i64 5)))⟩,
 ⟨some 63, none, .prim (.mov (.tmp 64))⟩])
 (.cond (.tmp 63)
 (.seq (.ops [⟨some 65, none, .prim (.mov (.tmp 0))⟩,
 ⟨some 66, none, .prim (.fadr 5 (.tmp 3))⟩,
 ⟨some 67, none, .prim (.load 1 false (.tmp 66))⟩,
 ⟨some 68, none, .prim (.iadrs 6 (.tmp 67) (.const (.int .i64 0)))⟩,
 ⟨some 69, none, .prim (.load 6 true (.tmp 68))⟩,
 ⟨some 70, none, .call (.func 103) [(.tmp 65), (.tmp 69)]⟩,
 ⟨some 0, none, .prim (.mov (.tmp 70))⟩])
 (.ops [⟨some 71, none, .prim (.mov (.tmp 0))⟩,
 ⟨some 72, none, .prim (.mov (.tmp 5))⟩,
 ⟨some 73, none, .prim (.mov (.tmp 0))⟩,
 ⟨some 74, none, .prim (.lenv (.tmp 73))⟩,
 ⟨some 75, none, .prim (.bin false .add (.tmp 74) (.const (.int .i64 1)))⟩,
 ⟨some 76, none, .prim (.build [.pl (.int .i64 0), .pl (.int .u64 0), .pl (.int .u64 0), .pl (.int .u64 0), .pl (.int .u64 0), .pl (.int .i64 0), .pl (.int .i64 0)] [(0, 1, (.const (.int .i64 2))), (5, 1, (.tmp 72)), (6, 1, (.tmp 75))])⟩,
 ⟨some 77, none, .prim (.bsl false 7 true 1 [.pl (.int .i64 0), .pl (.int .u64 0), .pl (.int .u64 0), .pl (.int .u64 0), .pl (.int .u64 0), .pl (.int .i64 0), .pl (.int .i64 0)] [(0, 7, (.tmp 76))])⟩,
 ⟨some 78, none, .prim (.app 7 (.tmp 71) (.tmp 77))⟩,
 ⟨some 0, none, .prim (.mov (.tmp 78))⟩]))
 (.seq (.ops [⟨some 80, none, .prim (.bin false .eql (.tmp 11) (.const (.int .i64 6)))⟩,
 ⟨some 79, none, .prim (.mov (.tmp 80))⟩])
 (.cond (.tmp 79)
 (.seq (.draw [⟨⟨some 81, none, .prim (.mov (.tmp 0))⟩, [], false, 0, 0⟩,
 ⟨⟨some 82, none, .prim (.mov (.tmp 5))⟩, [], false, 0, 0⟩,
 ⟨⟨some 83, none, .prim (.bin false .add (.tmp 82) (.const (.int .i64 1)))⟩, [1], false, 0, 0⟩,
 ⟨⟨some 84, none, .prim (.build [.pl (.int .i64 0), .pl (.int .u64 0), .pl (.int .u64 0), .pl (.int .u64 0), .pl (.int .u64 0), .pl (.int .i64 0), .pl (.int .i64 0)] [(0, 1, (.const (.int .i64 2))), (5, 1, (.tmp 83))])⟩, [1, 2], false, 0, 0⟩,
 ⟨⟨some 85, none, .prim (.bsl false 7 true 1 [.pl (.int .i64 0), .pl (.int .u64 0), .pl (.int .u64 0), .pl (.int .u64 0), .pl (.int .u64 0), .pl (.int .i64 0), .pl (.int .i64 0)] [(0, 7, (.tmp 84))])⟩, [1, 2, 3], false, 0, 0⟩,
 ⟨⟨some 86, none, .prim (.app 7 (.tmp 81) (.tmp 85))⟩, [0, 1, 2, 3, 4], true, 0, 0⟩,
 ⟨⟨some 87, none, .prim (.fadr 5 (.tmp 3))⟩, [], false, 0, 1⟩,
 ⟨⟨some 88, none, .prim (.load 1 false (.tmp 87))⟩, [6], false, 0, 1⟩,
 ⟨⟨some 89, none, .prim (.iadrs 6 (.tmp 88) (.const (.int .i64 0)))⟩, [6, 7], false, 0, 1⟩,
 ⟨⟨some 90, none, .prim (.load 6 true (.tmp 89))⟩, [6, 7, 8], false, 0, 1⟩,
 ⟨⟨some 91, none, .call (.func 103) [(.tmp 86), (.tmp 90)]⟩, (List.range 10), true, 0, 0⟩,
 ⟨⟨some 0, none, .prim (.mov (.tmp 91))⟩, (List.range 11), false, 2, 2⟩])
 (.ops [⟨some 92, none, .prim (.mov (.tmp 0))⟩,
 ⟨some 93, none, .prim (.mov (.tmp 5))⟩,
 ⟨some 94, none, .prim (.mov (.tmp 0))⟩,
 ⟨some 95, none, .prim (.lenv (.tmp 94))⟩,
 ⟨some 96, none, .prim (.iadrs 7 (.tmp 92) (.tmp 93))⟩,
 ⟨some 97, none, .prim (.fadr 6 (.tmp 96))⟩,
 ⟨none, none, .prim (.store 1 (.tmp 97) (.tmp 95))⟩]))
 .skip))))))))))))))
 (.seq (.ops [⟨some 98, none, .prim (.mov (.tmp 0))⟩,
 ⟨some 4, none, .prim (.mov (.tmp 98))⟩])
 .ret))))
def o103 : List Tmp := []
def r103 : List RV := [.tmp 4]
theorem t103 : Text Tryz.prog 103 o103 c103 r103 99 := ⟨⟨Tryz.f103, _, by kernel_rfl, by kernel_rfl, rfl, by kernel_rfl, by kernel_rfl, rfl⟩, by kernel_rfl⟩
def c104 : ACode :=
 (.seq (.ops [⟨some 4, none, .prim (.mov (.const (.bool false)))⟩])
 (.seq (.ops [⟨some 5, none, .prim (.mov (.tmp 0))⟩,
 ⟨some 6, none, .prim (.mov (.tmp 1))⟩,
 ⟨some 7, none, .call (.func 116) [(.tmp 5), (.tmp 6)]⟩,
 ⟨some 8, none, .prim (.bin false .geq (.tmp 7) (.const (.int .i64 0)))⟩,
 ⟨some 4, none, .prim (.mov (.tmp 8))⟩])
 .ret))
def o104 : List Tmp := []
def r104 : List RV := [.tmp 4]
theorem t104 : Text Tryz.prog 104 o104 c104 r104 9 := ⟨⟨Tryz.f104, _, by kernel_rfl, by kernel_rfl, rfl, by kernel_rfl, by kernel_rfl, rfl⟩, by kernel_rfl⟩
def c105 : ACode :=
 (.seq (.ops [⟨some 2, none, .prim (.boxr (.tmp 0))⟩,
 ⟨some 3, none, .prim (.mov (.const (.bool false)))⟩])
 (.seq (.ops [⟨some 4, none, .prim (.load 7 true (.tmp 2))⟩,
 ⟨some 5, none, .prim (.load 1 false (.tmp 1))⟩,
 ⟨some 6, none, .prim (.lenv (.tmp 5))⟩,
 ⟨some 7, none, .call (.func 106) [(.tmp 4), (.tmp 6), (.const (.bool false))]⟩,
 ⟨some 8, none, .prim (.un .not (.tmp 7))⟩,
 ⟨some 3, none, .prim (.mov (.tmp 8))⟩])
 .ret))
def o105 : List Tmp := []
def r105 : List RV := [.tmp 3]
theorem t105 : Text Tryz.prog 105 o105 c105 r105 9 := ⟨⟨Tryz.f105, _, by kernel_rfl, by kernel_rfl, rfl, by kernel_rfl, by kernel_rfl, rfl⟩, by kernel_rfl⟩
def c106 : ACode :=
 (.seq (.ops [⟨some 3, none, .prim (.boxr (.tmp 0))⟩,
 ⟨some 4, none, .prim (.boxr (.tmp 1))⟩,
 ⟨some 6, none, .prim (.mov (.const (.bool false)))⟩])
 (.seq (.ops [⟨some 8, none, .prim (.mkfn 117 [] [(.tmp 4)])⟩,
 ⟨some 7, none, .prim (.mov (.tmp 8))⟩])
 (.seq (.seq (.ops [⟨some 9, none, .prim (.fadr 0 (.tmp 3))⟩,
 ⟨some 10, none, .prim (.load 1 false (.tmp 9))⟩,
 ⟨some 11, none, .prim (.bin false .neq (.tmp 10) (.const (.int .i64 1)))⟩,
 ⟨some 12, none, .prim (.mov (.tmp 11))⟩,
 ⟨some 13, (some (12, true)), .prim (.fadr 1 (.tmp 3))⟩,
 ⟨some 14, (some (12, true)), .prim (.load 4 true (.tmp 13))⟩,
 ⟨some 15, (some (12, true)), .prim (.build [.pl (.int .u64 0), .pl (.int .u64 0), .pl (.int .u64 0), .pl (.int .u64 0)] [])⟩,
 ⟨some 16, (some (12, true)), .prim (.eqa true [.int, .int, .int, .int] (.tmp 14) (.tmp 15))⟩,
 ⟨some 17, none, .prim (.pick (.tmp 12) (.tmp 16) (.const (.bool false)))⟩])
 (.cond (.tmp 17)
 (.seq (.ops [⟨some 6, none, .prim (.mov (.const (.bool false)))⟩])
 .ret)
 .skip))
 (.seq (.seq (.ops [⟨some 18, none, .prim (.fadr 0 (.tmp 3))⟩,
 ⟨some 19, none, .prim (.load 1 false (.tmp 18))⟩])
 (.block 0 (.seq (.ops [⟨some 21, none, .prim (.bin false .eql (.tmp 19) (.const (.int .i64 1)))⟩,
 ⟨some 20, none, .prim (.mov (.tmp 21))⟩])
 (.cond (.tmp 20)
 (.seq (.ops [⟨some 22, none, .prim (.fadr 5 (.tmp 3))⟩,
 ⟨some 23, none, .prim (.load 1 false (.tmp 22))⟩,
 ⟨some 24, none, .prim (.bin false .eql (.tmp 23) (.const (.int .i64 0)))⟩,
 ⟨some 25, none, .prim (.mov (.tmp 24))⟩,
 ⟨some 26, (some (25, true)), .prim (.fadr 6 (.tmp 3))⟩,
 ⟨some 27, (some (25, true)), .prim (.load 1 false (.tmp 26))⟩,
 ⟨some 28, (some (25, true)), .prim (.bin false .eql (.tmp 27) (.const (.int .i64 0)))⟩,
 ⟨some 29, none, .prim (.pick (.tmp 25) (.tmp 28) (.const (.bool false)))⟩,
 ⟨some 30, none, .prim (.mov (.tmp 29))⟩,
 ⟨some 31, (some (30, true)), .prim (.mov (.tmp 2))⟩,
 ⟨some 32, (some (30, true)), .prim (.un .not (.tmp 31))⟩,
 ⟨some 33, none, .prim (.pick (.tmp 30) (.tmp 32) (.const (.bool false)))⟩,
 ⟨some 6, none, .prim (.mov (.tmp 33))⟩])
 .ret)
 (.seq (.ops [⟨some 35, none, .prim (.bin false .eql (.tmp 19) (.const (.int .i64 2)))⟩,
 ⟨some 34, none, .prim (.mov (.tmp 35))⟩])
 (.cond (.tmp 34)
 (.seq (.ops [⟨some 36, none, .prim (.mov (.tmp 7))⟩,
 ⟨some 37, none, .prim (.fadr 5 (.tmp 3))⟩,
 ⟨some 38, none, .prim (.load 1 false (.tmp 37))⟩,
 ⟨some 39, none, .call (.tmp 36) [(.tmp 38)]⟩,
 ⟨some 40, none, .prim (.mov (.tmp 39))⟩,
 ⟨some 41, (some (40, true)), .prim (.mov (.tmp 7))⟩,
 ⟨some 42, (some (40, true)), .prim (.fadr 6 (.tmp 3))⟩,
 ⟨some 43, (some (40, true)), .prim (.load 1 false (.tmp 42))⟩,
 ⟨some 44, (some (40, true)), .call (.tmp 41) [(.tmp 43)]⟩,
 ⟨some 45, none, .prim (.pick (.tmp 40) (.tmp 44) (.const (.bool false)))⟩,
 ⟨some 6, none, .prim (.mov (.tmp 45))⟩])
 .ret)
 (.seq (.ops [⟨some 47, none, .prim (.bin false .eql (.tmp 19) (.const (.int .i64 3)))⟩,
 ⟨some 46, none, .prim (.mov (.tmp 47))⟩])
 (.cond (.tmp 46)
 (.seq (.ops [⟨some 48, none, .prim (.mov (.tmp 7))⟩,
 ⟨some 49, none, .prim (.fadr 5 (.tmp 3))⟩,
 ⟨some 50, none, .prim (.load 1 false (.tmp 49))⟩,
 ⟨some 51, none, .call (.tmp 48) [(.tmp 50)]⟩,
 ⟨some 52, none, .prim (.mov (.tmp 51))⟩,
 ⟨some 53, (some (52, true)), .prim (.fadr 6 (.tmp 3))⟩,
 ⟨some 54, (some (52, true)), .prim (.load 1 false (.tmp 53))⟩,
 ⟨some 55, (some (52, true)), .prim (.bin false .eql (.tmp 54) (.const (.int .i64 0)))⟩,
 ⟨some 56, none, .prim (.pick (.tmp 52) (.tmp 55) (.const (.bool false)))⟩,
 ⟨some 6, none, .prim (.mov (.tmp 56))⟩])
 .ret)
 .skip))))))))
 (.seq (.ops [⟨some 57, none, .prim (.fadr 0 (.tmp 3))⟩,
 ⟨some 58, none, .prim (.load 1 false (.tmp 57))⟩,
 ⟨some 59, none, .prim (.bin false .eql (.tmp 58) (.const (.int .i64 4)))⟩,
 ⟨some 60, none, .prim (.mov (.tmp 59))⟩,
 ⟨some 61, (some (60, true)), .prim (.fadr 5 (.tmp 3))⟩,
 ⟨some 62, (some (60, true)), .prim (.load 1 false (.tmp 61))⟩,
 ⟨some 63, (some (60, true)), .prim (.bin false .eql (.tmp 62) (.const (.int .i64 0)))⟩,
 ⟨some 64, none, .prim (.pick (.tmp 60) (.tmp 63) (.const (.bool false)))⟩,
 ⟨some 65, none, .prim (.mov (.tmp 64))⟩,
 ⟨some 66, (some (65, true)), .prim (.fadr 6 (.tmp 3))⟩,
 ⟨some 67, (some (65, true)), .prim (.load 1 false (.tmp 66))⟩,
 ⟨some 68, (some (65, true)), .prim (.bin false .eql (.tmp 67) (.const (.int .i64 0)))⟩,
 ⟨some 69, none, .prim (.pick (.tmp 65) (.tmp 68) (.const (.bool false)))⟩,
 ⟨some 6, none, .prim (.mov (.tmp 69))⟩])
 .ret)))))
def o106 : List Tmp := []
def r106 : List RV := [.tmp 6]
theorem t106 : Text Tryz.prog 106 o106 c106 r106 70 := ⟨⟨Tryz.f106, _, by kernel_rfl, by kernel_rfl, rfl, by kernel_rfl, by kernel_rfl, rfl⟩, by kernel_rfl⟩
def c107 : ACode :=
 (.seq (.ops [⟨some 6, none, .prim (.mov (.const (.int .u64 0)))⟩])
 (.seq (.seq (.ops [⟨some 8, none, .prim (.mov (.tmp 2))⟩,
 ⟨some 9, none, .prim (.nilc (.tmp 8))⟩,
 ⟨some 10, none, .prim (.load 1 false (.tmp 9))⟩,
 ⟨some 11, none, .prim (.mov (.tmp 1))⟩,
 ⟨some 12, none, .prim (.bin false .shr (.tmp 10) (.tmp 11))⟩,
 ⟨some 13, none, .prim (.bin false .and (.tmp 12) (.const (.int .u64 1)))⟩,
 ⟨some 14, none, .prim (.bin false .eql (.tmp 13) (.const (.int .u64 1)))⟩])
 (.cond (.tmp 14)
 (.seq (.ops [⟨some 6, none, .prim (.mov (.const (.int .u64 0)))⟩])
 .ret)
 .skip))
 (.seq (.draw [⟨⟨some 15, none, .prim (.mov (.tmp 2))⟩, [], false, 0, 0⟩,
 ⟨⟨some 16, none, .prim (.nilc (.tmp 15))⟩, [0], false, 0, 0⟩,
 ⟨⟨some 17, none, .prim (.load 1 false (.tmp 16))⟩, [0, 1], false, 0, 0⟩,
 ⟨⟨some 18, none, .prim (.mov (.tmp 1))⟩, [], false, 0, 0⟩,
 ⟨⟨some 19, none, .prim (.bin false .shl (.const (.int .u64 1)) (.tmp 18))⟩, [3], false, 0, 0⟩,
 ⟨⟨some 20, none, .prim (.bin false .or (.tmp 17) (.tmp 19))⟩, [0, 1, 2, 3, 4], false, 0, 0⟩,
 ⟨⟨some 21, none, .prim (.nilc (.tmp 15))⟩, (List.range 6), false, 0, 0⟩,
 ⟨⟨none, none, .prim (.store 1 (.tmp 21) (.tmp 20))⟩, (List.range 7), true, 0, 0⟩])
 (.seq (.seq (.ops [⟨some 22, none, .prim (.mov (.tmp 0))⟩,
 ⟨some 23, none, .prim (.mov (.tmp 1))⟩,
 ⟨some 24, none, .prim (.iadrs 7 (.tmp 22) (.tmp 23))⟩,
 ⟨some 25, none, .prim (.load 7 true (.tmp 24))⟩,
 ⟨some 7, none, .prim (.allocm [.pl (.int .i64 0), .pl (.int .u64 0), .pl (.int .u64 0), .pl (.int .u64 0), .pl (.int .u64 0), .pl (.int .i64 0), .pl (.int .i64 0)])⟩,
 ⟨none, none, .prim (.store 7 (.tmp 7) (.tmp 25))⟩])
 (.seq (.ops [⟨some 26, none, .prim (.fadr 0 (.tmp 7))⟩,
 ⟨some 27, none, .prim (.load 1 false (.tmp 26))⟩])
 (.block 0 (.seq (.ops [⟨some 29, none, .prim (.bin false .eql (.tmp 27) (.const (.int .i64 2)))⟩,
 ⟨some 28, none, .prim (.mov (.tmp 29))⟩])
 (.cond (.tmp 28)
 (.seq (.draw [⟨⟨some 30, none, .prim (.mov (.tmp 0))⟩, [], false, 0, 0⟩,
 ⟨⟨some 31, none, .prim (.fadr 5 (.tmp 7))⟩, [], false, 0, 0⟩,
 ⟨⟨some 32, none, .prim (.load 1 false (.tmp 31))⟩, [1], false, 0, 0⟩,
 ⟨⟨some 33, none, .prim (.mov (.tmp 2))⟩, [], false, 0, 0⟩,
 ⟨⟨some 34, none, .call (.func 107) [(.tmp 30), (.tmp 32), (.tmp 33)]⟩, [0, 1, 2, 3], true, 0, 0⟩,
 ⟨⟨some 35, none, .prim (.mov (.tmp 0))⟩, [], false, 0, 1⟩,
 ⟨⟨some 36, none, .prim (.fadr 6 (.tmp 7))⟩, [], false, 0, 1⟩,
 ⟨⟨some 37, none, .prim (.load 1 false (.tmp 36))⟩, [6], false, 0, 1⟩,
 ⟨⟨some 38, none, .prim (.mov (.tmp 2))⟩, [], false, 0, 1⟩,
 ⟨⟨some 39, none, .call (.func 107) [(.tmp 35), (.tmp 37), (.tmp 38)]⟩, (List.range 9), true, 0, 0⟩,
 ⟨⟨some 40, none, .prim (.bin false .or (.tmp 34) (.tmp 39))⟩, (List.range 10), false, 2, 2⟩,
 ⟨⟨some 6, none, .prim (.mov (.tmp 40))⟩, (List.range 11), false, 2, 2⟩])
 .ret)
 (.seq (.ops [⟨some 42, none, .prim (.bin false .eql (.tmp 27) (.const (.int .i64 3)))⟩,
 ⟨some 41, none, .prim (.mov (.tmp 42))⟩])
 (.cond (.tmp 41)
 (.seq (.ops [⟨some 43, none, .prim (.mov (.tmp 0))⟩,
 ⟨some 44, none, .prim (.fadr 5 (.tmp 7))⟩,
 ⟨some 45, none, .prim (.load 1 false (.tmp 44))⟩,
 ⟨some 46, none, .prim (.mov (.tmp 2))⟩,
 ⟨some 47, none, .call (.func 107) [(.tmp 43), (.tmp 45), (.tmp 46)]⟩,
 ⟨some 6, none, .prim (.mov (.tmp 47))⟩])
 .ret)
 .skip)))))))
 (.seq (.ops [⟨some 48, none, .prim (.mov (.tmp 1))⟩,
 ⟨some 49, none, .prim (.bin false .shl (.const (.int .u64 1)) (.tmp 48))⟩,
 ⟨some 6, none, .prim (.mov (.tmp 49))⟩])
 .ret)))))
def o107 : List Tmp := [7]
def r107 : List RV := [.tmp 6]
theorem t107 : Text Tryz.prog 107 o107 c107 r107 50 := ⟨⟨Tryz.f107, _, by kernel_rfl, by kernel_rfl, rfl, by kernel_rfl, by kernel_rfl, rfl⟩, by kernel_rfl⟩
def c109 : ACode :=
 (.seq (.ops [⟨some 2, none, .prim (.mov (.const (.bool false)))⟩])
 (.seq (.draw [⟨⟨some 3, none, .prim (.mov (.tmp 0))⟩, [], false, 0, 0⟩,
 ⟨⟨some 4, none, .prim (.nilc (.tmp 3))⟩, [0], false, 0, 0⟩,
 ⟨⟨some 5, none, .prim (.fadr 2 (.tmp 4))⟩, [0, 1], false, 0, 0⟩,
 ⟨⟨some 6, none, .prim (.load 1 false (.tmp 5))⟩, [0, 1, 2], false, 0, 0⟩,
 ⟨⟨some 7, none, .prim (.mov (.tmp 6))⟩, [0, 1, 2, 3], false, 0, 0⟩,
 ⟨⟨some 8, (some (7, false)), .prim (.mov (.tmp 0))⟩, [0, 1, 2, 3, 4], false, 0, 0⟩,
 ⟨⟨some 9, (some (7, false)), .prim (.nilc (.tmp 8))⟩, (List.range 6), false, 0, 0⟩,
 ⟨⟨some 10, (some (7, false)), .prim (.fadr 1 (.tmp 9))⟩, (List.range 7), false, 0, 0⟩,
 ⟨⟨some 11, (some (7, false)), .prim (.load 1 false (.tmp 10))⟩, (List.range 8), false, 0, 0⟩,
 ⟨⟨some 12, (some (7, false)), .prim (.mov (.tmp 0))⟩, [0, 1, 2, 3, 4], false, 0, 0⟩,
 ⟨⟨some 13, (some (7, false)), .prim (.nilc (.tmp 12))⟩, [0, 1, 2, 3, 4, 9], false, 0, 0⟩,
 ⟨⟨some 14, (some (7, false)), .prim (.fadr 0 (.tmp 13))⟩, [0, 1, 2, 3, 4, 9, 10], false, 0, 0⟩,
 ⟨⟨some 15, (some (7, false)), .prim (.load 1 false (.tmp 14))⟩, [0, 1, 2, 3, 4, 9, 10, 11], false, 0, 0⟩,
 ⟨⟨some 16, (some (7, false)), .prim (.lens (.tmp 15))⟩, [0, 1, 2, 3, 4, 9, 10, 11, 12], false, 0, 0⟩,
 ⟨⟨some 17, (some (7, false)), .prim (.bin false .geq (.tmp 11) (.tmp 16))⟩, (List.range 14), false, 0, 0⟩,
 ⟨⟨some 18, none, .prim (.pick (.tmp 7) (.const (.bool true)) (.tmp 17))⟩, (List.range 15), false, 0, 0⟩,
 ⟨⟨some 2, none, .prim (.mov (.tmp 18))⟩, (List.range 16), false, 0, 0⟩])
 .ret))
def o109 : List Tmp := []
def r109 : List RV := [.tmp 2]
theorem t109 : Text Tryz.prog 109 o109 c109 r109 19 := ⟨⟨Tryz.f109, _, by kernel_rfl, by kernel_rfl, rfl, by kernel_rfl, by kernel_rfl, rfl⟩, by kernel_rfl⟩
def c110 : ACode :=
 (.seq (.ops [⟨some 4, none, .prim (.mov (.const (.bool false)))⟩])
 (.seq (.draw [⟨⟨some 5, none, .prim (.mov (.tmp 0))⟩, [], false, 0, 0⟩,
 ⟨⟨some 6, none, .call (.func 109) [(.tmp 5)]⟩, [0], true, 0, 0⟩,
 ⟨⟨some 7, none, .prim (.un .not (.tmp 6))⟩, [0, 1], false, 1, 1⟩,
 ⟨⟨some 8, none, .prim (.mov (.tmp 7))⟩, [0, 1, 2], false, 1, 1⟩,
 ⟨⟨some 9, (some (8, true)), .prim (.mov (.tmp 0))⟩, [0, 1, 2, 3], false, 1, 1⟩,
 ⟨⟨some 10, (some (8, true)), .prim (.nilc (.tmp 9))⟩, [0, 1, 2, 3, 4], false, 1, 1⟩,
 ⟨⟨some 11, (some (8, true)), .prim (.fadr 0 (.tmp 10))⟩, (List.range 6), false, 1, 1⟩,
 ⟨⟨some 12, (some (8, true)), .prim (.load 1 false (.tmp 11))⟩, (List.range 7), false, 1, 1⟩,
 ⟨⟨some 13, (some (8, true)), .prim (.mov (.tmp 0))⟩, [0, 1, 2, 3], false, 1, 1⟩,
 ⟨⟨some 14, (some (8, true)), .prim (.nilc (.tmp 13))⟩, [0, 1, 2, 3, 8], false, 1, 1⟩,
 ⟨⟨some 15, (some (8, true)), .prim (.fadr 1 (.tmp 14))⟩, [0, 1, 2, 3, 8, 9], false, 1, 1⟩,
 ⟨⟨some 16, (some (8, true)), .prim (.load 1 false (.tmp 15))⟩, [0, 1, 2, 3, 8, 9, 10], false, 1, 1⟩,
 ⟨⟨some 17, (some (8, true)), .prim (.idxs (.tmp 12) (.tmp 16))⟩, (List.range 12), false, 1, 1⟩,
 ⟨⟨some 18, (some (8, true)), .prim (.mov (.tmp 1))⟩, [0, 1, 2, 3], false, 1, 1⟩,
 ⟨⟨some 19, (some (8, true)), .prim (.bin false .eql (.tmp 17) (.tmp 18))⟩, (List.range 14), false, 1, 1⟩,
 ⟨⟨some 20, none, .prim (.pick (.tmp 8) (.tmp 19) (.const (.bool false)))⟩, (List.range 15), false, 1, 1⟩,
 ⟨⟨some 4, none, .prim (.mov (.tmp 20))⟩, (List.range 16), false, 1, 1⟩])
 .ret))
def o110 : List Tmp := []
def r110 : List RV := [.tmp 4]
theorem t110 : Text Tryz.prog 110 o110 c110 r110 21 := ⟨⟨Tryz.f110, _, by kernel_rfl, by kernel_rfl, rfl, by kernel_rfl, by kernel_rfl, rfl⟩, by kernel_rfl⟩
def c111 : ACode :=
 (.seq (.ops [⟨some 4, none, .prim (.allocm [.pl (.int .i64 0), .pl (.int .u64 0), .pl (.int .u64 0), .pl (.int .u64 0), .pl (.int .u64 0), .nils])⟩])
 (.seq (.ops [⟨some 6, none, .prim (.mov (.tmp 0))⟩,
 ⟨some 7, none, .prim (.mov (.tmp 1))⟩,
 ⟨some 8, none, .call (.func 121) [(.tmp 6), (.tmp 7)]⟩,
 ⟨some 5, none, .fresh 6 5 (.tmp 8)⟩])
 (.seq (.block 0 (.seq (.ops [⟨some 10, none, .prim (.mov (.tmp 0))⟩,
 ⟨some 11, none, .call (.func 98) [(.tmp 10), (.const (.int .u8 42))]⟩,
 ⟨some 9, none, .prim (.mov (.tmp 11))⟩])
 (.cond (.tmp 9)
 (.seq (.ops [⟨some 12, none, .prim (.load 6 true (.tmp 5))⟩,
 ⟨some 13, none, .prim (.bsl false 6 true 1 [.pl (.int .i64 0), .pl (.int .u64 0), .pl (.int .u64 0), .pl (.int .u64 0), .pl (.int .u64 0), .nils] [(0, 6, (.tmp 12))])⟩,
 ⟨some 14, none, .prim (.build [.pl (.int .i64 0), .pl (.int .u64 0), .pl (.int .u64 0), .pl (.int .u64 0), .pl (.int .u64 0), .nils] [(0, 1, (.const (.int .i64 4))), (5, 1, (.tmp 13))])⟩,
 ⟨none, none, .prim (.store 6 (.tmp 4) (.tmp 14))⟩])
 .ret)
 (.seq (.ops [⟨some 16, none, .prim (.mov (.tmp 0))⟩,
 ⟨some 17, none, .call (.func 98) [(.tmp 16), (.const (.int .u8 43))]⟩,
 ⟨some 15, none, .prim (.mov (.tmp 17))⟩])
 (.cond (.tmp 15)
 (.seq (.ops [⟨some 18, none, .prim (.load 6 true (.tmp 5))⟩,
 ⟨some 19, none, .prim (.bsl false 6 true 1 [.pl (.int .i64 0), .pl (.int .u64 0), .pl (.int .u64 0), .pl (.int .u64 0), .pl (.int .u64 0), .nils] [(0, 6, (.tmp 18))])⟩,
 ⟨some 20, none, .prim (.build [.pl (.int .i64 0), .pl (.int .u64 0), .pl (.int .u64 0), .pl (.int .u64 0), .pl (.int .u64 0), .nils] [(0, 1, (.const (.int .i64 5))), (5, 1, (.tmp 19))])⟩,
 ⟨none, none, .prim (.store 6 (.tmp 4) (.tmp 20))⟩])
 .ret)
 (.seq (.ops [⟨some 22, none, .prim (.mov (.tmp 0))⟩,
 ⟨some 23, none, .call (.func 98) [(.tmp 22), (.const (.int .u8 63))]⟩,
 ⟨some 21, none, .prim (.mov (.tmp 23))⟩])
 (.cond (.tmp 21)
 (.seq (.ops [⟨some 24, none, .prim (.load 6 true (.tmp 5))⟩,
 ⟨some 25, none, .prim (.bsl false 6 true 1 [.pl (.int .i64 0), .pl (.int .u64 0), .pl (.int .u64 0), .pl (.int .u64 0), .pl (.int .u64 0), .nils] [(0, 6, (.tmp 24))])⟩,
 ⟨some 26, none, .prim (.build [.pl (.int .i64 0), .pl (.int .u64 0), .pl (.int .u64 0), .pl (.int .u64 0), .pl (.int .u64 0), .nils] [(0, 1, (.const (.int .i64 6))), (5, 1, (.tmp 25))])⟩,
 ⟨none, none, .prim (.store 6 (.tmp 4) (.tmp 26))⟩])
 .ret)
 .skip)))))))
 (.seq (.ops [⟨some 27, none, .prim (.load 6 true (.tmp 5))⟩,
 ⟨none, none, .prim (.store 6 (.tmp 4) (.tmp 27))⟩])
 .ret))))
def o111 : List Tmp := [4]
def r111 : List RV := [.cell 4 6 true]
theorem t111 : Text Tryz.prog 111 o111 c111 r111 28 := ⟨⟨Tryz.f111, _, by kernel_rfl, by kernel_rfl, rfl, by kernel_rfl, by kernel_rfl, rfl⟩, by kernel_rfl⟩
def c112 : ACode :=
 (.seq (.ops [⟨some 2, none, .prim (.allocm [.pl (.int .i64 0), .pl (.int .u64 0), .pl (.int .u64 0), .pl (.int .u64 0), .pl (.int .u64 0), .nils])⟩])
 (.seq (.ops [⟨some 5, none, .prim (.mov (.tmp 0))⟩,
 ⟨some 6, none, .call (.func 122) [(.tmp 5)]⟩,
 ⟨some 3, none, .fresh 6 3 (.tmp 6)⟩])
 (.seq (.seq (.ops [⟨some 7, none, .prim (.mov (.tmp 0))⟩,
 ⟨some 8, none, .call (.func 101) [(.tmp 7)]⟩,
 ⟨some 9, none, .prim (.un .not (.tmp 8))⟩])
 (.cond (.tmp 9)
 (.seq (.ops [⟨some 10, none, .prim (.load 6 true (.tmp 3))⟩,
 ⟨none, none, .prim (.store 6 (.tmp 2) (.tmp 10))⟩])
 .ret)
 .skip))
 (.seq (.ops [⟨some 4, none, .prim (.mov (.const (.int .i64 0)))⟩])
 (.seq (.seq (.draw [⟨⟨some 11, none, .prim (.mov (.tmp 0))⟩, [], false, 0, 0⟩,
 ⟨⟨some 12, none, .prim (.nilc (.tmp 11))⟩, [0], false, 0, 0⟩,
 ⟨⟨some 13, none, .prim (.fadr 0 (.tmp 12))⟩, [0, 1], false, 0, 0⟩,
 ⟨⟨some 14, none, .prim (.load 1 false (.tmp 13))⟩, [0, 1, 2], false, 0, 0⟩,
 ⟨⟨some 15, none, .prim (.mov (.tmp 0))⟩, [], false, 0, 0⟩,
 ⟨⟨some 16, none, .prim (.nilc (.tmp 15))⟩, [4], false, 0, 0⟩,
 ⟨⟨some 17, none, .prim (.fadr 1 (.tmp 16))⟩, [4, 5], false, 0, 0⟩,
 ⟨⟨some 18, none, .prim (.load 1 false (.tmp 17))⟩, [4, 5, 6], false, 0, 0⟩,
 ⟨⟨some 19, none, .prim (.idxs (.tmp 14) (.tmp 18))⟩, (List.range 8), false, 0, 0⟩])
 (.block 0 (.seq (.ops [⟨some 22, none, .prim (.bin false .eql (.tmp 19) (.const (.int .u8 42)))⟩,
 ⟨some 21, none, .prim (.mov (.tmp 22))⟩])
 (.cond (.tmp 21)
 (.ops [⟨some 4, none, .prim (.mov (.const (.int .i64 4)))⟩])
 (.seq (.ops [⟨some 24, none, .prim (.bin false .eql (.tmp 19) (.const (.int .u8 43)))⟩,
 ⟨some 23, none, .prim (.mov (.tmp 24))⟩])
 (.cond (.tmp 23)
 (.ops [⟨some 4, none, .prim (.mov (.const (.int .i64 5)))⟩])
 (.seq (.ops [⟨some 26, none, .prim (.bin false .eql (.tmp 19) (.const (.int .u8 63)))⟩,
 ⟨some 25, none, .prim (.mov (.tmp 26))⟩])
 (.cond (.tmp 25)
 (.ops [⟨some 4, none, .prim (.mov (.const (.int .i64 6)))⟩])
 (.seq (.ops [⟨some 20, none, .prim (.load 6 true (.tmp 3))⟩,
 ⟨none, none, .prim (.store 6 (.tmp 2) (.tmp 20))⟩])
 .ret)))))))))
 (.seq (.ops [⟨some 27, none, .prim (.mov (.tmp 0))⟩,
 ⟨some 28, none, .prim (.nilc (.tmp 27))⟩,
 ⟨some 29, none, .prim (.fadr 1 (.tmp 28))⟩,
 ⟨some 30, none, .prim (.load 1 false (.tmp 29))⟩,
 ⟨some 31, none, .prim (.bin false .add (.tmp 30) (.const (.int .i64 1)))⟩,
 ⟨some 32, none, .prim (.nilc (.tmp 27))⟩,
 ⟨some 33, none, .prim (.fadr 1 (.tmp 32))⟩,
 ⟨none, none, .prim (.store 1 (.tmp 33) (.tmp 31))⟩])
 (.seq (.ops [⟨some 34, none, .prim (.mov (.tmp 4))⟩,
 ⟨some 35, none, .prim (.load 6 true (.tmp 3))⟩,
 ⟨some 36, none, .prim (.bsl false 6 true 1 [.pl (.int .i64 0), .pl (.int .u64 0), .pl (.int .u64 0), .pl (.int .u64 0), .pl (.int .u64 0), .nils] [(0, 6, (.tmp 35))])⟩,
 ⟨some 37, none, .prim (.build [.pl (.int .i64 0), .pl (.int .u64 0), .pl (.int .u64 0), .pl (.int .u64 0), .pl (.int .u64 0), .nils] [(0, 1, (.tmp 34)), (5, 1, (.tmp 36))])⟩,
 ⟨none, none, .prim (.store 6 (.tmp 2) (.tmp 37))⟩])
 .ret)))))))
def o112 : List Tmp := [2]
def r112 : List RV := [.cell 2 6 true]
theorem t112 : Text Tryz.prog 112 o112 c112 r112 38 := ⟨⟨Tryz.f112, _, by kernel_rfl, by kernel_rfl, rfl, by kernel_rfl, by kernel_rfl, rfl⟩, by kernel_rfl⟩
def c113 : ACode :=
 (.seq (.ops [⟨some 1, none, .prim (.boxr (.tmp 0))⟩,
 ⟨some 2, none, .prim (.mov (.const (.bool false)))⟩])
 (.seq (.ops [⟨some 4, none, .prim (.fadr 5 (.tmp 1))⟩,
 ⟨some 5, none, .prim (.load 1 false (.tmp 4))⟩,
 ⟨some 6, none, .prim (.lenv (.tmp 5))⟩,
 ⟨some 3, none, .prim (.mov (.tmp 6))⟩])
 (.seq (.seq (.ops [⟨some 7, none, .prim (.fadr 0 (.tmp 1))⟩,
 ⟨some 8, none, .prim (.load 1 false (.tmp 7))⟩])
 (.block 0 (.seq (.ops [⟨some 10, none, .prim (.bin false .eql (.tmp 8) (.const (.int .i64 1)))⟩,
 ⟨some 9, none, .prim (.mov (.tmp 10))⟩])
 (.cond (.tmp 9)
 (.seq (.ops [⟨some 11, none, .prim (.mov (.tmp 3))⟩,
 ⟨some 12, none, .prim (.bin false .eql (.tmp 11) (.const (.int .i64 0)))⟩,
 ⟨some 2, none, .prim (.mov (.tmp 12))⟩])
 .ret)
 (.seq (.ops [⟨some 14, none, .prim (.bin false .eql (.tmp 8) (.const (.int .i64 2)))⟩,
 ⟨some 13, none, .prim (.mov (.tmp 14))⟩])
 (.cond (.tmp 13)
 .skip
 (.seq (.ops [⟨some 16, none, .prim (.bin false .eql (.tmp 8) (.const (.int .i64 3)))⟩,
 ⟨some 15, none, .prim (.mov (.tmp 16))⟩])
 (.cond (.tmp 15)
 (.seq (.ops [⟨some 17, none, .prim (.mov (.tmp 3))⟩,
 ⟨some 18, none, .prim (.bin false .eql (.tmp 17) (.const (.int .i64 0)))⟩])
 (.cond (.tmp 18)
 (.seq (.ops [⟨some 2, none, .prim (.mov (.const (.bool false)))⟩])
 .ret)
 .skip))
 (.seq (.seq (.ops [⟨some 20, none, .prim (.bin false .eql (.tmp 8) (.const (.int .i64 4)))⟩,
 ⟨some 19, none, .prim (.mov (.tmp 20))⟩])
 (.cond (.tmp 19)
 .skip
 (.seq (.ops [⟨some 21, none, .prim (.bin false .eql (.tmp 8) (.const (.int .i64 5)))⟩,
 ⟨some 19, none, .prim (.mov (.tmp 21))⟩])
 (.cond (.tmp 19)
 .skip
 (.ops [⟨some 22, none, .prim (.bin false .eql (.tmp 8) (.const (.int .i64 6)))⟩,
 ⟨some 19, none, .prim (.mov (.tmp 22))⟩])))))
 (.cond (.tmp 19)
 (.seq (.ops [⟨some 23, none, .prim (.mov (.tmp 3))⟩,
 ⟨some 24, none, .prim (.bin false .neq (.tmp 23) (.const (.int .i64 1)))⟩])
 (.cond (.tmp 24)
 (.seq (.ops [⟨some 2, none, .prim (.mov (.const (.bool false)))⟩])
 .ret)
 .skip))
 (.seq (.ops [⟨some 2, none, .prim (.mov (.const (.bool false)))⟩])
 .ret)))))))))))
 (.seq (.ops [⟨some 25, none, .prim (.fadr 1 (.tmp 1))⟩,
 ⟨some 26, none, .prim (.load 4 true (.tmp 25))⟩,
 ⟨some 27, none, .prim (.build [.pl (.int .u64 0), .pl (.int .u64 0), .pl (.int .u64 0), .pl (.int .u64 0)] [])⟩,
 ⟨some 28, none, .prim (.eqa false [.int, .int, .int, .int] (.tmp 26) (.tmp 27))⟩,
 ⟨some 29, none, .prim (.mov (.tmp 28))⟩,
 ⟨some 30, (some (29, true)), .prim (.fadr 5 (.tmp 1))⟩,
 ⟨some 31, (some (29, true)), .prim (.load 1 false (.tmp 30))⟩,
 ⟨some 32, (some (29, true)), .call (.func 123) [(.tmp 31), (.func 124)]⟩,
 ⟨some 33, (some (29, true)), .prim (.un .not (.tmp 32))⟩,
 ⟨some 34, none, .prim (.pick (.tmp 29) (.tmp 33) (.const (.bool false)))⟩,
 ⟨some 2, none, .prim (.mov (.tmp 34))⟩])
 .ret))))
def o113 : List Tmp := []
def r113 : List RV := [.tmp 2]
theorem t113 : Text Tryz.prog 113 o113 c113 r113 35 := ⟨⟨Tryz.f113, _, by kernel_rfl, by kernel_rfl, rfl, by kernel_rfl, by kernel_rfl, rfl⟩, by kernel_rfl⟩
def c114 : ACode :=
 (.seq (.ops [⟨some 1, none, .prim (.boxr (.tmp 0))⟩,
 ⟨some 2, none, .prim (.mov (.const (.int .i64 0)))⟩])
 (.seq (.ops [⟨some 3, none, .prim (.mov (.const (.int .i64 0)))⟩])
 (.seq (.seq (.ops [⟨some 6, none, .prim (.fadr 5 (.tmp 1))⟩,
 ⟨some 7, none, .prim (.load 1 false (.tmp 6))⟩,
 ⟨some 8, none, .prim (.lenv (.tmp 7))⟩,
 ⟨some 9, none, .prim (.mov (.const (.int .i64 0)))⟩])
 (.block 0 (.loop [0, 2, 4, 5, 6, 10, 11, 12, 13, 14, 15, 16, 17, 18, 19, 20, 21, 22, 23, 24, 25, 26, 27, 28, 29, 30, 31, 32, 33, 34, 35, 36, 37, 38, 39, 40] (.seq (.ops [⟨some 10, none, .prim (.bin false .lss (.tmp 9) (.tmp 8))⟩])
 (.seq (.cond (.tmp 10)
 .skip
 (.exit 0))
 (.seq (.block 1 (.seq (.ops [⟨some 11, none, .prim (.iadrs 6 (.tmp 7) (.tmp 9))⟩,
 ⟨some 12, none, .prim (.load 6 true (.tmp 11))⟩,
 ⟨some 5, none, .fresh 6 5 (.tmp 12)⟩])
 (.ops [⟨some 13, none, .prim (.mov (.tmp 3))⟩,
 ⟨some 14, none, .prim (.load 6 true (.tmp 5))⟩,
 ⟨some 15, none, .call (.func 114) [(.tmp 14)]⟩,
 ⟨some 16, none, .prim (.bin false .add (.tmp 13) (.tmp 15))⟩,
 ⟨some 3, none, .prim (.mov (.tmp 16))⟩])))
 (.ops [⟨some 17, none, .prim (.bin false .add (.tmp 9) (.const (.int .i64 1)))⟩,
 ⟨some 9, none, .prim (.mov (.tmp 17))⟩])))))))
 (.seq (.seq (.ops [⟨some 18, none, .prim (.fadr 0 (.tmp 1))⟩,
 ⟨some 19, none, .prim (.load 1 false (.tmp 18))⟩])
 (.block 2 (.seq (.ops [⟨some 21, none, .prim (.bin false .eql (.tmp 19) (.const (.int .i64 1)))⟩,
 ⟨some 20, none, .prim (.mov (.tmp 21))⟩])
 (.cond (.tmp 20)
 (.seq (.ops [⟨some 2, none, .prim (.mov (.const (.int .i64 1)))⟩])
 .ret)
 (.seq (.ops [⟨some 23, none, .prim (.bin false .eql (.tmp 19) (.const (.int .i64 3)))⟩,
 ⟨some 22, none, .prim (.mov (.tmp 23))⟩])
 (.cond (.tmp 22)
 (.seq (.ops [⟨some 24, none, .prim (.mov (.tmp 3))⟩,
 ⟨some 25, none, .prim (.fadr 5 (.tmp 1))⟩,
 ⟨some 26, none, .prim (.load 1 false (.tmp 25))⟩,
 ⟨some 27, none, .prim (.lenv (.tmp 26))⟩,
 ⟨some 28, none, .prim (.bin false .sub (.tmp 27) (.const (.int .i64 1)))⟩,
 ⟨some 29, none, .prim (.bin false .mul (.const (.int .i64 2)) (.tmp 28))⟩,
 ⟨some 30, none, .prim (.bin false .add (.tmp 24) (.tmp 29))⟩,
 ⟨some 2, none, .prim (.mov (.tmp 30))⟩])
 .ret)
 (.seq (.ops [⟨some 32, none, .prim (.bin false .eql (.tmp 19) (.const (.int .i64 4)))⟩,
 ⟨some 31, none, .prim (.mov (.tmp 32))⟩])
 (.cond (.tmp 31)
 (.seq (.ops [⟨some 33, none, .prim (.mov (.tmp 3))⟩,
 ⟨some 34, none, .prim (.bin false .add (.tmp 33) (.const (.int .i64 2)))⟩,
 ⟨some 2, none, .prim (.mov (.tmp 34))⟩])
 .ret)
 (.seq (.seq (.ops [⟨some 36, none, .prim (.bin false .eql (.tmp 19) (.const (.int .i64 5)))⟩,
 ⟨some 35, none, .prim (.mov (.tmp 36))⟩])
 (.cond (.tmp 35)
 .skip
 (.ops [⟨some 37, none, .prim (.bin false .eql (.tmp 19) (.const (.int .i64 6)))⟩,
 ⟨some 35, none, .prim (.mov (.tmp 37))⟩])))
 (.cond (.tmp 35)
 (.seq (.ops [⟨some 38, none, .prim (.mov (.tmp 3))⟩,
 ⟨some 39, none, .prim (.bin false .add (.tmp 38) (.const (.int .i64 1)))⟩,
 ⟨some 2, none, .prim (.mov (.tmp 39))⟩])
 .ret)
 .skip))))))))))
 (.seq (.ops [⟨some 40, none, .prim (.mov (.tmp 3))⟩,
 ⟨some 2, none, .prim (.mov (.tmp 40))⟩])
 .ret)))))
def o114 : List Tmp := []
def r114 : List RV := [.tmp 2]
theorem t114 : Text Tryz.prog 114 o114 c114 r114 41 := ⟨⟨Tryz.f114, _, by kernel_rfl, by kernel_rfl, rfl, by kernel_rfl, by kernel_rfl, rfl⟩, by kernel_rfl⟩
def c115 : ACode :=
 (.seq (.ops [⟨some 4, none, .prim (.mov (.const (.slice none 0 0)))⟩])
 (.seq (.ops [⟨some 5, none, .prim (.mov (.const (.slice none 0 0)))⟩])
 (.seq (.ops [⟨some 12, none, .prim (.mov (.tmp 1))⟩,
 ⟨some 13, none, .prim (.lenv (.tmp 12))⟩,
 ⟨some 14, none, .prim (.bin false .sub (.tmp 13) (.const (.int .i64 1)))⟩,
 ⟨some 6, none, .prim (.mov (.tmp 14))⟩])
 (.seq (.seq (.ops [⟨some 15, none, .prim (.mov (.tmp 1))⟩,
 ⟨some 16, none, .prim (.mov (.tmp 6))⟩,
 ⟨some 17, none, .prim (.slcv 6 (.tmp 15) none (some (.tmp 16)))⟩,
 ⟨some 18, none, .prim (.lenv (.tmp 17))⟩,
 ⟨some 19, none, .prim (.mov (.const (.int .i64 0)))⟩])
 (.block 0 (.loop [2, 3, 4, 7, 8, 9, 10, 11, 12, 13, 14, 15, 16, 20, 21, 22, 23, 24, 25, 26, 27, 28, 29, 30, 31, 32, 33, 34, 35, 36, 37, 38, 39, 40, 41, 42, 43, 44, 45, 46, 47, 48, 49, 50, 51, 52, 53, 54, 55, 56, 57, 58, 59, 60, 61, 62, 63, 64, 65, 66, 67, 68] (.seq (.ops [⟨some 20, none, .prim (.bin false .lss (.tmp 19) (.tmp 18))⟩])
 (.seq (.cond (.tmp 20)
 .skip
 (.exit 0))
 (.seq (.block 1 (.seq (.ops [⟨some 21, none, .prim (.iadrs 6 (.tmp 17) (.tmp 19))⟩,
 ⟨some 22, none, .prim (.load 6 true (.tmp 21))⟩,
 ⟨some 8, none, .fresh 6 8 (.tmp 22)⟩])
 (.seq (.ops [⟨some 23, none, .prim (.mov (.tmp 0))⟩,
 ⟨some 24, none, .prim (.lenv (.tmp 23))⟩,
 ⟨some 9, none, .prim (.mov (.tmp 24))⟩])
 (.seq (.draw [⟨⟨some 25, none, .prim (.mov (.tmp 0))⟩, [], false, 0, 0⟩,
 ⟨⟨some 26, none, .prim (.mov (.tmp 9))⟩, [], false, 0, 0⟩,
 ⟨⟨some 27, none, .prim (.bin false .add (.tmp 26) (.const (.int .i64 1)))⟩, [1], false, 0, 0⟩,
 ⟨⟨some 28, none, .prim (.build [.pl (.int .i64 0), .pl (.int .u64 0), .pl (.int .u64 0), .pl (.int .u64 0), .pl (.int .u64 0), .pl (.int .i64 0), .pl (.int .i64 0)] [(0, 1, (.const (.int .i64 2))), (5, 1, (.tmp 27))])⟩, [1, 2], false, 0, 0⟩,
 ⟨⟨some 29, none, .prim (.bsl false 7 true 1 [.pl (.int .i64 0), .pl (.int .u64 0), .pl (.int .u64 0), .pl (.int .u64 0), .pl (.int .u64 0), .pl (.int .i64 0), .pl (.int .i64 0)] [(0, 7, (.tmp 28))])⟩, [1, 2, 3], false, 0, 0⟩,
 ⟨⟨some 30, none, .prim (.app 7 (.tmp 25) (.tmp 29))⟩, [0, 1, 2, 3, 4], true, 0, 0⟩,
 ⟨⟨some 31, none, .prim (.load 6 true (.tmp 8))⟩, [], false, 0, 1⟩,
 ⟨⟨some 32, none, .call (.func 103) [(.tmp 30), (.tmp 31)]⟩, (List.range 7), true, 0, 0⟩,
 ⟨⟨some 0, none, .prim (.mov (.tmp 32))⟩, (List.range 8), false, 2, 2⟩])
 (.seq (.ops [⟨some 33, none, .prim (.mov (.tmp 5))⟩,
 ⟨some 34, none, .prim (.mov (.tmp 0))⟩,
 ⟨some 35, none, .prim (.lenv (.tmp 34))⟩,
 ⟨some 36, none, .prim (.bsl false 1 false 1 [.pl (.int .i64 0)] [(0, 1, (.tmp 35))])⟩,
 ⟨some 37, none, .prim (.app 1 (.tmp 33) (.tmp 36))⟩,
 ⟨some 5, none, .prim (.mov (.tmp 37))⟩])
 (.seq (.ops [⟨some 38, none, .prim (.mov (.tmp 0))⟩,
 ⟨some 39, none, .prim (.build [.pl (.int .i64 0), .pl (.int .u64 0), .pl (.int .u64 0), .pl (.int .u64 0), .pl (.int .u64 0), .pl (.int .i64 0), .pl (.int .i64 0)] [(0, 1, (.const (.int .i64 3)))])⟩,
 ⟨some 40, none, .prim (.bsl false 7 true 1 [.pl (.int .i64 0), .pl (.int .u64 0), .pl (.int .u64 0), .pl (.int .u64 0), .pl (.int .u64 0), .pl (.int .i64 0), .pl (.int .i64 0)] [(0, 7, (.tmp 39))])⟩,
 ⟨some 41, none, .prim (.app 7 (.tmp 38) (.tmp 40))⟩,
 ⟨some 0, none, .prim (.mov (.tmp 41))⟩])
 (.ops [⟨some 42, none, .prim (.mov (.tmp 0))⟩,
 ⟨some 43, none, .prim (.mov (.tmp 9))⟩,
 ⟨some 44, none, .prim (.mov (.tmp 0))⟩,
 ⟨some 45, none, .prim (.lenv (.tmp 44))⟩,
 ⟨some 46, none, .prim (.iadrs 7 (.tmp 42) (.tmp 43))⟩,
 ⟨some 47, none, .prim (.fadr 6 (.tmp 46))⟩,
 ⟨none, none, .prim (.store 1 (.tmp 47) (.tmp 45))⟩])))))))
 (.ops [⟨some 48, none, .prim (.bin false .add (.tmp 19) (.const (.int .i64 1)))⟩,
 ⟨some 19, none, .prim (.mov (.tmp 48))⟩])))))))
 (.seq (.ops [⟨some 49, none, .prim (.mov (.tmp 0))⟩,
 ⟨some 50, none, .prim (.mov (.tmp 1))⟩,
 ⟨some 51, none, .prim (.mov (.tmp 6))⟩,
 ⟨some 52, none, .prim (.iadrs 6 (.tmp 50) (.tmp 51))⟩,
 ⟨some 53, none, .prim (.load 6 true (.tmp 52))⟩,
 ⟨some 54, none, .call (.func 103) [(.tmp 49), (.tmp 53)]⟩,
 ⟨some 0, none, .prim (.mov (.tmp 54))⟩])
 (.seq (.seq (.ops [⟨some 55, none, .prim (.mov (.tmp 5))⟩,
 ⟨some 56, none, .prim (.lenv (.tmp 55))⟩,
 ⟨some 57, none, .prim (.mov (.const (.int .i64 0)))⟩])
 (.block 2 (.loop [1, 2, 3, 4, 5, 6, 7, 8, 9, 10, 11, 12, 13, 14, 15, 16, 17, 18, 19, 20, 21, 22, 23, 24, 25, 26, 27, 28, 29, 30, 31, 32, 33, 34, 35, 36, 37, 38, 39, 40, 41, 42, 43, 44, 45, 46, 47, 48, 49, 50, 51, 52, 53, 54, 58, 59, 60, 61, 62, 63, 64, 65, 66, 67, 68] (.seq (.ops [⟨some 58, none, .prim (.bin false .lss (.tmp 57) (.tmp 56))⟩])
 (.seq (.cond (.tmp 58)
 .skip
 (.exit 2))
 (.seq (.block 3 (.seq (.ops [⟨some 59, none, .prim (.iadrs 1 (.tmp 55) (.tmp 57))⟩,
 ⟨some 60, none, .prim (.load 1 false (.tmp 59))⟩,
 ⟨some 11, none, .prim (.mov (.tmp 60))⟩])
 (.ops [⟨some 61, none, .prim (.mov (.tmp 0))⟩,
 ⟨some 62, none, .prim (.mov (.tmp 11))⟩,
 ⟨some 63, none, .prim (.mov (.tmp 0))⟩,
 ⟨some 64, none, .prim (.lenv (.tmp 63))⟩,
 ⟨some 65, none, .prim (.iadrs 7 (.tmp 61) (.tmp 62))⟩,
 ⟨some 66, none, .prim (.fadr 5 (.tmp 65))⟩,
 ⟨none, none, .prim (.store 1 (.tmp 66) (.tmp 64))⟩])))
 (.ops [⟨some 67, none, .prim (.bin false .add (.tmp 57) (.const (.int .i64 1)))⟩,
 ⟨some 57, none, .prim (.mov (.tmp 67))⟩])))))))
 (.seq (.ops [⟨some 68, none, .prim (.mov (.tmp 0))⟩,
 ⟨some 4, none, .prim (.mov (.tmp 68))⟩])
 .ret)))))))
def o115 : List Tmp := []
def r115 : List RV := [.tmp 4]
theorem t115 : Text Tryz.prog 115 o115 c115 r115 69 := ⟨⟨Tryz.f115, _, by kernel_rfl, by kernel_rfl, rfl, by kernel_rfl, by kernel_rfl, rfl⟩, by kernel_rfl⟩
def c116 : ACode :=
 (.seq (.ops [⟨some 4, none, .prim (.mov (.const (.int .i64 0)))⟩])
 (.seq (.seq (.ops [⟨some 6, none, .prim (.mov (.tmp 0))⟩,
 ⟨some 7, none, .prim (.lenv (.tmp 6))⟩,
 ⟨some 8, none, .prim (.mov (.const (.int .i64 0)))⟩])
 (.block 0 (.loop [2, 3, 4, 5, 6, 9, 10, 11, 12, 13, 14, 15, 16, 17, 18] (.seq (.ops [⟨some 9, none, .prim (.bin false .lss (.tmp 8) (.tmp 7))⟩])
 (.seq (.cond (.tmp 9)
 .skip
 (.exit 0))
 (.seq (.block 1 (.seq (.ops [⟨some 10, none, .prim (.mov (.tmp 8))⟩,
 ⟨some 5, none, .prim (.mov (.tmp 10))⟩])
 (.seq (.ops [⟨some 11, none, .prim (.mov (.tmp 1))⟩,
 ⟨some 12, none, .prim (.mov (.tmp 0))⟩,
 ⟨some 13, none, .prim (.mov (.tmp 5))⟩,
 ⟨some 14, none, .prim (.iadrs 7 (.tmp 12) (.tmp 13))⟩,
 ⟨some 15, none, .prim (.load 7 true (.tmp 14))⟩,
 ⟨some 16, none, .call (.tmp 11) [(.tmp 15)]⟩])
 (.cond (.tmp 16)
 (.seq (.ops [⟨some 17, none, .prim (.mov (.tmp 5))⟩,
 ⟨some 4, none, .prim (.mov (.tmp 17))⟩])
 .ret)
 .skip))))
 (.ops [⟨some 18, none, .prim (.bin false .add (.tmp 8) (.const (.int .i64 1)))⟩,
 ⟨some 8, none, .prim (.mov (.tmp 18))⟩])))))))
 (.seq (.ops [⟨some 4, none, .prim (.mov (.const (.int .i64 (-1))))⟩])
 .ret)))
def o116 : List Tmp := []
def r116 : List RV := [.tmp 4]
theorem t116 : Text Tryz.prog 116 o116 c116 r116 19 := ⟨⟨Tryz.f116, _, by kernel_rfl, by kernel_rfl, rfl, by kernel_rfl, by kernel_rfl, rfl⟩, by kernel_rfl⟩
def c117 : ACode :=
 (.seq (.ops [⟨some 3, none, .prim (.mov (.const (.bool false)))⟩])
 (.seq (.ops [⟨some 4, none, .prim (.mov (.tmp 0))⟩,
 ⟨some 5, none, .prim (.bin false .geq (.tmp 4) (.const (.int .i64 0)))⟩,
 ⟨some 6, none, .prim (.mov (.tmp 5))⟩,
 ⟨some 7, (some (6, true)), .prim (.mov (.tmp 0))⟩,
 ⟨some 8, (some (6, true)), .prim (.load 1 false (.tmp 1))⟩,
 ⟨some 9, (some (6, true)), .prim (.bin false .lss (.tmp 7) (.tmp 8))⟩,
 ⟨some 10, none, .prim (.pick (.tmp 6) (.tmp 9) (.const (.bool false)))⟩,
 ⟨some 3, none, .prim (.mov (.tmp 10))⟩])
 .ret))
def o117 : List Tmp := []
def r117 : List RV := [.tmp 3]
theorem t117 : Text Tryz.prog 117 o117 c117 r117 11 := ⟨⟨Tryz.f117, _, by kernel_rfl, by kernel_rfl, rfl, by kernel_rfl, by kernel_rfl, rfl⟩, by kernel_rfl⟩
def c118 : ACode :=
 (.seq (.ops [⟨some 2, none, .prim (.boxr (.tmp 0))⟩,
 ⟨some 4, none, .prim (.mov (.const (.bool false)))⟩])
 (.seq (.ops [⟨some 5, none, .prim (.mov (.tmp 1))⟩,
 ⟨some 6, none, .prim (.bin false .quo (.tmp 5) (.const (.int .u8 64)))⟩,
 ⟨some 7, none, .prim (.iadra 1 4 (.tmp 2) (.tmp 6))⟩,
 ⟨some 8, none, .prim (.load 1 false (.tmp 7))⟩,
 ⟨some 9, none, .prim (.mov (.tmp 1))⟩,
 ⟨some 10, none, .prim (.bin false .rem (.tmp 9) (.const (.int .u8 64)))⟩,
 ⟨some 11, none, .prim (.convi .u64 (.tmp 10))⟩,
 ⟨some 12, none, .prim (.bin false .shr (.tmp 8) (.tmp 11))⟩,
 ⟨some 13, none, .prim (.bin false .and (.tmp 12) (.const (.int .u64 1)))⟩,
 ⟨some 14, none, .prim (.bin false .eql (.tmp 13) (.const (.int .u64 1)))⟩,
 ⟨some 4, none, .prim (.mov (.tmp 14))⟩])
 .ret))
def o118 : List Tmp := []
def r118 : List RV := [.tmp 4]
theorem t118 : Text Tryz.prog 118 o118 c118 r118 15 := ⟨⟨Tryz.f118, _, by kernel_rfl, by kernel_rfl, rfl, by kernel_rfl, by kernel_rfl, rfl⟩, by kernel_rfl⟩
def c119 : ACode :=
 (.seq (.ops [⟨some 4, none, .prim (.mov (.const (.slice none 0 0)))⟩])
 (.seq (.ops [⟨some 7, none, .prim (.mov (.tmp 0))⟩,
 ⟨some 8, none, .prim (.lenv (.tmp 7))⟩,
 ⟨some 9, none, .prim (.mks 1 false [.pl (.bool false)] (.tmp 8) (.tmp 8))⟩,
 ⟨some 5, none, .prim (.mov (.tmp 9))⟩])
 (.seq (.seq (.ops [⟨some 6, none, .prim (.mov (.const (.int .i64 0)))⟩])
 (.block 0 (.loop [2, 3, 4, 7, 8, 9, 10, 11, 12, 13, 14, 15, 16, 17, 18, 19, 20, 21, 22, 23, 24, 25, 26, 27, 28, 29] (.seq (.seq (.ops [⟨some 10, none, .prim (.mov (.tmp 6))⟩,
 ⟨some 11, none, .prim (.mov (.tmp 0))⟩,
 ⟨some 12, none, .prim (.lenv (.tmp 11))⟩,
 ⟨some 13, none, .prim (.bin false .lss (.tmp 10) (.tmp 12))⟩])
 (.cond (.tmp 13)
 .skip
 (.exit 0)))
 (.seq (.block 1 (.ops [⟨some 16, none, .prim (.mov (.tmp 5))⟩,
 ⟨some 17, none, .prim (.mov (.tmp 6))⟩,
 ⟨some 18, none, .prim (.mov (.tmp 0))⟩,
 ⟨some 19, none, .prim (.mov (.tmp 6))⟩,
 ⟨some 20, none, .prim (.iadrs 1 (.tmp 18) (.tmp 19))⟩,
 ⟨some 21, none, .prim (.load 1 false (.tmp 20))⟩,
 ⟨some 22, none, .prim (.mov (.tmp 21))⟩,
 ⟨some 23, (some (22, false)), .prim (.mov (.tmp 1))⟩,
 ⟨some 24, (some (22, false)), .prim (.mov (.tmp 6))⟩,
 ⟨some 25, (some (22, false)), .prim (.iadrs 1 (.tmp 23) (.tmp 24))⟩,
 ⟨some 26, (some (22, false)), .prim (.load 1 false (.tmp 25))⟩,
 ⟨some 27, none, .prim (.pick (.tmp 22) (.const (.bool true)) (.tmp 26))⟩,
 ⟨some 28, none, .prim (.iadrs 1 (.tmp 16) (.tmp 17))⟩,
 ⟨none, none, .prim (.store 1 (.tmp 28) (.tmp 27))⟩]))
 (.ops [⟨some 14, none, .prim (.mov (.tmp 6))⟩,
 ⟨some 15, none, .prim (.bin false .add (.tmp 14) (.const (.int .i64 1)))⟩,
 ⟨some 6, none, .prim (.mov (.tmp 15))⟩]))))))
 (.seq (.ops [⟨some 29, none, .prim (.mov (.tmp 5))⟩,
 ⟨some 4, none, .prim (.mov (.tmp 29))⟩])
 (.ghost (.shut 4) .ret)))))
def o119 : List Tmp := []
def r119 : List RV := [.tmp 4]
theorem t119 : Text Tryz.prog 119 o119 c119 r119 30 := ⟨⟨Tryz.f119, _, by kernel_rfl, by kernel_rfl, rfl, by kernel_rfl, by kernel_rfl, rfl⟩, by kernel_rfl⟩
def c120 : ACode :=
 (.seq (.ops [⟨some 4, none, .prim (.mov (.const (.bool false)))⟩])
 (.seq (.seq (.ops [⟨some 5, none, .prim (.mov (.const (.int .i64 0)))⟩])
 (.block 0 (.loop [2, 3, 4, 6, 7, 8, 9, 10, 11, 12, 13, 14, 15, 16, 17, 18, 19, 20] (.seq (.seq (.ops [⟨some 6, none, .prim (.mov (.tmp 5))⟩,
 ⟨some 7, none, .prim (.mov (.tmp 0))⟩,
 ⟨some 8, none, .prim (.lenv (.tmp 7))⟩,
 ⟨some 9, none, .prim (.bin false .lss (.tmp 6) (.tmp 8))⟩])
 (.cond (.tmp 9)
 .skip
 (.exit 0)))
 (.seq (.block 1 (.seq (.draw [⟨⟨some 12, none, .prim (.mov (.tmp 0))⟩, [], false, 0, 0⟩,
 ⟨⟨some 13, none, .prim (.mov (.tmp 5))⟩, [], false, 0, 0⟩,
 ⟨⟨some 14, none, .prim (.iadrs 1 (.tmp 12) (.tmp 13))⟩, [0, 1], false, 0, 0⟩,
 ⟨⟨some 15, none, .prim (.load 1 false (.tmp 14))⟩, [0, 1, 2], false, 0, 0⟩,
 ⟨⟨some 16, none, .prim (.mov (.tmp 1))⟩, [], false, 0, 0⟩,
 ⟨⟨some 17, none, .prim (.mov (.tmp 5))⟩, [], false, 0, 0⟩,
 ⟨⟨some 18, none, .prim (.iadrs 1 (.tmp 16) (.tmp 17))⟩, [4, 5], false, 0, 0⟩,
 ⟨⟨some 19, none, .prim (.load 1 false (.tmp 18))⟩, [4, 5, 6], false, 0, 0⟩,
 ⟨⟨some 20, none, .prim (.bin true .neq (.tmp 15) (.tmp 19))⟩, (List.range 8), false, 0, 0⟩])
 (.cond (.tmp 20)
 (.seq (.ops [⟨some 4, none, .prim (.mov (.const (.bool false)))⟩])
 .ret)
 .skip)))
 (.ops [⟨some 10, none, .prim (.mov (.tmp 5))⟩,
 ⟨some 11, none, .prim (.bin false .add (.tmp 10) (.const (.int .i64 1)))⟩,
 ⟨some 5, none, .prim (.mov (.tmp 11))⟩]))))))
 (.seq (.ops [⟨some 4, none, .prim (.mov (.const (.bool true)))⟩])
 .ret)))
def o120 : List Tmp := []
def r120 : List RV := [.tmp 4]
theorem t120 : Text Tryz.prog 120 o120 c120 r120 21 := ⟨⟨Tryz.f120, _, by kernel_rfl, by kernel_rfl, rfl, by kernel_rfl, by kernel_rfl, rfl⟩, by kernel_rfl⟩
def c121 : ACode :=
 (.seq (.ops [⟨some 4, none, .prim (.allocm [.pl (.int .i64 0), .pl (.int .u64 0), .pl (.int .u64 0), .pl (.int .u64 0), .pl (.int .u64 0), .nils])⟩])
 (.seq (.ops [⟨some 7, none, .prim (.build [.pl (.int .i64 0), .pl (.int .u64 0), .pl (.int .u64 0), .pl (.int .u64 0), .pl (.int .u64 0), .nils] [(0, 1, (.const (.int .i64 1)))])⟩,
 ⟨some 5, none, .prim (.allocm [.pl (.int .i64 0), .pl (.int .u64 0), .pl (.int .u64 0), .pl (.int .u64 0), .pl (.int .u64 0), .nils])⟩,
 ⟨none, none, .prim (.store 6 (.tmp 5) (.tmp 7))⟩])
 (.seq (.seq (.ops [⟨some 8, none, .prim (.mov (.tmp 0))⟩,
 ⟨some 9, none, .call (.func 125) [(.tmp 8)]⟩,
 ⟨some 6, none, .prim (.mov (.tmp 9))⟩])
 (.seq (.ops [⟨some 10, none, .prim (.mov (.tmp 6))⟩])
 (.block 0 (.seq (.ops [⟨some 27, none, .prim (.bin false .eql (.tmp 10) (.const (.int .u8 40)))⟩,
 ⟨some 26, none, .prim (.mov (.tmp 27))⟩])
 (.cond (.tmp 26)
 (.seq (.ops [⟨some 28, none, .prim (.mov (.tmp 0))⟩,
 ⟨some 29, none, .prim (.mov (.tmp 0))⟩,
 ⟨some 30, none, .prim (.nilc (.tmp 29))⟩,
 ⟨some 31, none, .prim (.fadr 2 (.tmp 30))⟩,
 ⟨some 32, none, .prim (.load 1 false (.tmp 31))⟩,
 ⟨some 33, none, .prim (.mov (.tmp 32))⟩,
 ⟨some 34, (some (33, false)), .prim (.mov (.tmp 1))⟩,
 ⟨some 35, (some (33, false)), .prim (.bin false .eql (.tmp 34) (.const (.int .i64 8)))⟩,
 ⟨some 36, none, .prim (.pick (.tmp 33) (.const (.bool true)) (.tmp 35))⟩,
 ⟨some 37, none, .prim (.nilc (.tmp 28))⟩,
 ⟨some 38, none, .prim (.fadr 2 (.tmp 37))⟩,
 ⟨none, none, .prim (.store 1 (.tmp 38) (.tmp 36))⟩])
 (.seq (.seq (.ops [⟨some 39, none, .prim (.mov (.tmp 0))⟩,
 ⟨some 40, none, .prim (.nilc (.tmp 39))⟩,
 ⟨some 41, none, .prim (.fadr 2 (.tmp 40))⟩,
 ⟨some 42, none, .prim (.load 1 false (.tmp 41))⟩,
 ⟨some 43, none, .prim (.un .not (.tmp 42))⟩])
 (.cond (.tmp 43)
 (.ops [⟨some 44, none, .prim (.mov (.tmp 0))⟩,
 ⟨some 45, none, .prim (.mov (.tmp 1))⟩,
 ⟨some 46, none, .prim (.bin false .add (.tmp 45) (.const (.int .i64 1)))⟩,
 ⟨some 47, none, .call (.func 86) [(.tmp 44), (.tmp 46)]⟩,
 ⟨none, none, .prim (.store 6 (.tmp 5) (.tmp 47))⟩])
 .skip))
 (.ops [⟨some 48, none, .prim (.mov (.tmp 0))⟩,
 ⟨some 49, none, .prim (.mov (.tmp 0))⟩,
 ⟨some 50, none, .call (.func 98) [(.tmp 49), (.const (.int .u8 41))]⟩,
 ⟨some 51, none, .prim (.un .not (.tmp 50))⟩,
 ⟨some 52, none, .prim (.mov (.tmp 51))⟩,
 ⟨some 53, (some (52, false)), .prim (.mov (.tmp 0))⟩,
 ⟨some 54, (some (52, false)), .prim (.nilc (.tmp 53))⟩,
 ⟨some 55, (some (52, false)), .prim (.fadr 2 (.tmp 54))⟩,
 ⟨some 56, (some (52, false)), .prim (.load 1 false (.tmp 55))⟩,
 ⟨some 57, none, .prim (.pick (.tmp 52) (.const (.bool true)) (.tmp 56))⟩,
 ⟨some 58, none, .prim (.nilc (.tmp 48))⟩,
 ⟨some 59, none, .prim (.fadr 2 (.tmp 58))⟩,
 ⟨none, none, .prim (.store 1 (.tmp 59) (.tmp 57))⟩])))
 (.seq (.ops [⟨some 61, none, .prim (.bin false .eql (.tmp 10) (.const (.int .u8 91)))⟩,
 ⟨some 60, none, .prim (.mov (.tmp 61))⟩])
 (.cond (.tmp 60)
 (.ops [⟨some 62, none, .prim (.mov (.tmp 0))⟩,
 ⟨some 63, none, .call (.func 126) [(.tmp 62)]⟩,
 ⟨some 64, none, .prim (.fadr 1 (.tmp 5))⟩,
 ⟨none, none, .prim (.store 4 (.tmp 64) (.tmp 63))⟩])
 (.seq (.ops [⟨some 66, none, .prim (.bin false .eql (.tmp 10) (.const (.int .u8 46)))⟩,
 ⟨some 65, none, .prim (.mov (.tmp 66))⟩])
 (.cond (.tmp 65)
 (.ops [⟨some 67, none, .prim (.fadr 1 (.tmp 5))⟩,
 ⟨some 68, none, .prim (.load 4 true (.tmp 67))⟩,
 ⟨some 69, none, .call (.func 127) [(.tmp 68)]⟩,
 ⟨some 70, none, .prim (.fadr 1 (.tmp 5))⟩,
 ⟨none, none, .prim (.store 4 (.tmp 70) (.tmp 69))⟩])
 (.seq (.ops [⟨some 72, none, .prim (.bin false .eql (.tmp 10) (.const (.int .u8 92)))⟩,
 ⟨some 71, none, .prim (.mov (.tmp 72))⟩])
 (.cond (.tmp 71)
 (.ops [⟨some 73, none, .prim (.fadr 1 (.tmp 5))⟩,
 ⟨some 74, none, .prim (.mov (.tmp 0))⟩,
 ⟨some 75, none, .call (.func 129) [(.tmp 74)]⟩,
 ⟨some 76, none, .call (.func 128) [(.tmp 73), (.tmp 75)]⟩])
 (.seq (.ops [⟨some 11, none, .prim (.mov (.tmp 0))⟩,
 ⟨some 12, none, .prim (.mov (.tmp 0))⟩,
 ⟨some 13, none, .prim (.nilc (.tmp 12))⟩,
 ⟨some 14, none, .prim (.fadr 2 (.tmp 13))⟩,
 ⟨some 15, none, .prim (.load 1 false (.tmp 14))⟩,
 ⟨some 16, none, .prim (.mov (.tmp 15))⟩,
 ⟨some 17, (some (16, false)), .prim (.mov (.tmp 6))⟩,
 ⟨some 18, (some (16, false)), .call (.func 130) [(.const (.string (ByteArray.mk #[42, 43, 63, 93]))), (.tmp 17)]⟩,
 ⟨some 19, (some (16, false)), .prim (.bin false .geq (.tmp 18) (.const (.int .i64 0)))⟩,
 ⟨some 20, none, .prim (.pick (.tmp 16) (.const (.bool true)) (.tmp 19))⟩,
 ⟨some 21, none, .prim (.nilc (.tmp 11))⟩,
 ⟨some 22, none, .prim (.fadr 2 (.tmp 21))⟩,
 ⟨none, none, .prim (.store 1 (.tmp 22) (.tmp 20))⟩])
 (.ops [⟨some 23, none, .prim (.fadr 1 (.tmp 5))⟩,
 ⟨some 24, none, .prim (.mov (.tmp 6))⟩,
 ⟨some 25, none, .call (.func 128) [(.tmp 23), (.tmp 24)]⟩])))))))))))))
 (.seq (.ops [⟨some 77, none, .prim (.load 6 true (.tmp 5))⟩,
 ⟨none, none, .prim (.store 6 (.tmp 4) (.tmp 77))⟩])
 .ret))))
def o121 : List Tmp := [4, 5]
def r121 : List RV := [.cell 4 6 true]
theorem t121 : Text Tryz.prog 121 o121 c121 r121 78 := ⟨⟨Tryz.f121, _, by kernel_rfl, by kernel_rfl, rfl, by kernel_rfl, by kernel_rfl, rfl⟩, by kernel_rfl⟩
def c122 : ACode :=
 (.seq (.ops [⟨some 2, none, .prim (.allocm [.pl (.int .i64 0), .pl (.int .u64 0), .pl (.int .u64 0), .pl (.int .u64 0), .pl (.int .u64 0), .nils])⟩])
 (.seq (.draw [⟨⟨some 5, none, .prim (.mov (.tmp 0))⟩, [], false, 0, 0⟩,
 ⟨⟨some 6, none, .prim (.nilc (.tmp 5))⟩, [0], false, 0, 0⟩,
 ⟨⟨some 7, none, .prim (.fadr 0 (.tmp 6))⟩, [0, 1], false, 0, 0⟩,
 ⟨⟨some 8, none, .prim (.load 1 false (.tmp 7))⟩, [0, 1, 2], false, 0, 0⟩,
 ⟨⟨some 9, none, .prim (.mov (.tmp 0))⟩, [], false, 0, 0⟩,
 ⟨⟨some 10, none, .prim (.nilc (.tmp 9))⟩, [4], false, 0, 0⟩,
 ⟨⟨some 11, none, .prim (.fadr 1 (.tmp 10))⟩, [4, 5], false, 0, 0⟩,
 ⟨⟨some 12, none, .prim (.load 1 false (.tmp 11))⟩, [4, 5, 6], false, 0, 0⟩,
 ⟨⟨some 13, none, .prim (.idxs (.tmp 8) (.tmp 12))⟩, (List.range 8), false, 0, 0⟩,
 ⟨⟨some 3, none, .prim (.mov (.tmp 13))⟩, (List.range 9), false, 0, 0⟩])
 (.seq (.ops [⟨some 14, none, .prim (.mov (.tmp 0))⟩,
 ⟨some 15, none, .prim (.nilc (.tmp 14))⟩,
 ⟨some 16, none, .prim (.fadr 1 (.tmp 15))⟩,
 ⟨some 17, none, .prim (.load 1 false (.tmp 16))⟩,
 ⟨some 18, none, .prim (.bin false .add (.tmp 17) (.const (.int .i64 1)))⟩,
 ⟨some 19, none, .prim (.nilc (.tmp 14))⟩,
 ⟨some 20, none, .prim (.fadr 1 (.tmp 19))⟩,
 ⟨none, none, .prim (.store 1 (.tmp 20) (.tmp 18))⟩])
 (.seq (.block 0 (.seq (.ops [⟨some 22, none, .prim (.mov (.tmp 3))⟩,
 ⟨some 23, none, .prim (.bin false .eql (.tmp 22) (.const (.int .u8 46)))⟩,
 ⟨some 21, none, .prim (.mov (.tmp 23))⟩])
 (.cond (.tmp 21)
 (.seq (.ops [⟨some 24, none, .prim (.build [.pl (.int .u64 0), .pl (.int .u64 0), .pl (.int .u64 0), .pl (.int .u64 0)] [(0, 1, (.const (.int .u64 18446744073709551615))), (1, 1, (.const (.int .u64 18446744073709551615))), (2, 1, (.const (.int .u64 18446744073709551615))), (3, 1, (.const (.int .u64 18446744073709551615)))])⟩,
 ⟨some 25, none, .prim (.build [.pl (.int .i64 0), .pl (.int .u64 0), .pl (.int .u64 0), .pl (.int .u64 0), .pl (.int .u64 0), .nils] [(0, 1, (.const (.int .i64 1))), (1, 4, (.tmp 24))])⟩,
 ⟨none, none, .prim (.store 6 (.tmp 2) (.tmp 25))⟩])
 .ret)
 (.seq (.ops [⟨some 27, none, .prim (.mov (.tmp 3))⟩,
 ⟨some 28, none, .prim (.bin false .eql (.tmp 27) (.const (.int .u8 92)))⟩,
 ⟨some 26, none, .prim (.mov (.tmp 28))⟩])
 (.cond (.tmp 26)
 (.seq (.seq (.draw [⟨⟨some 29, none, .prim (.mov (.tmp 0))⟩, [], false, 0, 0⟩,
 ⟨⟨some 30, none, .call (.func 101) [(.tmp 29)]⟩, [0], true, 0, 0⟩,
 ⟨⟨some 31, none, .prim (.un .not (.tmp 30))⟩, [0, 1], false, 1, 1⟩,
 ⟨⟨some 32, none, .prim (.mov (.tmp 31))⟩, [0, 1, 2], false, 1, 1⟩,
 ⟨⟨some 33, (some (32, false)), .prim (.mov (.tmp 0))⟩, [0, 1, 2, 3], false, 1, 1⟩,
 ⟨⟨some 34, (some (32, false)), .prim (.nilc (.tmp 33))⟩, [0, 1, 2, 3, 4], false, 1, 1⟩,
 ⟨⟨some 35, (some (32, false)), .prim (.fadr 0 (.tmp 34))⟩, (List.range 6), false, 1, 1⟩,
 ⟨⟨some 36, (some (32, false)), .prim (.load 1 false (.tmp 35))⟩, (List.range 7), false, 1, 1⟩,
 ⟨⟨some 37, (some (32, false)), .prim (.mov (.tmp 0))⟩, [0, 1, 2, 3], false, 1, 1⟩,
 ⟨⟨some 38, (some (32, false)), .prim (.nilc (.tmp 37))⟩, [0, 1, 2, 3, 8], false, 1, 1⟩,
 ⟨⟨some 39, (some (32, false)), .prim (.fadr 1 (.tmp 38))⟩, [0, 1, 2, 3, 8, 9], false, 1, 1⟩,
 ⟨⟨some 40, (some (32, false)), .prim (.load 1 false (.tmp 39))⟩, [0, 1, 2, 3, 8, 9, 10], false, 1, 1⟩,
 ⟨⟨some 41, (some (32, false)), .prim (.idxs (.tmp 36) (.tmp 40))⟩, (List.range 12), false, 1, 1⟩,
 ⟨⟨some 42, (some (32, false)), .call (.func 131) [(.tmp 41)]⟩, (List.range 13), true, 0, 0⟩,
 ⟨⟨some 43, (some (32, false)), .prim (.un .not (.tmp 42))⟩, (List.range 14), false, 2, 2⟩,
 ⟨⟨some 44, none, .prim (.pick (.tmp 32) (.const (.bool true)) (.tmp 43))⟩, (List.range 15), false, 2, 2⟩])
 (.cond (.tmp 44)
 (.seq (.ops [⟨some 45, none, .prim (.mov (.tmp 0))⟩,
 ⟨some 46, none, .call (.func 132) [(.tmp 45)]⟩])
 (.seq (.ops [⟨some 47, none, .prim (.build [.pl (.int .i64 0), .pl (.int .u64 0), .pl (.int .u64 0), .pl (.int .u64 0), .pl (.int .u64 0), .nils] [])⟩,
 ⟨none, none, .prim (.store 6 (.tmp 2) (.tmp 47))⟩])
 .ret))
 .skip))
 (.seq (.ops [⟨some 48, none, .prim (.mov (.tmp 0))⟩,
 ⟨some 49, none, .prim (.nilc (.tmp 48))⟩,
 ⟨some 50, none, .prim (.fadr 1 (.tmp 49))⟩,
 ⟨some 51, none, .prim (.load 1 false (.tmp 50))⟩,
 ⟨some 52, none, .prim (.bin false .add (.tmp 51) (.const (.int .i64 1)))⟩,
 ⟨some 53, none, .prim (.nilc (.tmp 48))⟩,
 ⟨some 54, none, .prim (.fadr 1 (.tmp 53))⟩,
 ⟨none, none, .prim (.store 1 (.tmp 54) (.tmp 52))⟩])
 (.seq (.draw [⟨⟨some 55, none, .prim (.mov (.tmp 0))⟩, [], false, 0, 0⟩,
 ⟨⟨some 56, none, .prim (.nilc (.tmp 55))⟩, [0], false, 0, 0⟩,
 ⟨⟨some 57, none, .prim (.fadr 0 (.tmp 56))⟩, [0, 1], false, 0, 0⟩,
 ⟨⟨some 58, none, .prim (.load 1 false (.tmp 57))⟩, [0, 1, 2], false, 0, 0⟩,
 ⟨⟨some 59, none, .prim (.mov (.tmp 0))⟩, [], false, 0, 0⟩,
 ⟨⟨some 60, none, .prim (.nilc (.tmp 59))⟩, [4], false, 0, 0⟩,
 ⟨⟨some 61, none, .prim (.fadr 1 (.tmp 60))⟩, [4, 5], false, 0, 0⟩,
 ⟨⟨some 62, none, .prim (.load 1 false (.tmp 61))⟩, [4, 5, 6], false, 0, 0⟩,
 ⟨⟨some 63, none, .prim (.bin false .sub (.tmp 62) (.const (.int .i64 1)))⟩, [4, 5, 6, 7], false, 0, 0⟩,
 ⟨⟨some 64, none, .prim (.idxs (.tmp 58) (.tmp 63))⟩, (List.range 9), false, 0, 0⟩,
 ⟨⟨some 65, none, .call (.func 133) [(.tmp 64)]⟩, (List.range 10), true, 0, 0⟩,
 ⟨⟨some 66, none, .prim (.build [.pl (.int .i64 0), .pl (.int .u64 0), .pl (.int .u64 0), .pl (.int .u64 0), .pl (.int .u64 0), .nils] [(0, 1, (.const (.int .i64 1))), (1, 4, (.tmp 65))])⟩, (List.range 11), false, 1, 1⟩,
 ⟨⟨none, none, .prim (.store 6 (.tmp 2) (.tmp 66))⟩, (List.range 12), true, 0, 0⟩])
 .ret)))
 (.seq (.ops [⟨some 68, none, .prim (.mov (.tmp 3))⟩,
 ⟨some 69, none, .prim (.bin false .eql (.tmp 68) (.const (.int .u8 40)))⟩,
 ⟨some 67, none, .prim (.mov (.tmp 69))⟩])
 (.cond (.tmp 67)
 (.seq (.ops [⟨some 70, none, .prim (.mov (.tmp 0))⟩,
 ⟨some 71, none, .prim (.nilc (.tmp 70))⟩,
 ⟨some 72, none, .prim (.fadr 2 (.tmp 71))⟩,
 ⟨some 73, none, .prim (.load 1 false (.tmp 72))⟩,
 ⟨some 74, none, .prim (.bin false .add (.tmp 73) (.const (.int .i64 1)))⟩,
 ⟨some 75, none, .prim (.nilc (.tmp 70))⟩,
 ⟨some 76, none, .prim (.fadr 2 (.tmp 75))⟩,
 ⟨none, none, .prim (.store 1 (.tmp 76) (.tmp 74))⟩])
 (.seq (.seq (.ops [⟨some 77, none, .prim (.mov (.tmp 0))⟩,
 ⟨some 78, none, .prim (.nilc (.tmp 77))⟩,
 ⟨some 79, none, .prim (.fadr 2 (.tmp 78))⟩,
 ⟨some 80, none, .prim (.load 1 false (.tmp 79))⟩,
 ⟨some 81, none, .prim (.bin false .gtr (.tmp 80) (.const (.int .i64 8)))⟩])
 (.cond (.tmp 81)
 (.seq (.ops [⟨some 82, none, .prim (.mov (.tmp 0))⟩,
 ⟨some 83, none, .call (.func 132) [(.tmp 82)]⟩])
 (.seq (.ops [⟨some 84, none, .prim (.build [.pl (.int .i64 0), .pl (.int .u64 0), .pl (.int .u64 0), .pl (.int .u64 0), .pl (.int .u64 0), .nils] [])⟩,
 ⟨none, none, .prim (.store 6 (.tmp 2) (.tmp 84))⟩])
 .ret))
 .skip))
 (.seq (.ops [⟨some 85, none, .prim (.mov (.tmp 0))⟩,
 ⟨some 86, none, .call (.func 89) [(.tmp 85)]⟩,
 ⟨some 4, none, .fresh 6 4 (.tmp 86)⟩])
 (.seq (.seq (.draw [⟨⟨some 87, none, .prim (.mov (.tmp 0))⟩, [], false, 0, 0⟩,
 ⟨⟨some 88, none, .call (.func 101) [(.tmp 87)]⟩, [0], true, 0, 0⟩,
 ⟨⟨some 89, none, .prim (.un .not (.tmp 88))⟩, [0, 1], false, 1, 1⟩,
 ⟨⟨some 90, none, .prim (.mov (.tmp 89))⟩, [0, 1, 2], false, 1, 1⟩,
 ⟨⟨some 91, (some (90, false)), .prim (.mov (.tmp 0))⟩, [0, 1, 2, 3], false, 1, 1⟩,
 ⟨⟨some 92, (some (90, false)), .prim (.nilc (.tmp 91))⟩, [0, 1, 2, 3, 4], false, 1, 1⟩,
 ⟨⟨some 93, (some (90, false)), .prim (.fadr 0 (.tmp 92))⟩, (List.range 6), false, 1, 1⟩,
 ⟨⟨some 94, (some (90, false)), .prim (.load 1 false (.tmp 93))⟩, (List.range 7), false, 1, 1⟩,
 ⟨⟨some 95, (some (90, false)), .prim (.mov (.tmp 0))⟩, [0, 1, 2, 3], false, 1, 1⟩,
 ⟨⟨some 96, (some (90, false)), .prim (.nilc (.tmp 95))⟩, [0, 1, 2, 3, 8], false, 1, 1⟩,
 ⟨⟨some 97, (some (90, false)), .prim (.fadr 1 (.tmp 96))⟩, [0, 1, 2, 3, 8, 9], false, 1, 1⟩,
 ⟨⟨some 98, (some (90, false)), .prim (.load 1 false (.tmp 97))⟩, [0, 1, 2, 3, 8, 9, 10], false, 1, 1⟩,
 ⟨⟨some 99, (some (90, false)), .prim (.idxs (.tmp 94) (.tmp 98))⟩, (List.range 12), false, 1, 1⟩,
 ⟨⟨some 100, (some (90, false)), .prim (.bin false .neq (.tmp 99) (.const (.int .u8 41)))⟩, (List.range 13), false, 1, 1⟩,
 ⟨⟨some 101, none, .prim (.pick (.tmp 90) (.const (.bool true)) (.tmp 100))⟩, (List.range 14), false, 1, 1⟩])
 (.cond (.tmp 101)
 (.seq (.ops [⟨some 102, none, .prim (.mov (.tmp 0))⟩,
 ⟨some 103, none, .call (.func 132) [(.tmp 102)]⟩])
 (.seq (.ops [⟨some 104, none, .prim (.build [.pl (.int .i64 0), .pl (.int .u64 0), .pl (.int .u64 0), .pl (.int .u64 0), .pl (.int .u64 0), .nils] [])⟩,
 ⟨none, none, .prim (.store 6 (.tmp 2) (.tmp 104))⟩])
 .ret))
 .skip))
 (.seq (.ops [⟨some 105, none, .prim (.mov (.tmp 0))⟩,
 ⟨some 106, none, .prim (.nilc (.tmp 105))⟩,
 ⟨some 107, none, .prim (.fadr 1 (.tmp 106))⟩,
 ⟨some 108, none, .prim (.load 1 false (.tmp 107))⟩,
 ⟨some 109, none, .prim (.bin false .add (.tmp 108) (.const (.int .i64 1)))⟩,
 ⟨some 110, none, .prim (.nilc (.tmp 105))⟩,
 ⟨some 111, none, .prim (.fadr 1 (.tmp 110))⟩,
 ⟨none, none, .prim (.store 1 (.tmp 111) (.tmp 109))⟩])
 (.seq (.ops [⟨some 112, none, .prim (.mov (.tmp 0))⟩,
 ⟨some 113, none, .prim (.nilc (.tmp 112))⟩,
 ⟨some 114, none, .prim (.fadr 2 (.tmp 113))⟩,
 ⟨some 115, none, .prim (.load 1 false (.tmp 114))⟩,
 ⟨some 116, none, .prim (.bin false .sub (.tmp 115) (.const (.int .i64 1)))⟩,
 ⟨some 117, none, .prim (.nilc (.tmp 112))⟩,
 ⟨some 118, none, .prim (.fadr 2 (.tmp 117))⟩,
 ⟨none, none, .prim (.store 1 (.tmp 118) (.tmp 116))⟩])
 (.seq (.ops [⟨some 119, none, .prim (.load 6 true (.tmp 4))⟩,
 ⟨none, none, .prim (.store 6 (.tmp 2) (.tmp 119))⟩])
 .ret)))))))
 (.seq (.ops [⟨some 121, none, .prim (.mov (.tmp 3))⟩,
 ⟨some 122, none, .prim (.bin false .eql (.tmp 121) (.const (.int .u8 91)))⟩,
 ⟨some 120, none, .prim (.mov (.tmp 122))⟩])
 (.cond (.tmp 120)
 (.seq (.ops [⟨some 123, none, .prim (.mov (.tmp 0))⟩,
 ⟨some 124, none, .call (.func 134) [(.tmp 123)]⟩,
 ⟨none, none, .prim (.store 6 (.tmp 2) (.tmp 124))⟩])
 .ret)
 (.seq (.ops [⟨some 126, none, .prim (.mov (.tmp 3))⟩,
 ⟨some 127, none, .call (.func 135) [(.tmp 126)]⟩,
 ⟨some 125, none, .prim (.mov (.tmp 127))⟩])
 (.cond (.tmp 125)
 (.seq (.ops [⟨some 128, none, .prim (.mov (.tmp 0))⟩,
 ⟨some 129, none, .call (.func 132) [(.tmp 128)]⟩])
 (.seq (.ops [⟨some 130, none, .prim (.build [.pl (.int .i64 0), .pl (.int .u64 0), .pl (.int .u64 0), .pl (.int .u64 0), .pl (.int .u64 0), .nils] [])⟩,
 ⟨none, none, .prim (.store 6 (.tmp 2) (.tmp 130))⟩])
 .ret))
 .skip)))))))))))
 (.seq (.ops [⟨some 131, none, .prim (.mov (.tmp 3))⟩,
 ⟨some 132, none, .call (.func 133) [(.tmp 131)]⟩,
 ⟨some 133, none, .prim (.build [.pl (.int .i64 0), .pl (.int .u64 0), .pl (.int .u64 0), .pl (.int .u64 0), .pl (.int .u64 0), .nils] [(0, 1, (.const (.int .i64 1))), (1, 4, (.tmp 132))])⟩,
 ⟨none, none, .prim (.store 6 (.tmp 2) (.tmp 133))⟩])
 .ret)))))
def o122 : List Tmp := [2]
def r122 : List RV := [.cell 2 6 true]
theorem t122 : Text Tryz.prog 122 o122 c122 r122 134 := ⟨⟨Tryz.f122, _, by kernel_rfl, by kernel_rfl, rfl, by kernel_rfl, by kernel_rfl, rfl⟩, by kernel_rfl⟩
def c123 : ACode :=
 (.seq (.ops [⟨some 4, none, .prim (.mov (.const (.bool false)))⟩])
 (.seq (.ops [⟨some 5, none, .prim (.mov (.tmp 0))⟩,
 ⟨some 6, none, .prim (.mov (.tmp 1))⟩,
 ⟨some 7, none, .call (.func 136) [(.tmp 5), (.tmp 6)]⟩,
 ⟨some 8, none, .prim (.bin false .geq (.tmp 7) (.const (.int .i64 0)))⟩,
 ⟨some 4, none, .prim (.mov (.tmp 8))⟩])
 .ret))
def o123 : List Tmp := []
def r123 : List RV := [.tmp 4]
theorem t123 : Text Tryz.prog 123 o123 c123 r123 9 := ⟨⟨Tryz.f123, _, by kernel_rfl, by kernel_rfl, rfl, by kernel_rfl, by kernel_rfl, rfl⟩, by kernel_rfl⟩
def c124 : ACode :=
 (.seq (.ops [⟨some 1, none, .prim (.boxr (.tmp 0))⟩,
 ⟨some 2, none, .prim (.mov (.const (.bool false)))⟩])
 (.seq (.ops [⟨some 3, none, .prim (.load 6 true (.tmp 1))⟩,
 ⟨some 4, none, .call (.func 113) [(.tmp 3)]⟩,
 ⟨some 5, none, .prim (.un .not (.tmp 4))⟩,
 ⟨some 2, none, .prim (.mov (.tmp 5))⟩])
 .ret))
def o124 : List Tmp := []
def r124 : List RV := [.tmp 2]
theorem t124 : Text Tryz.prog 124 o124 c124 r124 6 := ⟨⟨Tryz.f124, _, by kernel_rfl, by kernel_rfl, rfl, by kernel_rfl, by kernel_rfl, rfl⟩, by kernel_rfl⟩
def c125 : ACode :=
 (.seq (.ops [⟨some 2, none, .prim (.mov (.const (.int .u8 0)))⟩])
 (.seq (.seq (.ops [⟨some 3, none, .prim (.mov (.tmp 0))⟩,
 ⟨some 4, none, .call (.func 109) [(.tmp 3)]⟩])
 (.cond (.tmp 4)
 (.seq (.ops [⟨some 5, none, .prim (.mov (.tmp 0))⟩,
 ⟨some 6, none, .prim (.nilc (.tmp 5))⟩,
 ⟨some 7, none, .prim (.fadr 2 (.tmp 6))⟩,
 ⟨none, none, .prim (.store 1 (.tmp 7) (.const (.bool true)))⟩])
 (.seq (.ops [⟨some 2, none, .prim (.mov (.const (.int .u8 0)))⟩])
 .ret))
 .skip))
 (.seq (.ops [⟨some 8, none, .prim (.mov (.tmp 0))⟩,
 ⟨some 9, none, .prim (.nilc (.tmp 8))⟩,
 ⟨some 10, none, .prim (.fadr 1 (.tmp 9))⟩,
 ⟨some 11, none, .prim (.load 1 false (.tmp 10))⟩,
 ⟨some 12, none, .prim (.bin false .add (.tmp 11) (.const (.int .i64 1)))⟩,
 ⟨some 13, none, .prim (.nilc (.tmp 8))⟩,
 ⟨some 14, none, .prim (.fadr 1 (.tmp 13))⟩,
 ⟨none, none, .prim (.store 1 (.tmp 14) (.tmp 12))⟩])
 (.seq (.draw [⟨⟨some 15, none, .prim (.mov (.tmp 0))⟩, [], false, 0, 0⟩,
 ⟨⟨some 16, none, .prim (.nilc (.tmp 15))⟩, [0], false, 0, 0⟩,
 ⟨⟨some 17, none, .prim (.fadr 0 (.tmp 16))⟩, [0, 1], false, 0, 0⟩,
 ⟨⟨some 18, none, .prim (.load 1 false (.tmp 17))⟩, [0, 1, 2], false, 0, 0⟩,
 ⟨⟨some 19, none, .prim (.mov (.tmp 0))⟩, [], false, 0, 0⟩,
 ⟨⟨some 20, none, .prim (.nilc (.tmp 19))⟩, [4], false, 0, 0⟩,
 ⟨⟨some 21, none, .prim (.fadr 1 (.tmp 20))⟩, [4, 5], false, 0, 0⟩,
 ⟨⟨some 22, none, .prim (.load 1 false (.tmp 21))⟩, [4, 5, 6], false, 0, 0⟩,
 ⟨⟨some 23, none, .prim (.bin false .sub (.tmp 22) (.const (.int .i64 1)))⟩, [4, 5, 6, 7], false, 0, 0⟩,
 ⟨⟨some 24, none, .prim (.idxs (.tmp 18) (.tmp 23))⟩, (List.range 9), false, 0, 0⟩,
 ⟨⟨some 2, none, .prim (.mov (.tmp 24))⟩, (List.range 10), false, 0, 0⟩])
 .ret))))
def o125 : List Tmp := []
def r125 : List RV := [.tmp 2]
theorem t125 : Text Tryz.prog 125 o125 c125 r125 25 := ⟨⟨Tryz.f125, _, by kernel_rfl, by kernel_rfl, rfl, by kernel_rfl, by kernel_rfl, rfl⟩, by kernel_rfl⟩
def c126 : ACode :=
 (.seq (.ops [⟨some 2, none, .prim (.allocm [.pl (.int .u64 0), .pl (.int .u64 0), .pl (.int .u64 0), .pl (.int .u64 0)])⟩])
 (.seq (.ops [⟨some 3, none, .prim (.allocm [.pl (.int .u64 0), .pl (.int .u64 0), .pl (.int .u64 0), .pl (.int .u64 0)])⟩])
 (.seq (.ops [⟨some 9, none, .prim (.mov (.tmp 0))⟩,
 ⟨some 10, none, .call (.func 98) [(.tmp 9), (.const (.int .u8 94))]⟩,
 ⟨some 4, none, .prim (.mov (.tmp 10))⟩])
 (.seq (.seq (.ops [⟨some 5, none, .prim (.mov (.const (.bool true)))⟩])
 (.block 0 (.loop [1, 6, 7, 8, 9, 10, 11, 12, 13, 14, 15, 16, 17, 18, 19, 20, 21, 22, 23, 24, 25, 26, 27, 28, 29, 30, 31, 32, 33, 34, 35, 36, 37, 38, 39, 40, 41, 42, 43, 44, 45, 46, 47, 48, 49, 50, 51, 52, 53, 54, 55, 56, 57, 58, 59, 60, 61, 62, 63, 64, 65, 66, 67] (.seq (.seq (.ops [⟨some 11, none, .prim (.mov (.tmp 5))⟩,
 ⟨some 12, none, .prim (.mov (.tmp 11))⟩,
 ⟨some 13, (some (12, false)), .prim (.mov (.tmp 0))⟩,
 ⟨some 14, (some (12, false)), .call (.func 109) [(.tmp 13)]⟩,
 ⟨some 15, (some (12, false)), .prim (.un .not (.tmp 14))⟩,
 ⟨some 16, (some (12, false)), .prim (.mov (.tmp 15))⟩,
 ⟨some 17, (some (16, true)), .prim (.mov (.tmp 0))⟩,
 ⟨some 18, (some (16, true)), .call (.func 110) [(.tmp 17), (.const (.int .u8 93))]⟩,
 ⟨some 19, (some (16, true)), .prim (.un .not (.tmp 18))⟩,
 ⟨some 20, (some (12, false)), .prim (.pick (.tmp 16) (.tmp 19) (.const (.bool false)))⟩,
 ⟨some 21, none, .prim (.pick (.tmp 12) (.const (.bool true)) (.tmp 20))⟩])
 (.cond (.tmp 21)
 .skip
 (.exit 0)))
 (.seq (.block 1 (.seq (.ops [⟨some 22, none, .prim (.mov (.tmp 0))⟩,
 ⟨some 23, none, .call (.func 137) [(.tmp 22)]⟩,
 ⟨some 6, none, .prim (.mov (.tmp 23))⟩])
 (.seq (.ops [⟨some 24, none, .prim (.mov (.tmp 6))⟩,
 ⟨some 7, none, .prim (.mov (.tmp 24))⟩])
 (.seq (.seq (.ops [⟨some 25, none, .prim (.mov (.tmp 0))⟩,
 ⟨some 26, none, .call (.func 98) [(.tmp 25), (.const (.int .u8 45))]⟩])
 (.cond (.tmp 26)
 (.ops [⟨some 27, none, .prim (.mov (.tmp 0))⟩,
 ⟨some 28, none, .call (.func 137) [(.tmp 27)]⟩,
 ⟨some 7, none, .prim (.mov (.tmp 28))⟩])
 .skip))
 (.seq (.ops [⟨some 29, none, .prim (.mov (.tmp 0))⟩,
 ⟨some 30, none, .prim (.mov (.tmp 0))⟩,
 ⟨some 31, none, .prim (.nilc (.tmp 30))⟩,
 ⟨some 32, none, .prim (.fadr 2 (.tmp 31))⟩,
 ⟨some 33, none, .prim (.load 1 false (.tmp 32))⟩,
 ⟨some 34, none, .prim (.mov (.tmp 33))⟩,
 ⟨some 35, (some (34, false)), .prim (.mov (.tmp 7))⟩,
 ⟨some 36, (some (34, false)), .prim (.mov (.tmp 6))⟩,
 ⟨some 37, (some (34, false)), .prim (.bin false .lss (.tmp 35) (.tmp 36))⟩,
 ⟨some 38, none, .prim (.pick (.tmp 34) (.const (.bool true)) (.tmp 37))⟩,
 ⟨some 39, none, .prim (.nilc (.tmp 29))⟩,
 ⟨some 40, none, .prim (.fadr 2 (.tmp 39))⟩,
 ⟨none, none, .prim (.store 1 (.tmp 40) (.tmp 38))⟩])
 (.seq (.ops [⟨some 41, none, .prim (.mov (.tmp 6))⟩,
 ⟨some 42, none, .prim (.convi .i64 (.tmp 41))⟩,
 ⟨some 8, none, .prim (.mov (.tmp 42))⟩])
 (.block 2 (.loop [1, 5, 6, 9, 10, 11, 12, 13, 14, 15, 16, 17, 18, 19, 20, 21, 22, 23, 24, 25, 26, 27, 28, 29, 30, 31, 32, 33, 34, 35, 36, 37, 38, 39, 40, 41, 42, 43, 44, 45, 46, 47, 48, 49, 50, 51, 52, 53, 54, 55, 56, 57, 58, 59, 60, 61, 62, 63, 64, 65, 66, 67] (.seq (.seq (.ops [⟨some 43, none, .prim (.mov (.tmp 8))⟩,
 ⟨some 44, none, .prim (.mov (.tmp 7))⟩,
 ⟨some 45, none, .prim (.convi .i64 (.tmp 44))⟩,
 ⟨some 46, none, .prim (.bin false .leq (.tmp 43) (.tmp 45))⟩])
 (.cond (.tmp 46)
 .skip
 (.exit 2)))
 (.seq (.block 3 (.ops [⟨some 49, none, .prim (.mov (.tmp 8))⟩,
 ⟨some 50, none, .prim (.convi .u8 (.tmp 49))⟩,
 ⟨some 51, none, .call (.func 128) [(.tmp 3), (.tmp 50)]⟩]))
 (.ops [⟨some 47, none, .prim (.mov (.tmp 8))⟩,
 ⟨some 48, none, .prim (.bin false .add (.tmp 47) (.const (.int .i64 1)))⟩,
 ⟨some 8, none, .prim (.mov (.tmp 48))⟩])))))))))))
 (.ops [⟨some 5, none, .prim (.mov (.const (.bool false)))⟩]))))))
 (.seq (.ops [⟨some 52, none, .prim (.mov (.tmp 0))⟩,
 ⟨some 53, none, .prim (.mov (.tmp 0))⟩,
 ⟨some 54, none, .call (.func 98) [(.tmp 53), (.const (.int .u8 93))]⟩,
 ⟨some 55, none, .prim (.un .not (.tmp 54))⟩,
 ⟨some 56, none, .prim (.mov (.tmp 55))⟩,
 ⟨some 57, (some (56, false)), .prim (.mov (.tmp 0))⟩,
 ⟨some 58, (some (56, false)), .prim (.nilc (.tmp 57))⟩,
 ⟨some 59, (some (56, false)), .prim (.fadr 2 (.tmp 58))⟩,
 ⟨some 60, (some (56, false)), .prim (.load 1 false (.tmp 59))⟩,
 ⟨some 61, none, .prim (.pick (.tmp 56) (.const (.bool true)) (.tmp 60))⟩,
 ⟨some 62, none, .prim (.nilc (.tmp 52))⟩,
 ⟨some 63, none, .prim (.fadr 2 (.tmp 62))⟩,
 ⟨none, none, .prim (.store 1 (.tmp 63) (.tmp 61))⟩])
 (.seq (.seq (.ops [⟨some 64, none, .prim (.mov (.tmp 4))⟩])
 (.cond (.tmp 64)
 (.seq (.ops [⟨some 65, none, .prim (.load 4 true (.tmp 3))⟩,
 ⟨some 66, none, .call (.func 127) [(.tmp 65)]⟩,
 ⟨none, none, .prim (.store 4 (.tmp 2) (.tmp 66))⟩])
 .ret)
 .skip))
 (.seq (.ops [⟨some 67, none, .prim (.load 4 true (.tmp 3))⟩,
 ⟨none, none, .prim (.store 4 (.tmp 2) (.tmp 67))⟩])
 .ret)))))))
def o126 : List Tmp := [2, 3]
def r126 : List RV := [.cell 2 4 true]
theorem t126 : Text Tryz.prog 126 o126 c126 r126 68 := ⟨⟨Tryz.f126, _, by kernel_rfl, by kernel_rfl, rfl, by kernel_rfl, by kernel_rfl, rfl⟩, by kernel_rfl⟩
def c127 : ACode :=
 (.seq (.ops [⟨some 1, none, .prim (.boxm (.tmp 0))⟩,
 ⟨some 2, none, .prim (.allocm [.pl (.int .u64 0), .pl (.int .u64 0), .pl (.int .u64 0), .pl (.int .u64 0)])⟩])
 (.seq (.seq (.ops [⟨some 4, none, .prim (.mov (.const (.int .i64 0)))⟩])
 (.block 0 (.loop [0, 3, 5, 6, 7, 8, 9, 10, 11, 12, 13, 14] (.seq (.ops [⟨some 5, none, .prim (.bin false .lss (.tmp 4) (.const (.int .i64 4)))⟩])
 (.seq (.cond (.tmp 5)
 .skip
 (.exit 0))
 (.seq (.block 1 (.seq (.ops [⟨some 6, none, .prim (.mov (.tmp 4))⟩,
 ⟨some 3, none, .prim (.mov (.tmp 6))⟩])
 (.ops [⟨some 7, none, .prim (.mov (.tmp 3))⟩,
 ⟨some 8, none, .prim (.mov (.tmp 3))⟩,
 ⟨some 9, none, .prim (.iadra 1 4 (.tmp 1) (.tmp 8))⟩,
 ⟨some 10, none, .prim (.load 1 false (.tmp 9))⟩,
 ⟨some 11, none, .prim (.un .xor (.tmp 10))⟩,
 ⟨some 12, none, .prim (.iadra 1 4 (.tmp 1) (.tmp 7))⟩,
 ⟨none, none, .prim (.store 1 (.tmp 12) (.tmp 11))⟩])))
 (.ops [⟨some 13, none, .prim (.bin false .add (.tmp 4) (.const (.int .i64 1)))⟩,
 ⟨some 4, none, .prim (.mov (.tmp 13))⟩])))))))
 (.seq (.ops [⟨some 14, none, .prim (.load 4 true (.tmp 1))⟩,
 ⟨none, none, .prim (.store 4 (.tmp 2) (.tmp 14))⟩])
 .ret)))
def o127 : List Tmp := [1, 2]
def r127 : List RV := [.cell 2 4 true]
theorem t127 : Text Tryz.prog 127 o127 c127 r127 15 := ⟨⟨Tryz.f127, _, by kernel_rfl, by kernel_rfl, rfl, by kernel_rfl, by kernel_rfl, rfl⟩, by kernel_rfl⟩
def c128 : ACode :=
 (.draw [⟨⟨some 4, none, .prim (.mov (.tmp 0))⟩, [], false, 0, 0⟩,
 ⟨⟨some 5, none, .prim (.mov (.tmp 1))⟩, [], false, 0, 0⟩,
 ⟨⟨some 6, none, .prim (.bin false .quo (.tmp 5) (.const (.int .u8 64)))⟩, [1], false, 0, 0⟩,
 ⟨⟨some 7, none, .prim (.nilc (.tmp 4))⟩, [0], false, 0, 0⟩,
 ⟨⟨some 8, none, .prim (.iadra 1 4 (.tmp 7) (.tmp 6))⟩, [0, 1, 2, 3], false, 0, 0⟩,
 ⟨⟨some 9, none, .prim (.load 1 false (.tmp 8))⟩, [0, 1, 2, 3, 4], false, 0, 0⟩,
 ⟨⟨some 10, none, .prim (.mov (.tmp 1))⟩, [], false, 0, 0⟩,
 ⟨⟨some 11, none, .prim (.bin false .rem (.tmp 10) (.const (.int .u8 64)))⟩, [6], false, 0, 0⟩,
 ⟨⟨some 12, none, .prim (.bin false .shl (.const (.int .u64 1)) (.tmp 11))⟩, [6, 7], false, 0, 0⟩,
 ⟨⟨some 13, none, .prim (.bin false .or (.tmp 9) (.tmp 12))⟩, (List.range 9), false, 0, 0⟩,
 ⟨⟨some 14, none, .prim (.nilc (.tmp 4))⟩, [0], false, 0, 0⟩,
 ⟨⟨some 15, none, .prim (.iadra 1 4 (.tmp 14) (.tmp 6))⟩, (List.range 11), false, 0, 0⟩,
 ⟨⟨none, none, .prim (.store 1 (.tmp 15) (.tmp 13))⟩, (List.range 12), true, 0, 0⟩])
def o128 : List Tmp := []
def r128 : List RV := []
theorem t128 : Text Tryz.prog 128 o128 c128 r128 16 := ⟨⟨Tryz.f128, _, by kernel_rfl, by kernel_rfl, rfl, by kernel_rfl, by kernel_rfl, rfl⟩, by kernel_rfl⟩
def c129 : ACode :=
 (.seq (.ops [⟨some 2, none, .prim (.mov (.const (.int .u8 0)))⟩])
 (.seq (.ops [⟨some 4, none, .prim (.mov (.tmp 0))⟩,
 ⟨some 5, none, .call (.func 125) [(.tmp 4)]⟩,
 ⟨some 3, none, .prim (.mov (.tmp 5))⟩])
 (.seq (.ops [⟨some 6, none, .prim (.mov (.tmp 0))⟩,
 ⟨some 7, none, .prim (.mov (.tmp 0))⟩,
 ⟨some 8, none, .prim (.nilc (.tmp 7))⟩,
 ⟨some 9, none, .prim (.fadr 2 (.tmp 8))⟩,
 ⟨some 10, none, .prim (.load 1 false (.tmp 9))⟩,
 ⟨some 11, none, .prim (.mov (.tmp 10))⟩,
 ⟨some 12, (some (11, false)), .prim (.mov (.tmp 3))⟩,
 ⟨some 13, (some (11, false)), .call (.func 130) [(.const (.string (ByteArray.mk #[124, 42, 43, 63, 40, 41, 91, 93, 46, 92, 94, 45]))), (.tmp 12)]⟩,
 ⟨some 14, (some (11, false)), .prim (.bin false .lss (.tmp 13) (.const (.int .i64 0)))⟩,
 ⟨some 15, none, .prim (.pick (.tmp 11) (.const (.bool true)) (.tmp 14))⟩,
 ⟨some 16, none, .prim (.nilc (.tmp 6))⟩,
 ⟨some 17, none, .prim (.fadr 2 (.tmp 16))⟩,
 ⟨none, none, .prim (.store 1 (.tmp 17) (.tmp 15))⟩])
 (.seq (.ops [⟨some 18, none, .prim (.mov (.tmp 3))⟩,
 ⟨some 2, none, .prim (.mov (.tmp 18))⟩])
 .ret))))
def o129 : List Tmp := []
def r129 : List RV := [.tmp 2]
theorem t129 : Text Tryz.prog 129 o129 c129 r129 19 := ⟨⟨Tryz.f129, _, by kernel_rfl, by kernel_rfl, rfl, by kernel_rfl, by kernel_rfl, rfl⟩, by kernel_rfl⟩
def c130 : ACode :=
 (.seq (.ops [⟨some 4, none, .prim (.mov (.const (.int .i64 0)))⟩])
 (.seq (.ops [⟨some 5, none, .prim (.mov (.tmp 0))⟩,
 ⟨some 6, none, .prim (.mov (.tmp 1))⟩,
 ⟨some 7, none, .call (.func 138) [(.tmp 5), (.tmp 6)]⟩,
 ⟨some 4, none, .prim (.mov (.tmp 7))⟩])
 .ret))
def o130 : List Tmp := []
def r130 : List RV := [.tmp 4]
theorem t130 : Text Tryz.prog 130 o130 c130 r130 8 := ⟨⟨Tryz.f130, _, by kernel_rfl, by kernel_rfl, rfl, by kernel_rfl, by kernel_rfl, rfl⟩, by kernel_rfl⟩
def c131 : ACode :=
 (.seq (.ops [⟨some 2, none, .prim (.mov (.const (.bool false)))⟩])
 (.seq (.ops [⟨some 3, none, .prim (.mov (.tmp 0))⟩,
 ⟨some 4, none, .call (.func 135) [(.tmp 3)]⟩,
 ⟨some 5, none, .prim (.mov (.tmp 4))⟩,
 ⟨some 6, (some (5, false)), .prim (.mov (.tmp 0))⟩,
 ⟨some 7, (some (5, false)), .prim (.bin false .eql (.tmp 6) (.const (.int .u8 94)))⟩,
 ⟨some 8, none, .prim (.pick (.tmp 5) (.const (.bool true)) (.tmp 7))⟩,
 ⟨some 9, none, .prim (.mov (.tmp 8))⟩,
 ⟨some 10, (some (9, false)), .prim (.mov (.tmp 0))⟩,
 ⟨some 11, (some (9, false)), .prim (.bin false .eql (.tmp 10) (.const (.int .u8 45)))⟩,
 ⟨some 12, none, .prim (.pick (.tmp 9) (.const (.bool true)) (.tmp 11))⟩,
 ⟨some 2, none, .prim (.mov (.tmp 12))⟩])
 .ret))
def o131 : List Tmp := []
def r131 : List RV := [.tmp 2]
theorem t131 : Text Tryz.prog 131 o131 c131 r131 13 := ⟨⟨Tryz.f131, _, by kernel_rfl, by kernel_rfl, rfl, by kernel_rfl, by kernel_rfl, rfl⟩, by kernel_rfl⟩
def c132 : ACode :=
 (.ops [⟨some 2, none, .prim (.mov (.tmp 0))⟩,
 ⟨some 3, none, .prim (.nilc (.tmp 2))⟩,
 ⟨some 4, none, .prim (.fadr 3 (.tmp 3))⟩,
 ⟨none, none, .prim (.store 1 (.tmp 4) (.const (.bool true)))⟩])
def o132 : List Tmp := []
def r132 : List RV := []
theorem t132 : Text Tryz.prog 132 o132 c132 r132 5 := ⟨⟨Tryz.f132, _, by kernel_rfl, by kernel_rfl, rfl, by kernel_rfl, by kernel_rfl, rfl⟩, by kernel_rfl⟩
def c133 : ACode :=
 (.seq (.ops [⟨some 2, none, .prim (.allocm [.pl (.int .u64 0), .pl (.int .u64 0), .pl (.int .u64 0), .pl (.int .u64 0)])⟩])
 (.seq (.ops [⟨some 3, none, .prim (.allocm [.pl (.int .u64 0), .pl (.int .u64 0), .pl (.int .u64 0), .pl (.int .u64 0)])⟩])
 (.seq (.ops [⟨some 4, none, .prim (.mov (.tmp 0))⟩,
 ⟨some 5, none, .prim (.bin false .quo (.tmp 4) (.const (.int .u8 64)))⟩,
 ⟨some 6, none, .prim (.mov (.tmp 0))⟩,
 ⟨some 7, none, .prim (.bin false .rem (.tmp 6) (.const (.int .u8 64)))⟩,
 ⟨some 8, none, .prim (.convi .u64 (.tmp 7))⟩,
 ⟨some 9, none, .prim (.bin false .shl (.const (.int .u64 1)) (.tmp 8))⟩,
 ⟨some 10, none, .prim (.iadra 1 4 (.tmp 3) (.tmp 5))⟩,
 ⟨none, none, .prim (.store 1 (.tmp 10) (.tmp 9))⟩])
 (.seq (.ops [⟨some 11, none, .prim (.load 4 true (.tmp 3))⟩,
 ⟨none, none, .prim (.store 4 (.tmp 2) (.tmp 11))⟩])
 .ret))))
def o133 : List Tmp := [2, 3]
def r133 : List RV := [.cell 2 4 true]
theorem t133 : Text Tryz.prog 133 o133 c133 r133 12 := ⟨⟨Tryz.f133, _, by kernel_rfl, by kernel_rfl, rfl, by kernel_rfl, by kernel_rfl, rfl⟩, by kernel_rfl⟩
end Go.Proofs.YtoadgajhkhejiaaGreat
