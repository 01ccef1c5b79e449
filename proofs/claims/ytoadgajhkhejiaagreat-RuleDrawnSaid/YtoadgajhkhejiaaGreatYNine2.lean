/- What the functions do, over abstract values: printed by a program, checked by the kernel. No condition. -/
import Derived.Test.YtoadgajhkhejiaaGreatProg
import Derived.Test.YtoadgajhkhejiaaGreatAbStep
import Derived.Test.YtoadgajhkhejiaaGreatYRu8
import Derived.Test.YtoadgajhkhejiaaGreatYRu1
set_option linter.unusedSimpArgs false
set_option linter.unusedVariables false
namespace Go.Proofs.YtoadgajhkhejiaaGreat
open Go Go.Ab
set_option maxRecDepth 100000
def c9 : ACode :=
 (.seq (.ops [⟨some 1, none, .prim (.boxr (.tmp 0))⟩,
 ⟨some 2, none, .prim (.mov (.const (.bool false)))⟩])
 (.seq (.seq (.ops [⟨some 4, none, .prim (.fadr 0 (.tmp 1))⟩,
 ⟨some 5, none, .prim (.load 1 false (.tmp 4))⟩,
 ⟨some 6, none, .prim (.lenv (.tmp 5))⟩,
 ⟨some 7, none, .prim (.bin false .eql (.tmp 6) (.const (.int .i64 0)))⟩,
 ⟨some 8, none, .prim (.mov (.tmp 7))⟩,
 ⟨some 9, (some (8, false)), .prim (.fadr 1 (.tmp 1))⟩,
 ⟨some 10, (some (8, false)), .prim (.load 1 false (.tmp 9))⟩,
 ⟨some 11, (some (8, false)), .prim (.lenv (.tmp 10))⟩,
 ⟨some 12, (some (8, false)), .prim (.bin false .eql (.tmp 11) (.const (.int .i64 0)))⟩,
 ⟨some 13, none, .prim (.pick (.tmp 8) (.const (.bool true)) (.tmp 12))⟩,
 ⟨some 14, none, .prim (.mov (.tmp 13))⟩,
 ⟨some 15, (some (14, false)), .prim (.fadr 0 (.tmp 1))⟩,
 ⟨some 16, (some (14, false)), .prim (.load 1 false (.tmp 15))⟩,
 ⟨some 17, (some (14, false)), .call (.func 28) [(.tmp 16)]⟩,
 ⟨some 18, (some (14, false)), .prim (.un .not (.tmp 17))⟩,
 ⟨some 19, none, .prim (.pick (.tmp 14) (.const (.bool true)) (.tmp 18))⟩,
 ⟨some 20, none, .prim (.mov (.tmp 19))⟩,
 ⟨some 21, (some (20, false)), .prim (.fadr 1 (.tmp 1))⟩,
 ⟨some 22, (some (20, false)), .prim (.load 1 false (.tmp 21))⟩,
 ⟨some 23, (some (20, false)), .call (.func 28) [(.tmp 22)]⟩,
 ⟨some 24, (some (20, false)), .prim (.un .not (.tmp 23))⟩,
 ⟨some 25, none, .prim (.pick (.tmp 20) (.const (.bool true)) (.tmp 24))⟩,
 ⟨some 26, none, .prim (.mov (.tmp 25))⟩,
 ⟨some 27, (some (26, false)), .prim (.fadr 2 (.tmp 1))⟩,
 ⟨some 28, (some (26, false)), .prim (.load 3 true (.tmp 27))⟩,
 ⟨some 29, (some (26, false)), .call (.func 29) [(.tmp 28)]⟩,
 ⟨some 30, (some (26, false)), .prim (.un .not (.tmp 29))⟩,
 ⟨some 31, none, .prim (.pick (.tmp 26) (.const (.bool true)) (.tmp 30))⟩,
 ⟨some 32, none, .prim (.mov (.tmp 31))⟩,
 ⟨some 33, (some (32, false)), .prim (.fadr 5 (.tmp 1))⟩,
 ⟨some 34, (some (32, false)), .prim (.load 1 false (.tmp 33))⟩,
 ⟨some 35, (some (32, false)), .prim (.lenv (.tmp 34))⟩,
 ⟨some 36, (some (32, false)), .prim (.bin false .gtr (.tmp 35) (.const (.int .i64 4)))⟩,
 ⟨some 37, none, .prim (.pick (.tmp 32) (.const (.bool true)) (.tmp 36))⟩])
 (.cond (.tmp 37)
 (.seq (.ops [⟨some 2, none, .prim (.mov (.const (.bool false)))⟩])
 .ret)
 .skip))
 (.seq (.seq (.ops [⟨some 3, none, .prim (.mov (.const (.int .i64 0)))⟩])
 (.block 0 (.loop [0, 2, 4, 5, 6, 7, 8, 9, 10, 11, 12, 13, 14, 15, 16, 17, 18, 19, 20, 21, 22, 23, 24, 25, 26, 27, 28, 29, 30, 31, 32, 33, 34, 35, 36, 37, 38, 39, 40, 41, 42, 43, 44, 45, 46, 47, 48, 49, 50, 51, 52, 53, 54, 55, 56, 57, 58, 59, 60, 61, 62, 63, 64, 65, 66, 67, 68, 69] (.seq (.seq (.ops [⟨some 38, none, .prim (.mov (.tmp 3))⟩,
 ⟨some 39, none, .prim (.fadr 5 (.tmp 1))⟩,
 ⟨some 40, none, .prim (.load 1 false (.tmp 39))⟩,
 ⟨some 41, none, .prim (.lenv (.tmp 40))⟩,
 ⟨some 42, none, .prim (.bin false .lss (.tmp 38) (.tmp 41))⟩])
 (.cond (.tmp 42)
 .skip
 (.exit 0)))
 (.seq (.block 1 (.seq (.draw [⟨⟨some 45, none, .prim (.fadr 5 (.tmp 1))⟩, [], false, 0, 0⟩,
 ⟨⟨some 46, none, .prim (.load 1 false (.tmp 45))⟩, [0], false, 0, 0⟩,
 ⟨⟨some 47, none, .prim (.mov (.tmp 3))⟩, [], false, 0, 0⟩,
 ⟨⟨some 48, none, .prim (.iadrs 1 (.tmp 46) (.tmp 47))⟩, [0, 1, 2], false, 0, 0⟩,
 ⟨⟨some 49, none, .prim (.load 1 false (.tmp 48))⟩, [0, 1, 2, 3], false, 0, 0⟩,
 ⟨⟨some 50, none, .call (.func 30) [(.tmp 49)]⟩, [0, 1, 2, 3, 4], true, 0, 0⟩,
 ⟨⟨some 51, none, .prim (.un .not (.tmp 50))⟩, (List.range 6), false, 1, 1⟩,
 ⟨⟨some 52, none, .prim (.mov (.tmp 51))⟩, (List.range 7), false, 1, 1⟩,
 ⟨⟨some 53, (some (52, false)), .prim (.mov (.tmp 3))⟩, (List.range 8), false, 1, 1⟩,
 ⟨⟨some 54, (some (52, false)), .prim (.bin false .gtr (.tmp 53) (.const (.int .i64 0)))⟩, (List.range 9), false, 1, 1⟩,
 ⟨⟨some 55, (some (52, false)), .prim (.mov (.tmp 54))⟩, (List.range 10), false, 1, 1⟩,
 ⟨⟨some 56, (some (55, true)), .prim (.fadr 5 (.tmp 1))⟩, (List.range 11), false, 1, 1⟩,
 ⟨⟨some 57, (some (55, true)), .prim (.load 1 false (.tmp 56))⟩, (List.range 12), false, 1, 1⟩,
 ⟨⟨some 58, (some (55, true)), .prim (.mov (.tmp 3))⟩, (List.range 11), false, 1, 1⟩,
 ⟨⟨some 59, (some (55, true)), .prim (.iadrs 1 (.tmp 57) (.tmp 58))⟩, (List.range 14), false, 1, 1⟩,
 ⟨⟨some 60, (some (55, true)), .prim (.load 1 false (.tmp 59))⟩, (List.range 15), false, 1, 1⟩,
 ⟨⟨some 61, (some (55, true)), .prim (.fadr 5 (.tmp 1))⟩, (List.range 11), false, 1, 1⟩,
 ⟨⟨some 62, (some (55, true)), .prim (.load 1 false (.tmp 61))⟩, [0, 1, 2, 3, 4, 5, 6, 7, 8, 9, 10, 16], false, 1, 1⟩,
 ⟨⟨some 63, (some (55, true)), .prim (.mov (.tmp 3))⟩, (List.range 11), false, 1, 1⟩,
 ⟨⟨some 64, (some (55, true)), .prim (.bin false .sub (.tmp 63) (.const (.int .i64 1)))⟩, [0, 1, 2, 3, 4, 5, 6, 7, 8, 9, 10, 18], false, 1, 1⟩,
 ⟨⟨some 65, (some (55, true)), .prim (.iadrs 1 (.tmp 62) (.tmp 64))⟩, [0, 1, 2, 3, 4, 5, 6, 7, 8, 9, 10, 16, 17, 18, 19], false, 1, 1⟩,
 ⟨⟨some 66, (some (55, true)), .prim (.load 1 false (.tmp 65))⟩, [0, 1, 2, 3, 4, 5, 6, 7, 8, 9, 10, 16, 17, 18, 19, 20], false, 1, 1⟩,
 ⟨⟨some 67, (some (55, true)), .prim (.bin false .leq (.tmp 60) (.tmp 66))⟩, (List.range 22), false, 1, 1⟩,
 ⟨⟨some 68, (some (52, false)), .prim (.pick (.tmp 55) (.tmp 67) (.const (.bool false)))⟩, (List.range 23), false, 1, 1⟩,
 ⟨⟨some 69, none, .prim (.pick (.tmp 52) (.const (.bool true)) (.tmp 68))⟩, (List.range 24), false, 1, 1⟩])
 (.cond (.tmp 69)
 (.seq (.ops [⟨some 2, none, .prim (.mov (.const (.bool false)))⟩])
 .ret)
 .skip)))
 (.ops [⟨some 43, none, .prim (.mov (.tmp 3))⟩,
 ⟨some 44, none, .prim (.bin false .add (.tmp 43) (.const (.int .i64 1)))⟩,
 ⟨some 3, none, .prim (.mov (.tmp 44))⟩]))))))
 (.seq (.ops [⟨some 2, none, .prim (.mov (.const (.bool true)))⟩])
 .ret))))
def o9 : List Tmp := []
def r9 : List RV := [.tmp 2]
theorem t9 : Text Tryz.prog 9 o9 c9 r9 70 := ⟨⟨Tryz.f9, _, by kernel_rfl, by kernel_rfl, rfl, by kernel_rfl, by kernel_rfl, rfl⟩, by kernel_rfl⟩
def c11 : ACode :=
 (.seq (.ops [⟨some 1, none, .prim (.boxr (.tmp 0))⟩,
 ⟨some 2, none, .prim (.mov (.const (.bool false)))⟩])
 (.seq (.ops [⟨some 3, none, .prim (.load 6 true (.tmp 1))⟩,
 ⟨some 4, none, .call (.func 9) [(.tmp 3)]⟩,
 ⟨some 5, none, .prim (.mov (.tmp 4))⟩,
 ⟨some 6, (some (5, true)), .prim (.fadr 0 (.tmp 1))⟩,
 ⟨some 7, (some (5, true)), .prim (.load 1 false (.tmp 6))⟩,
 ⟨some 8, (some (5, true)), .call (.func 32) [(.tmp 7)]⟩,
 ⟨some 9, (some (5, true)), .prim (.mov (.tmp 8))⟩,
 ⟨some 10, (some (9, false)), .prim (.fadr 1 (.tmp 1))⟩,
 ⟨some 11, (some (9, false)), .prim (.load 1 false (.tmp 10))⟩,
 ⟨some 12, (some (9, false)), .call (.func 32) [(.tmp 11)]⟩,
 ⟨some 13, (some (5, true)), .prim (.pick (.tmp 9) (.const (.bool true)) (.tmp 12))⟩,
 ⟨some 14, none, .prim (.pick (.tmp 5) (.tmp 13) (.const (.bool false)))⟩,
 ⟨some 2, none, .prim (.mov (.tmp 14))⟩])
 .ret))
def o11 : List Tmp := []
def r11 : List RV := [.tmp 2]
theorem t11 : Text Tryz.prog 11 o11 c11 r11 15 := ⟨⟨Tryz.f11, _, by kernel_rfl, by kernel_rfl, rfl, by kernel_rfl, by kernel_rfl, rfl⟩, by kernel_rfl⟩
def c13 : ACode :=
 (.seq (.ops [⟨some 2, none, .prim (.boxr (.tmp 0))⟩,
 ⟨some 3, none, .prim (.boxr (.tmp 1))⟩,
 ⟨some 4, none, .prim (.mov (.const (.bool false)))⟩])
 (.seq (.ops [⟨some 5, none, .prim (.load 6 true (.tmp 2))⟩,
 ⟨some 6, none, .call (.func 9) [(.tmp 5)]⟩,
 ⟨some 7, none, .prim (.mov (.tmp 6))⟩,
 ⟨some 8, (some (7, true)), .prim (.load 6 true (.tmp 2))⟩,
 ⟨some 9, (some (7, true)), .call (.func 11) [(.tmp 8)]⟩,
 ⟨some 10, (some (7, true)), .prim (.un .not (.tmp 9))⟩,
 ⟨some 11, none, .prim (.pick (.tmp 7) (.tmp 10) (.const (.bool false)))⟩,
 ⟨some 12, none, .prim (.mov (.tmp 11))⟩,
 ⟨some 13, (some (12, true)), .prim (.fadr 0 (.tmp 2))⟩,
 ⟨some 14, (some (12, true)), .prim (.load 1 false (.tmp 13))⟩,
 ⟨some 15, (some (12, true)), .prim (.fadr 1 (.tmp 3))⟩,
 ⟨some 16, (some (12, true)), .prim (.load 1 false (.tmp 15))⟩,
 ⟨some 17, (some (12, true)), .call (.func 36) [(.tmp 14), (.tmp 16)]⟩,
 ⟨some 18, none, .prim (.pick (.tmp 12) (.tmp 17) (.const (.bool false)))⟩,
 ⟨some 19, none, .prim (.mov (.tmp 18))⟩,
 ⟨some 20, (some (19, true)), .prim (.fadr 2 (.tmp 2))⟩,
 ⟨some 21, (some (19, true)), .prim (.load 3 true (.tmp 20))⟩,
 ⟨some 22, (some (19, true)), .prim (.fadr 2 (.tmp 3))⟩,
 ⟨some 23, (some (19, true)), .prim (.load 1 false (.tmp 22))⟩,
 ⟨some 24, (some (19, true)), .call (.func 37) [(.tmp 21), (.tmp 23)]⟩,
 ⟨some 25, none, .prim (.pick (.tmp 19) (.tmp 24) (.const (.bool false)))⟩,
 ⟨some 4, none, .prim (.mov (.tmp 25))⟩])
 .ret))
def o13 : List Tmp := []
def r13 : List RV := [.tmp 4]
theorem t13 : Text Tryz.prog 13 o13 c13 r13 26 := ⟨⟨Tryz.f13, _, by kernel_rfl, by kernel_rfl, rfl, by kernel_rfl, by kernel_rfl, rfl⟩, by kernel_rfl⟩
def c15 : ACode :=
 (.seq (.ops [⟨some 2, none, .prim (.boxr (.tmp 0))⟩,
 ⟨some 3, none, .prim (.boxr (.tmp 1))⟩,
 ⟨some 4, none, .prim (.mov (.const (.bool false)))⟩])
 (.seq (.ops [⟨some 5, none, .prim (.load 6 true (.tmp 2))⟩,
 ⟨some 6, none, .call (.func 9) [(.tmp 5)]⟩,
 ⟨some 7, none, .prim (.mov (.tmp 6))⟩,
 ⟨some 8, (some (7, true)), .prim (.load 6 true (.tmp 2))⟩,
 ⟨some 9, (some (7, true)), .call (.func 11) [(.tmp 8)]⟩,
 ⟨some 10, (some (7, true)), .prim (.un .not (.tmp 9))⟩,
 ⟨some 11, none, .prim (.pick (.tmp 7) (.tmp 10) (.const (.bool false)))⟩,
 ⟨some 12, none, .prim (.mov (.tmp 11))⟩,
 ⟨some 13, (some (12, true)), .prim (.fadr 1 (.tmp 2))⟩,
 ⟨some 14, (some (12, true)), .prim (.load 1 false (.tmp 13))⟩,
 ⟨some 15, (some (12, true)), .prim (.fadr 1 (.tmp 3))⟩,
 ⟨some 16, (some (12, true)), .prim (.load 1 false (.tmp 15))⟩,
 ⟨some 17, (some (12, true)), .call (.func 36) [(.tmp 14), (.tmp 16)]⟩,
 ⟨some 18, none, .prim (.pick (.tmp 12) (.tmp 17) (.const (.bool false)))⟩,
 ⟨some 4, none, .prim (.mov (.tmp 18))⟩])
 .ret))
def o15 : List Tmp := []
def r15 : List RV := [.tmp 4]
theorem t15 : Text Tryz.prog 15 o15 c15 r15 19 := ⟨⟨Tryz.f15, _, by kernel_rfl, by kernel_rfl, rfl, by kernel_rfl, by kernel_rfl, rfl⟩, by kernel_rfl⟩
def c20 : ACode :=
 (.seq (.ops [⟨some 3, none, .prim (.boxr (.tmp 0))⟩,
 ⟨some 4, none, .prim (.boxr (.tmp 1))⟩,
 ⟨some 5, none, .prim (.boxr (.tmp 2))⟩,
 ⟨some 6, none, .prim (.mov (.const (.bool false)))⟩])
 (.seq (.seq (.ops [⟨some 8, none, .prim (.load 6 true (.tmp 3))⟩,
 ⟨some 9, none, .prim (.load 3 true (.tmp 5))⟩,
 ⟨some 10, none, .call (.func 15) [(.tmp 8), (.tmp 9)]⟩,
 ⟨some 11, none, .prim (.un .not (.tmp 10))⟩,
 ⟨some 12, none, .prim (.mov (.tmp 11))⟩,
 ⟨some 13, (some (12, false)), .prim (.load 6 true (.tmp 3))⟩,
 ⟨some 14, (some (12, false)), .prim (.load 3 true (.tmp 4))⟩,
 ⟨some 15, (some (12, false)), .call (.func 13) [(.tmp 13), (.tmp 14)]⟩,
 ⟨some 16, (some (12, false)), .prim (.un .not (.tmp 15))⟩,
 ⟨some 17, none, .prim (.pick (.tmp 12) (.const (.bool true)) (.tmp 16))⟩,
 ⟨some 18, none, .prim (.mov (.tmp 17))⟩,
 ⟨some 19, (some (18, false)), .prim (.load 6 true (.tmp 3))⟩,
 ⟨some 20, (some (18, false)), .prim (.load 3 true (.tmp 5))⟩,
 ⟨some 21, (some (18, false)), .call (.func 13) [(.tmp 19), (.tmp 20)]⟩,
 ⟨some 22, none, .prim (.pick (.tmp 18) (.const (.bool true)) (.tmp 21))⟩])
 (.cond (.tmp 22)
 (.seq (.ops [⟨some 6, none, .prim (.mov (.const (.bool false)))⟩])
 .ret)
 .skip))
 (.seq (.seq (.ops [⟨some 7, none, .prim (.mov (.const (.int .i64 0)))⟩])
 (.block 0 (.loop [0, 1, 2, 6, 8, 9, 10, 11, 12, 13, 14, 15, 16, 17, 18, 19, 20, 21, 22, 23, 24, 25, 26, 27, 28, 29, 30, 31, 32, 33, 34, 35, 36, 37, 38, 39, 40, 41, 42, 43, 44, 45, 46] (.seq (.seq (.ops [⟨some 23, none, .prim (.mov (.tmp 7))⟩,
 ⟨some 24, none, .prim (.fadr 5 (.tmp 3))⟩,
 ⟨some 25, none, .prim (.load 1 false (.tmp 24))⟩,
 ⟨some 26, none, .prim (.lenv (.tmp 25))⟩,
 ⟨some 27, none, .prim (.bin false .lss (.tmp 23) (.tmp 26))⟩])
 (.cond (.tmp 27)
 .skip
 (.exit 0)))
 (.seq (.block 1 (.seq (.draw [⟨⟨some 30, none, .prim (.fadr 1 (.tmp 5))⟩, [], false, 0, 0⟩,
 ⟨⟨some 31, none, .prim (.load 1 false (.tmp 30))⟩, [0], false, 0, 0⟩,
 ⟨⟨some 32, none, .prim (.fadr 5 (.tmp 3))⟩, [], false, 0, 0⟩,
 ⟨⟨some 33, none, .prim (.load 1 false (.tmp 32))⟩, [2], false, 0, 0⟩,
 ⟨⟨some 34, none, .prim (.mov (.tmp 7))⟩, [], false, 0, 0⟩,
 ⟨⟨some 35, none, .prim (.iadrs 1 (.tmp 33) (.tmp 34))⟩, [2, 3, 4], false, 0, 0⟩,
 ⟨⟨some 36, none, .prim (.load 1 false (.tmp 35))⟩, [2, 3, 4, 5], false, 0, 0⟩,
 ⟨⟨some 37, none, .call (.func 40) [(.tmp 31), (.tmp 36)]⟩, (List.range 7), true, 0, 0⟩,
 ⟨⟨some 38, none, .prim (.fadr 1 (.tmp 4))⟩, [], false, 0, 1⟩,
 ⟨⟨some 39, none, .prim (.load 1 false (.tmp 38))⟩, [8], false, 0, 1⟩,
 ⟨⟨some 40, none, .prim (.fadr 5 (.tmp 3))⟩, [], false, 0, 1⟩,
 ⟨⟨some 41, none, .prim (.load 1 false (.tmp 40))⟩, [10], false, 0, 1⟩,
 ⟨⟨some 42, none, .prim (.mov (.tmp 7))⟩, [], false, 0, 1⟩,
 ⟨⟨some 43, none, .prim (.iadrs 1 (.tmp 41) (.tmp 42))⟩, [10, 11, 12], false, 0, 1⟩,
 ⟨⟨some 44, none, .prim (.load 1 false (.tmp 43))⟩, [10, 11, 12, 13], false, 0, 1⟩,
 ⟨⟨some 45, none, .call (.func 40) [(.tmp 39), (.tmp 44)]⟩, (List.range 15), true, 0, 0⟩,
 ⟨⟨some 46, none, .prim (.bin false .neq (.tmp 37) (.tmp 45))⟩, (List.range 16), false, 2, 2⟩])
 (.cond (.tmp 46)
 (.seq (.ops [⟨some 6, none, .prim (.mov (.const (.bool false)))⟩])
 .ret)
 .skip)))
 (.ops [⟨some 28, none, .prim (.mov (.tmp 7))⟩,
 ⟨some 29, none, .prim (.bin false .add (.tmp 28) (.const (.int .i64 1)))⟩,
 ⟨some 7, none, .prim (.mov (.tmp 29))⟩]))))))
 (.seq (.ops [⟨some 6, none, .prim (.mov (.const (.bool true)))⟩])
 .ret))))
def o20 : List Tmp := []
def r20 : List RV := [.tmp 6]
theorem t20 : Text Tryz.prog 20 o20 c20 r20 47 := ⟨⟨Tryz.f20, _, by kernel_rfl, by kernel_rfl, rfl, by kernel_rfl, by kernel_rfl, rfl⟩, by kernel_rfl⟩
def c29 : ACode :=
 (.seq (.ops [⟨some 1, none, .prim (.boxr (.tmp 0))⟩,
 ⟨some 2, none, .prim (.mov (.const (.bool false)))⟩])
 (.seq (.seq (.ops [⟨some 3, none, .prim (.fadr 0 (.tmp 1))⟩,
 ⟨some 4, none, .prim (.load 1 false (.tmp 3))⟩])
 (.cond (.tmp 4)
 (.seq (.ops [⟨some 5, none, .prim (.fadr 1 (.tmp 1))⟩,
 ⟨some 6, none, .prim (.load 1 false (.tmp 5))⟩,
 ⟨some 7, none, .call (.func 53) [(.tmp 6)]⟩,
 ⟨some 8, none, .prim (.bin false .eql (.tmp 7) (.const (.int .u64 0)))⟩,
 ⟨some 9, none, .prim (.mov (.tmp 8))⟩,
 ⟨some 10, (some (9, true)), .prim (.fadr 2 (.tmp 1))⟩,
 ⟨some 11, (some (9, true)), .prim (.load 1 false (.tmp 10))⟩,
 ⟨some 12, (some (9, true)), .call (.func 53) [(.tmp 11)]⟩,
 ⟨some 13, (some (9, true)), .prim (.bin false .eql (.tmp 12) (.const (.int .u64 0)))⟩,
 ⟨some 14, none, .prim (.pick (.tmp 9) (.tmp 13) (.const (.bool false)))⟩,
 ⟨some 2, none, .prim (.mov (.tmp 14))⟩])
 .ret)
 .skip))
 (.seq (.ops [⟨some 15, none, .prim (.fadr 1 (.tmp 1))⟩,
 ⟨some 16, none, .prim (.load 1 false (.tmp 15))⟩,
 ⟨some 17, none, .prim (.fadr 2 (.tmp 1))⟩,
 ⟨some 18, none, .prim (.load 1 false (.tmp 17))⟩,
 ⟨some 19, none, .prim (.bin false .leq (.tmp 16) (.tmp 18))⟩,
 ⟨some 2, none, .prim (.mov (.tmp 19))⟩])
 .ret)))
def o29 : List Tmp := []
def r29 : List RV := [.tmp 2]
theorem t29 : Text Tryz.prog 29 o29 c29 r29 20 := ⟨⟨Tryz.f29, _, by kernel_rfl, by kernel_rfl, rfl, by kernel_rfl, by kernel_rfl, rfl⟩, by kernel_rfl⟩
def c37 : ACode :=
 (.seq (.ops [⟨some 2, none, .prim (.boxr (.tmp 0))⟩,
 ⟨some 4, none, .prim (.mov (.const (.bool false)))⟩])
 (.seq (.seq (.ops [⟨some 5, none, .prim (.load 3 true (.tmp 2))⟩,
 ⟨some 6, none, .call (.func 29) [(.tmp 5)]⟩,
 ⟨some 7, none, .prim (.un .not (.tmp 6))⟩])
 (.cond (.tmp 7)
 (.seq (.ops [⟨some 4, none, .prim (.mov (.const (.bool false)))⟩])
 .ret)
 .skip))
 (.seq (.ops [⟨some 8, none, .prim (.fadr 0 (.tmp 2))⟩,
 ⟨some 9, none, .prim (.load 1 false (.tmp 8))⟩,
 ⟨some 10, none, .prim (.mov (.tmp 9))⟩,
 ⟨some 11, (some (10, false)), .prim (.fadr 1 (.tmp 2))⟩,
 ⟨some 12, (some (10, false)), .prim (.load 1 false (.tmp 11))⟩,
 ⟨some 13, (some (10, false)), .prim (.mov (.tmp 1))⟩,
 ⟨some 14, (some (10, false)), .prim (.bin false .leq (.tmp 12) (.tmp 13))⟩,
 ⟨some 15, (some (10, false)), .prim (.mov (.tmp 14))⟩,
 ⟨some 16, (some (15, true)), .prim (.mov (.tmp 1))⟩,
 ⟨some 17, (some (15, true)), .prim (.fadr 2 (.tmp 2))⟩,
 ⟨some 18, (some (15, true)), .prim (.load 1 false (.tmp 17))⟩,
 ⟨some 19, (some (15, true)), .prim (.bin false .leq (.tmp 16) (.tmp 18))⟩,
 ⟨some 20, (some (10, false)), .prim (.pick (.tmp 15) (.tmp 19) (.const (.bool false)))⟩,
 ⟨some 21, none, .prim (.pick (.tmp 10) (.const (.bool true)) (.tmp 20))⟩,
 ⟨some 4, none, .prim (.mov (.tmp 21))⟩])
 .ret)))
def o37 : List Tmp := []
def r37 : List RV := [.tmp 4]
theorem t37 : Text Tryz.prog 37 o37 c37 r37 22 := ⟨⟨Tryz.f37, _, by kernel_rfl, by kernel_rfl, rfl, by kernel_rfl, by kernel_rfl, rfl⟩, by kernel_rfl⟩
def c53 : ACode :=
 (.seq (.ops [⟨some 2, none, .prim (.mov (.const (.int .u64 0)))⟩])
 (.seq (.seq (.ops [⟨some 3, none, .prim (.mov (.tmp 0))⟩,
 ⟨some 4, none, .prim (.mov (.tmp 0))⟩,
 ⟨some 5, none, .prim (.bin false .neq (.tmp 3) (.tmp 4))⟩])
 (.cond (.tmp 5)
 (.seq (.ops [⟨some 2, none, .prim (.mov (.const (.int .u64 9221120237041090561)))⟩])
 .ret)
 .skip))
 (.seq (.ops [⟨some 6, none, .prim (.mov (.tmp 0))⟩,
 ⟨some 7, none, .call (.func 73) [(.tmp 6)]⟩,
 ⟨some 2, none, .prim (.mov (.tmp 7))⟩])
 .ret)))
def o53 : List Tmp := []
def r53 : List RV := [.tmp 2]
theorem t53 : Text Tryz.prog 53 o53 c53 r53 8 := ⟨⟨Tryz.f53, _, by kernel_rfl, by kernel_rfl, rfl, by kernel_rfl, by kernel_rfl, rfl⟩, by kernel_rfl⟩
end Go.Proofs.YtoadgajhkhejiaaGreat
namespace Go.Proofs.YtoadgajhkhejiaaGreat
open Go Go.Ab Go.Cod
set_option maxRecDepth 100000
section
variable (σ : St)
theorem dbits_ans (a : Nat) : Ans Tryz.prog 53 [Fl a] σ (UN (bitsF a)) σ := by
 refine Ans.of_run t53 ?_
 unfold bitsF
 simp -implicitDefEqProofs only [c53, r53, go_sem, nanF_def]
 cases nanF a with
 | true =>
   simp -implicitDefEqProofs only [go_sem]
   exact Fini.ret rfl
 | false =>
   simp -implicitDefEqProofs only [go_sem]
   refine CO.intro (f64bits_ans σ a) ?_
   simp -implicitDefEqProofs only [go_sem]
   exact Fini.ret rfl
theorem dmay_ans (any : Bool) (lo hi : Nat) : Ans Tryz.prog 29 [.agg [Bo any, Fl lo, Fl hi]] σ (Bo (mayB any lo hi)) σ := by
 refine Ans.of_run t29 ?_
 unfold mayB
 cases any with
 | true =>
   simp -implicitDefEqProofs only [c29, r29, go_sem]
   refine CO.intro (dbits_ans σ lo) ?_
   cases h : (((bitsF lo : Nat) : Int) == 0) with
   | false =>
     simp -implicitDefEqProofs only [go_sem, h]
     exact Fini.ret rfl
   | true =>
     simp -implicitDefEqProofs only [go_sem, h]
     refine CO.intro (dbits_ans σ hi) ?_
     simp -implicitDefEqProofs only [go_sem, h]
     exact Fini.ret rfl
 | false =>
   simp -implicitDefEqProofs only [c29, r29, go_sem, leF_def]
   exact Fini.ret rfl
theorem dinbd_ans (any : Bool) (lo hi v : Nat) : Ans Tryz.prog 37 [.agg [Bo any, Fl lo, Fl hi], Fl v] σ (Bo (inBd any lo hi v)) σ := by
 refine Ans.of_run t37 ?_
 simp -implicitDefEqProofs only [c37, r37, go_sem]
 refine CO.intro (dmay_ans σ any lo hi) ?_
 unfold inBd
 cases h1 : mayB any lo hi with
 | false =>
   simp -implicitDefEqProofs only [go_sem]
   exact Fini.ret rfl
 | true =>
   cases any with
   | true =>
     simp -implicitDefEqProofs only [go_sem]
     exact Fini.ret rfl
   | false =>
     simp -implicitDefEqProofs only [go_sem, leF_def]
     cases h2 : leF lo v with
     | false =>
       simp -implicitDefEqProofs only [go_sem]
       exact Fini.ret rfl
     | true =>
       simp -implicitDefEqProofs only [go_sem, leF_def]
       exact Fini.ret rfl
structure RSm (r : RuM) : Prop where
 src : ∀ x ∈ r.src, x.2.1.size ≤ 100000
 tgt : ∀ x ∈ r.tgt, x.2.1.size ≤ 100000
 eq : ∀ s ∈ r.eq, s.size ≤ 100000
theorem druis_ans (r : RuM) (hr : RSm r) : Ans Tryz.prog 9 [ruV r] σ (Bo (ruIs r)) σ := by
 obtain ⟨src, tgt, any, lo, hi, eq⟩ := r
 obtain ⟨hs, ht, he⟩ := hr
 simp only at hs ht he
 have d4 : decide ((4 : Int) < eq.length) = decide (4 < eq.length) := decNN 4 _
 refine Ans.of_run t9 ?_
 unfold ruIs ruV
 simp only
 cases h1 : (((src.length : Nat) : Int) == 0) with
 | true =>
   simp -implicitDefEqProofs only [c9, r9, go_sem, mvs3_len, h1]
   exact Fini.ret rfl
 | false =>
 cases h2 : (((tgt.length : Nat) : Int) == 0) with
 | true =>
   simp -implicitDefEqProofs only [c9, r9, go_sem, mvs3_len, h1, h2]
   exact Fini.ret rfl
 | false =>
 simp -implicitDefEqProofs only [c9, r9, go_sem, mvs3_len, h1, h2]
 refine CO.intro (dlist_ans σ src hs) ?_
 cases h3 : listB src with
 | false =>
   simp -implicitDefEqProofs only [go_sem]
   exact Fini.ret rfl
 | true =>
 simp -implicitDefEqProofs only [go_sem]
 refine CO.intro (dlist_ans σ tgt ht) ?_
 cases h4 : listB tgt with
 | false =>
   simp -implicitDefEqProofs only [go_sem]
   exact Fini.ret rfl
 | true =>
 simp -implicitDefEqProofs only [go_sem]
 refine CO.intro (dmay_ans σ any lo hi) ?_
 cases h5 : mayB any lo hi with
 | false =>
   simp -implicitDefEqProofs only [go_sem]
   exact Fini.ret rfl
 | true =>
 unfold eqB
 by_cases h6 : eq.length ≤ 4
 · have x4 : decide (4 < eq.length) = false := decide_eq_false (by omega)
   rw [decide_eq_true h6]
   simp -implicitDefEqProofs only [go_sem, txs_len, d4, x4]
   refine Go.Ab.L.scan eq.length (eqOk eq) (fun i => mkE 70 [(1, .rp [.sl 3 (mvs3 src), .sl 3 (mvs3 tgt), Bo any, Fl lo, Fl hi, .sl 1 (txs eq)]), (3, I i)]) (fun _ => σ) ?_ ?_ rfl rfl
   · intro i hi hp J hJ
     have hx := txs_D eq i hi
     have hsz : (eq.getD i ⟨#[]⟩).size ≤ 100000 := by
      rw [List.getD_eq_getElem?_getD, List.getElem?_eq_getElem hi]; exact he _ (List.getElem_mem hi)
     have hF : eqOk eq i = false → (List.range eq.length).all (eqOk eq) = false := fun h => List.all_eq_false.2 ⟨i, List.mem_range.2 hi, by rw [h]; decide⟩
     have hin := wrap_succ (i := i) (by omega)
     have d0 : decide ((0 : Int) < i) = decide (0 < i) := by rw [Bool.eq_iff_iff]; simp
     have hO : eqOk eq i = (nameB (eq.getD i ⟨#[]⟩) && !(decide (0 < i) && leS (eq.getD i ⟨#[]⟩) (eq.getD (i - 1) ⟨#[]⟩))) := rfl
     rw [hO] at hJ hF
     have hnm := fun σ => dname_ans σ (eq.getD i ⟨#[]⟩) hsz
     simp -implicitDefEqProofs only [mkE, go_sem, txs_len, nat_lt hi, dec_lt hi, hx, D_callS]
     first | refine CD.intro (hnm _) ?_ | refine CS.intro hnm ?_
     generalize eq.getD i ⟨#[]⟩ = s at hJ hF hx
     cases hb : nameB s with
     | false =>
       rw [hb] at hF
       rw [hF rfl]
       simp -implicitDefEqProofs only [go_sem]
       exact Fini.ret rfl
     | true =>
       rw [hb] at hJ hF
       by_cases hz : i = 0
       · subst hz
         have hgo := hJ rfl
         simp -implicitDefEqProofs only [go_sem, d0, hin]
         exact hgo
       · have hpos : decide (0 < i) = true := decide_eq_true (by omega)
         have hx1 := txs_D eq (i - 1) (by omega)
         have w1 : IntKind.i64.wrap ((i : Int) - 1) = ((i - 1 : Nat) : Int) := by rw [wrapN (by omega) (by omega)]; omega
         have hlt1 : (((i - 1 : Nat) : Int) < eq.length) = True := by simp; omega
         rw [hpos] at hJ hF
         generalize eq.getD (i - 1) ⟨#[]⟩ = s1 at hJ hF hx1
         have hle : (Op.bytesLess s.toList s1.toList || s.toList == s1.toList) = leS s s1 := rfl
         simp -implicitDefEqProofs only [go_sem, d0, hpos, w1, txs_len, hlt1, hx1, hx, nat_lt hi, hle]
         cases h7 : leS s s1 with
         | true =>
           rw [h7] at hF
           rw [hF rfl]
           simp -implicitDefEqProofs only [go_sem]
           exact Fini.ret rfl
         | false =>
           rw [h7] at hJ
           have hgo := hJ rfl
           simp -implicitDefEqProofs only [go_sem, hin]
           exact hgo
   · intro hp J
     have hd : decide ((eq.length : Int) < eq.length) = false := by simp
     simp -implicitDefEqProofs only [mkE, go_sem, txs_len, hd]
     refine Fini.ret' rfl (bo_congr ?_)
     exact (List.all_eq_true.2 fun i hi => hp i (List.mem_range.1 hi)).symm
 · have x4 : decide (4 < eq.length) = true := decide_eq_true (by omega)
   rw [decide_eq_false h6]
   simp -implicitDefEqProofs only [go_sem, txs_len, d4, x4]
   exact Fini.ret rfl
theorem drularge_ans (r : RuM) (hr : RSm r) : Ans Tryz.prog 11 [ruV r] σ (Bo (ruLarge r)) σ := by
 have hi := druis_ans σ r hr
 refine Ans.of_run t11 ?_
 unfold ruLarge
 unfold ruV at hi ⊢
 simp -implicitDefEqProofs only [c11, r11, go_sem]
 refine CO.intro hi ?_
 cases h : ruIs r with
 | false =>
   simp -implicitDefEqProofs only [go_sem]
   exact Fini.ret rfl
 | true =>
   obtain ⟨h1, h2, _⟩ := ruIs_len h
   have l1 := (listB_len h1)
   have l2 := (listB_len h2)
   simp -implicitDefEqProofs only [go_sem]
   refine CO.intro (danylarge_ans σ r.src (by omega) hr.src) ?_
   cases h3 : anyLarge r.src with
   | true =>
     simp -implicitDefEqProofs only [go_sem]
     exact Fini.ret rfl
   | false =>
     simp -implicitDefEqProofs only [go_sem]
     refine CO.intro (danylarge_ans σ r.tgt (by omega) hr.tgt) ?_
     simp -implicitDefEqProofs only [go_sem]
     exact Fini.ret rfl
theorem drusrc_ans (r : RuM) (hr : RSm r) (k : Int) (L : List Lab) (v : Nat) (hl : L.length ≤ 1000) (hL : ∀ nm, (getL L nm).size ≤ 100000) : Ans Tryz.prog 13 [ruV r, alV k L v] σ (Bo (ruSrc r L v)) σ := by
 have hi := druis_ans σ r hr
 have hla := drularge_ans σ r hr
 refine Ans.of_run t13 ?_
 unfold ruSrc ruWorks
 unfold ruV at hi hla ⊢
 unfold alV
 simp -implicitDefEqProofs only [c13, r13, go_sem]
 refine CO.intro hi ?_
 cases h : ruIs r with
 | false =>
   simp -implicitDefEqProofs only [go_sem]
   exact Fini.ret rfl
 | true =>
   have l1 := listB_len (ruIs_len h).1
   simp -implicitDefEqProofs only [go_sem]
   refine CO.intro hla ?_
   cases h2 : ruLarge r with
   | true =>
     simp -implicitDefEqProofs only [go_sem]
     exact Fini.ret rfl
   | false =>
     simp -implicitDefEqProofs only [go_sem]
     refine CO.intro (dall_ans σ r.src L (by omega) hl hr.src hL) ?_
     cases h3 : allHold r.src L with
     | false =>
       simp -implicitDefEqProofs only [go_sem]
       exact Fini.ret rfl
     | true =>
       simp -implicitDefEqProofs only [go_sem]
       refine CO.intro (dinbd_ans σ r.any r.lo r.hi v) ?_
       simp -implicitDefEqProofs only [go_sem]
       exact Fini.ret rfl
theorem drutgt_ans (r : RuM) (hr : RSm r) (k : Int) (L : List Lab) (v : Nat) (hl : L.length ≤ 1000) (hL : ∀ nm, (getL L nm).size ≤ 100000) : Ans Tryz.prog 15 [ruV r, alV k L v] σ (Bo (ruTgt r L)) σ := by
 have hi := druis_ans σ r hr
 have hla := drularge_ans σ r hr
 refine Ans.of_run t15 ?_
 unfold ruTgt ruWorks
 unfold ruV at hi hla ⊢
 unfold alV
 simp -implicitDefEqProofs only [c15, r15, go_sem]
 refine CO.intro hi ?_
 cases h : ruIs r with
 | false =>
   simp -implicitDefEqProofs only [go_sem]
   exact Fini.ret rfl
 | true =>
   have l1 := listB_len (ruIs_len h).2.1
   simp -implicitDefEqProofs only [go_sem]
   refine CO.intro hla ?_
   cases h2 : ruLarge r with
   | true =>
     simp -implicitDefEqProofs only [go_sem]
     exact Fini.ret rfl
   | false =>
     simp -implicitDefEqProofs only [go_sem]
     refine CO.intro (dall_ans σ r.tgt L (by omega) hl hr.tgt hL) ?_
     simp -implicitDefEqProofs only [go_sem]
     exact Fini.ret rfl
end
end Go.Proofs.YtoadgajhkhejiaaGreat
namespace Go.Proofs.YtoadgajhkhejiaaGreat
open Go Go.Ab Go.Cod
set_option maxRecDepth 100000
theorem toList_inj {a b : ByteArray} (h : a.toList = b.toList) : a = b := by
 rw [ByteArray.toList_eq, ByteArray.toList_eq] at h
 cases a; cases b
 simpa using h
def likeAt (e : List ByteArray) (L M : List Lab) (i : Nat) : Bool := (getL L (e.getD i ⟨#[]⟩)).toList == (getL M (e.getD i ⟨#[]⟩)).toList
theorem keyEq_all (e : List ByteArray) (L M : List Lab) (hL : ∀ nm, (getL L nm).size ≤ 100000) (hM : ∀ nm, (getL M nm).size ≤ 100000) : keyEq e L M = (List.range e.length).all (likeAt e M L) := by
 rw [Bool.eq_iff_iff, keyEq_iff, List.all_eq_true]
 constructor
 · intro h i hi
   have hi' := List.mem_range.1 hi
   have := keyL_inj L M hL hM e h (e.getD i ⟨#[]⟩) (by rw [List.getD_eq_getElem?_getD, List.getElem?_eq_getElem hi']; exact List.getElem_mem hi')
   unfold likeAt
   rw [this]
   simp
 · intro h
   refine keyL_congr L M e fun n hn => ?_
   obtain ⟨i, hi, rfl⟩ := List.getElem_of_mem hn
   have h1 := h i (List.mem_range.2 hi)
   unfold likeAt at h1
   rw [List.getD_eq_getElem?_getD, List.getElem?_eq_getElem hi] at h1
   simp only [Option.getD_some, beq_iff_eq] at h1
   exact (toList_inj h1).symm
section
variable (σ : St)
theorem drumutes_ans (r : RuM) (hr : RSm r) (kb : Int) (Lb : List Lab) (vb : Nat) (ka : Int) (La : List Lab) (va : Nat) (hlb : Lb.length ≤ 1000) (hLb : ∀ nm, (getL Lb nm).size ≤ 100000) (hla : La.length ≤ 1000) (hLa : ∀ nm, (getL La nm).size ≤ 100000) :
  Ans Tryz.prog 20 [ruV r, alV kb Lb vb, alV ka La va] σ (Bo (ruMutes r Lb vb La va)) σ := by
 have h1 := drutgt_ans σ r hr ka La va hla hLa
 have h2 := drusrc_ans σ r hr kb Lb vb hlb hLb
 have h3 := drusrc_ans σ r hr ka La va hla hLa
 refine Ans.of_run t20 ?_
 unfold ruMutes
 have h4 : ruTgt r La = true → r.eq.length ≤ 4 := fun h => by
  unfold ruTgt ruWorks at h
  simp only [Bool.and_eq_true] at h
  have := (ruIs_len h.1.1).2.2
  unfold eqB at this
  simp only [Bool.and_eq_true, decide_eq_true_eq] at this
  exact this.1
 rw [keyEq_all r.eq Lb La hLb hLa]
 obtain ⟨src, tgt, any, lo, hi, e⟩ := r
 unfold ruV alV at h1 h2 h3 ⊢
 simp only at h1 h2 h3 h4 ⊢
 generalize ruTgt ⟨src, tgt, any, lo, hi, e⟩ La = b1 at h1 h4 ⊢
 generalize ruSrc ⟨src, tgt, any, lo, hi, e⟩ Lb vb = b2 at h2 ⊢
 generalize ruSrc ⟨src, tgt, any, lo, hi, e⟩ La va = b3 at h3 ⊢
 simp -implicitDefEqProofs only [c20, r20, go_sem]
 refine CO.intro h1 ?_
 cases b1 with
 | false =>
   simp -implicitDefEqProofs only [go_sem]
   exact Fini.ret rfl
 | true =>
   have h4 := h4 rfl
   simp -implicitDefEqProofs only [go_sem]
   refine CO.intro h2 ?_
   cases b2 with
   | false =>
     simp -implicitDefEqProofs only [go_sem]
     exact Fini.ret rfl
   | true =>
     simp -implicitDefEqProofs only [go_sem]
     refine CO.intro h3 ?_
     cases b3 with
     | true =>
       simp -implicitDefEqProofs only [go_sem]
       exact Fini.ret rfl
     | false =>
       simp -implicitDefEqProofs only [go_sem]
       refine Go.Ab.L.scan e.length (likeAt e La Lb) (fun i => mkE 47 [(3, .rp [.sl 3 (mvs3 src), .sl 3 (mvs3 tgt), Bo any, Fl lo, Fl hi, .sl 1 (txs e)]), (4, .rp [I kb, .sl 2 (lvs Lb), Fl vb]), (5, .rp [I ka, .sl 2 (lvs La), Fl va]), (7, I i)]) (fun _ => σ) ?_ ?_ rfl rfl
       · intro i hi hp J hJ
         have hx := txs_D e i hi
         have hF : likeAt e La Lb i = false → (List.range e.length).all (likeAt e La Lb) = false := fun h => List.all_eq_false.2 ⟨i, List.mem_range.2 hi, by rw [h]; decide⟩
         have hin := wrap_succ (i := i) (by omega)
         have g1 := fun σ => getlab_ans σ La (e.getD i ⟨#[]⟩) hla
         have g2 := fun σ => getlab_ans σ Lb (e.getD i ⟨#[]⟩) hlb
         have hk : likeAt e La Lb i = ((getL La (e.getD i ⟨#[]⟩)).toList == (getL Lb (e.getD i ⟨#[]⟩)).toList) := rfl
         rw [hk] at hJ hF
         generalize e.getD i ⟨#[]⟩ = s at hJ hF hx g1 g2
         generalize getL La s = w1 at hJ hF g1
         generalize getL Lb s = w2 at hJ hF g2
         simp -implicitDefEqProofs only [mkE, go_sem, txs_len, nat_lt hi, dec_lt hi, hx, D_callS]
         first | refine CD.intro (g1 _) ?_ | refine CS.intro g1 ?_
         simp -implicitDefEqProofs only [go_sem, txs_len, nat_lt hi, hx, D_callS]
         first | refine CD.intro (g2 _) ?_ | refine CS.intro g2 ?_
         cases hb : (w1.toList == w2.toList) with
         | false =>
           rw [hb] at hF
           rw [hF rfl]
           simp -implicitDefEqProofs only [go_sem, hb]
           exact Fini.ret rfl
         | true =>
           rw [hb] at hJ
           have hgo := hJ rfl
           simp -implicitDefEqProofs only [go_sem, hb, hin]
           exact hgo
       · intro hp J
         have hd : decide ((e.length : Int) < e.length) = false := by simp
         simp -implicitDefEqProofs only [mkE, go_sem, txs_len, hd]
         refine Fini.ret' rfl (bo_congr ?_)
         exact (List.all_eq_true.2 fun i hi => hp i (List.mem_range.1 hi)).symm
end
end Go.Proofs.YtoadgajhkhejiaaGreat
