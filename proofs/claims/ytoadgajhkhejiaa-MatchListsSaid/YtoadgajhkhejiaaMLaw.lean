/- What the functions do, over abstract values: printed by a program, checked by the kernel. No condition. -/
import Derived.Test.YtoadgajhkhejiaaProg
import Derived.Test.YtoadgajhkhejiaaAbSpec
namespace Go.Proofs.Ytoadgajhkhejiaa
open Go Go.Ab
set_option maxRecDepth 100000
def c7 : ACode :=
 (.seq (.ops [⟨some 4, none, .prim (.mov (.const (.bool false)))⟩])
 (.seq (.seq (.ops [⟨some 6, none, .prim (.mov (.tmp 0))⟩,
 ⟨some 7, none, .prim (.mov (.tmp 1))⟩,
 ⟨some 8, none, .call (.func 13) [(.tmp 6), (.tmp 7)]⟩,
 ⟨some 9, none, .prim (.un .not (.tmp 8))⟩])
 (.cond (.tmp 9)
 (.seq (.ops [⟨some 10, none, .call (.func 14) []⟩,
 ⟨some 4, none, .prim (.mov (.tmp 10))⟩])
 .ret)
 .skip))
 (.seq (.seq (.ops [⟨some 5, none, .prim (.mov (.const (.int .i64 0)))⟩])
 (.block 0 (.loop [2, 3, 4, 6, 7, 8, 9, 10, 11, 12, 13, 14, 15, 16, 17, 18, 19, 20, 21, 22, 23, 24, 25, 26, 27, 28, 29, 30, 31, 32, 33, 34, 35, 36, 37, 38, 39, 40, 41, 42, 43, 44, 45, 46, 47, 48] (.seq (.seq (.ops [⟨some 11, none, .prim (.mov (.tmp 5))⟩,
 ⟨some 12, none, .prim (.mov (.tmp 1))⟩,
 ⟨some 13, none, .prim (.lenv (.tmp 12))⟩,
 ⟨some 14, none, .prim (.bin false .lss (.tmp 11) (.tmp 13))⟩])
 (.cond (.tmp 14)
 .skip
 (.exit 0)))
 (.seq (.block 1 (.seq (.ops [⟨some 17, none, .prim (.mov (.tmp 1))⟩,
 ⟨some 18, none, .prim (.mov (.tmp 5))⟩,
 ⟨some 19, none, .prim (.iadrs 2 (.tmp 17) (.tmp 18))⟩,
 ⟨some 20, none, .prim (.fadr 1 (.tmp 19))⟩,
 ⟨some 21, none, .prim (.load 1 false (.tmp 20))⟩,
 ⟨some 22, none, .prim (.lens (.tmp 21))⟩,
 ⟨some 23, none, .prim (.bin false .gtr (.tmp 22) (.const (.int .i64 30)))⟩])
 (.cond (.tmp 23)
 (.seq (.ops [⟨some 24, none, .call (.func 14) []⟩,
 ⟨some 4, none, .prim (.mov (.tmp 24))⟩])
 .ret)
 .skip)))
 (.ops [⟨some 15, none, .prim (.mov (.tmp 5))⟩,
 ⟨some 16, none, .prim (.bin false .add (.tmp 15) (.const (.int .i64 1)))⟩,
 ⟨some 5, none, .prim (.mov (.tmp 16))⟩]))))))
 (.seq (.ops [⟨some 25, none, .prim (.mov (.tmp 0))⟩,
 ⟨some 26, none, .call (.func 24) [(.tmp 25)]⟩,
 ⟨some 27, none, .prim (.mov (.tmp 0))⟩,
 ⟨some 28, none, .call (.func 26) [(.tmp 27)]⟩,
 ⟨some 29, none, .prim (.bin true .eql (.tmp 26) (.tmp 28))⟩,
 ⟨some 30, none, .prim (.mov (.tmp 29))⟩,
 ⟨some 31, (some (30, true)), .prim (.mov (.tmp 0))⟩,
 ⟨some 32, (some (30, true)), .call (.func 27) [(.tmp 31)]⟩,
 ⟨some 33, (some (30, true)), .prim (.mov (.tmp 0))⟩,
 ⟨some 34, (some (30, true)), .call (.func 28) [(.tmp 33)]⟩,
 ⟨some 35, (some (30, true)), .prim (.bin true .eql (.tmp 32) (.tmp 34))⟩,
 ⟨some 36, none, .prim (.pick (.tmp 30) (.tmp 35) (.const (.bool false)))⟩,
 ⟨some 37, none, .prim (.mov (.tmp 36))⟩,
 ⟨some 38, (some (37, true)), .prim (.mov (.tmp 0))⟩,
 ⟨some 39, (some (37, true)), .prim (.mov (.tmp 1))⟩,
 ⟨some 40, (some (37, true)), .call (.func 25) [(.tmp 38), (.tmp 39)]⟩,
 ⟨some 41, (some (37, true)), .prim (.mov (.tmp 0))⟩,
 ⟨some 42, (some (37, true)), .prim (.mov (.tmp 1))⟩,
 ⟨some 43, (some (37, true)), .call (.func 29) [(.tmp 41), (.tmp 42)]⟩,
 ⟨some 44, (some (37, true)), .prim (.bin true .eql (.tmp 40) (.tmp 43))⟩,
 ⟨some 45, none, .prim (.pick (.tmp 37) (.tmp 44) (.const (.bool false)))⟩,
 ⟨some 46, none, .prim (.mov (.tmp 45))⟩,
 ⟨some 47, (some (46, true)), .call (.func 14) []⟩,
 ⟨some 48, none, .prim (.pick (.tmp 46) (.tmp 47) (.const (.bool false)))⟩,
 ⟨some 4, none, .prim (.mov (.tmp 48))⟩])
 .ret))))
def o7 : List Tmp := []
def r7 : List RV := [.tmp 4]
theorem t7 : Text Try.prog 7 o7 c7 r7 49 := ⟨⟨Try.f7, _, by kernel_rfl, by kernel_rfl, rfl, by kernel_rfl, by kernel_rfl, rfl⟩, by kernel_rfl⟩
def c20 : ACode :=
 (.seq (.ops [⟨some 2, none, .prim (.boxr (.tmp 0))⟩,
 ⟨some 4, none, .prim (.mov (.const (.bool false)))⟩])
 (.seq (.seq (.ops [⟨some 8, none, .prim (.load 3 true (.tmp 2))⟩,
 ⟨some 9, none, .call (.func 17) [(.tmp 8)]⟩,
 ⟨some 10, none, .prim (.un .not (.tmp 9))⟩,
 ⟨some 11, none, .prim (.mov (.tmp 10))⟩,
 ⟨some 12, (some (11, false)), .prim (.load 3 true (.tmp 2))⟩,
 ⟨some 13, (some (11, false)), .call (.func 19) [(.tmp 12)]⟩,
 ⟨some 14, none, .prim (.pick (.tmp 11) (.const (.bool true)) (.tmp 13))⟩])
 (.cond (.tmp 14)
 (.seq (.ops [⟨some 4, none, .prim (.mov (.const (.bool false)))⟩])
 .ret)
 .skip))
 (.seq (.ops [⟨some 15, none, .prim (.mov (.tmp 1))⟩,
 ⟨some 16, none, .prim (.fadr 1 (.tmp 2))⟩,
 ⟨some 17, none, .prim (.load 1 false (.tmp 16))⟩,
 ⟨some 18, none, .call (.func 35) [(.tmp 15), (.tmp 17)]⟩,
 ⟨some 5, none, .prim (.mov (.tmp 18))⟩])
 (.seq (.seq (.ops [⟨some 19, none, .prim (.fadr 0 (.tmp 2))⟩,
 ⟨some 20, none, .prim (.load 1 false (.tmp 19))⟩])
 (.block 0 (.seq (.ops [⟨some 22, none, .prim (.bin false .eql (.tmp 20) (.const (.int .i64 1)))⟩,
 ⟨some 21, none, .prim (.mov (.tmp 22))⟩])
 (.cond (.tmp 21)
 (.seq (.ops [⟨some 23, none, .prim (.mov (.tmp 5))⟩,
 ⟨some 24, none, .prim (.fadr 2 (.tmp 2))⟩,
 ⟨some 25, none, .prim (.load 1 false (.tmp 24))⟩,
 ⟨some 26, none, .prim (.bin false .eql (.tmp 23) (.tmp 25))⟩,
 ⟨some 4, none, .prim (.mov (.tmp 26))⟩])
 .ret)
 (.seq (.ops [⟨some 28, none, .prim (.bin false .eql (.tmp 20) (.const (.int .i64 2)))⟩,
 ⟨some 27, none, .prim (.mov (.tmp 28))⟩])
 (.cond (.tmp 27)
 (.seq (.ops [⟨some 29, none, .prim (.mov (.tmp 5))⟩,
 ⟨some 30, none, .prim (.fadr 2 (.tmp 2))⟩,
 ⟨some 31, none, .prim (.load 1 false (.tmp 30))⟩,
 ⟨some 32, none, .prim (.bin false .neq (.tmp 29) (.tmp 31))⟩,
 ⟨some 4, none, .prim (.mov (.tmp 32))⟩])
 .ret)
 .skip))))))
 (.seq (.ops [⟨some 34, none, .prim (.fadr 2 (.tmp 2))⟩,
 ⟨some 35, none, .prim (.load 1 false (.tmp 34))⟩,
 ⟨some 36, none, .call (.func 56) [(.tmp 35)]⟩,
 ⟨some 33, none, .prim (.mov (.tmp 36))⟩,
 ⟨some 37, none, .prim (.extr 0 (.tmp 33))⟩,
 ⟨some 38, none, .prim (.extr 1 (.tmp 33))⟩,
 ⟨some 6, none, .fresh 6 6 (.tmp 37)⟩,
 ⟨some 7, none, .prim (.mov (.tmp 38))⟩])
 (.seq (.draw [⟨⟨some 39, none, .prim (.load 6 true (.tmp 6))⟩, [], false, 0, 0⟩,
 ⟨⟨some 40, none, .prim (.mov (.tmp 5))⟩, [], false, 0, 0⟩,
 ⟨⟨some 41, none, .call (.func 58) [(.tmp 39), (.tmp 40)]⟩, [0, 1], true, 0, 0⟩,
 ⟨⟨some 42, none, .prim (.fadr 0 (.tmp 2))⟩, [], false, 0, 1⟩,
 ⟨⟨some 43, none, .prim (.load 1 false (.tmp 42))⟩, [3], false, 0, 1⟩,
 ⟨⟨some 44, none, .prim (.bin false .eql (.tmp 43) (.const (.int .i64 3)))⟩, [3, 4], false, 0, 1⟩,
 ⟨⟨some 45, none, .prim (.bin true .eql (.tmp 41) (.tmp 44))⟩, [0, 1, 2, 3, 4, 5], false, 1, 1⟩,
 ⟨⟨some 4, none, .prim (.mov (.tmp 45))⟩, [0, 1, 2, 3, 4, 5, 6], false, 1, 1⟩])
 .ret))))))
def o20 : List Tmp := []
def r20 : List RV := [.tmp 4]
theorem t20 : Text Try.prog 20 o20 c20 r20 46 := ⟨⟨Try.f20, _, by kernel_rfl, by kernel_rfl, rfl, by kernel_rfl, by kernel_rfl, rfl⟩, by kernel_rfl⟩
def c58 : ACode :=
 (.seq (.ops [⟨some 2, none, .prim (.boxr (.tmp 0))⟩,
 ⟨some 4, none, .prim (.mov (.const (.bool false)))⟩])
 (.seq (.ops [⟨some 6, none, .prim (.load 6 true (.tmp 2))⟩,
 ⟨some 7, none, .prim (.mov (.tmp 1))⟩,
 ⟨some 8, none, .call (.func 99) [(.tmp 6), (.tmp 7), (.const (.int .i64 0))]⟩,
 ⟨some 5, none, .prim (.mov (.tmp 8))⟩])
 (.seq (.ops [⟨some 9, none, .prim (.mov (.tmp 5))⟩,
 ⟨some 10, none, .prim (.lenv (.tmp 9))⟩,
 ⟨some 11, none, .prim (.bin false .gtr (.tmp 10) (.const (.int .i64 0)))⟩,
 ⟨some 12, none, .prim (.mov (.tmp 11))⟩,
 ⟨some 13, (some (12, true)), .prim (.mov (.tmp 5))⟩,
 ⟨some 14, (some (12, true)), .prim (.mov (.tmp 5))⟩,
 ⟨some 15, (some (12, true)), .prim (.lenv (.tmp 14))⟩,
 ⟨some 16, (some (12, true)), .prim (.bin false .sub (.tmp 15) (.const (.int .i64 1)))⟩,
 ⟨some 17, (some (12, true)), .prim (.iadrs 1 (.tmp 13) (.tmp 16))⟩,
 ⟨some 18, (some (12, true)), .prim (.load 1 false (.tmp 17))⟩,
 ⟨some 19, (some (12, true)), .prim (.mov (.tmp 1))⟩,
 ⟨some 20, (some (12, true)), .prim (.lens (.tmp 19))⟩,
 ⟨some 21, (some (12, true)), .prim (.bin false .eql (.tmp 18) (.tmp 20))⟩,
 ⟨some 22, none, .prim (.pick (.tmp 12) (.tmp 21) (.const (.bool false)))⟩,
 ⟨some 4, none, .prim (.mov (.tmp 22))⟩])
 .ret)))
def o58 : List Tmp := []
def r58 : List RV := [.tmp 4]
theorem t58 : Text Try.prog 58 o58 c58 r58 23 := ⟨⟨Try.f58, _, by kernel_rfl, by kernel_rfl, rfl, by kernel_rfl, by kernel_rfl, rfl⟩, by kernel_rfl⟩
def c99 : ACode :=
 (.seq (.ops [⟨some 3, none, .prim (.boxr (.tmp 0))⟩,
 ⟨some 6, none, .prim (.mov (.const (.slice none 0 0)))⟩])
 (.seq (.seq (.ops [⟨some 11, none, .prim (.load 6 true (.tmp 3))⟩,
 ⟨some 12, none, .call (.func 97) [(.tmp 11)]⟩,
 ⟨some 13, none, .prim (.un .not (.tmp 12))⟩,
 ⟨some 14, none, .prim (.mov (.tmp 13))⟩,
 ⟨some 15, (some (14, false)), .prim (.mov (.tmp 2))⟩,
 ⟨some 16, (some (14, false)), .prim (.bin false .lss (.tmp 15) (.const (.int .i64 0)))⟩,
 ⟨some 17, none, .prim (.pick (.tmp 14) (.const (.bool true)) (.tmp 16))⟩,
 ⟨some 18, none, .prim (.mov (.tmp 17))⟩,
 ⟨some 19, (some (18, false)), .prim (.mov (.tmp 2))⟩,
 ⟨some 20, (some (18, false)), .prim (.mov (.tmp 1))⟩,
 ⟨some 21, (some (18, false)), .prim (.lens (.tmp 20))⟩,
 ⟨some 22, (some (18, false)), .prim (.bin false .gtr (.tmp 19) (.tmp 21))⟩,
 ⟨some 23, none, .prim (.pick (.tmp 18) (.const (.bool true)) (.tmp 22))⟩])
 (.cond (.tmp 23)
 (.seq (.ops [⟨some 6, none, .prim (.mov (.const (.slice none 0 0)))⟩])
 (.ghost (.shut 6) .ret))
 .skip))
 (.seq (.ops [⟨some 24, none, .prim (.mov (.tmp 1))⟩,
 ⟨some 25, none, .prim (.lens (.tmp 24))⟩,
 ⟨some 26, none, .prim (.bin false .add (.tmp 25) (.const (.int .i64 1)))⟩,
 ⟨some 27, none, .prim (.mks 1 false [.pl (.bool false)] (.tmp 26) (.tmp 26))⟩,
 ⟨some 7, none, .prim (.mov (.tmp 27))⟩])
 (.seq (.ops [⟨some 28, none, .prim (.mov (.tmp 7))⟩,
 ⟨some 29, none, .prim (.mov (.tmp 2))⟩,
 ⟨some 30, none, .prim (.iadrs 1 (.tmp 28) (.tmp 29))⟩,
 ⟨none, none, .prim (.store 1 (.tmp 30) (.const (.bool true)))⟩])
 (.seq (.ghost (.shut 7) (.ops [⟨some 31, none, .prim (.load 6 true (.tmp 3))⟩,
 ⟨some 32, none, .prim (.mov (.tmp 1))⟩,
 ⟨some 33, none, .prim (.mov (.tmp 7))⟩,
 ⟨some 34, none, .call (.func 121) [(.tmp 31), (.tmp 32), (.tmp 33)]⟩,
 ⟨some 8, none, .prim (.mov (.tmp 34))⟩]))
 (.seq (.after (.ops [⟨some 9, none, .prim (.mov (.const (.slice none 0 0)))⟩]) (.own 9 1))
 (.seq (.seq (.ops [⟨some 10, none, .prim (.mov (.const (.int .i64 0)))⟩])
 (.block 0 (.loop [0, 2, 3, 4, 5, 6, 7, 11, 12, 13, 14, 15, 16, 17, 18, 19, 20, 21, 22, 23, 24, 25, 26, 27, 28, 29, 30, 31, 32, 33, 34, 35, 36, 37, 38, 39, 40, 41, 42, 43, 44, 45, 46, 47, 48, 49] (.seq (.seq (.ops [⟨some 35, none, .prim (.mov (.tmp 10))⟩,
 ⟨some 36, none, .prim (.mov (.tmp 1))⟩,
 ⟨some 37, none, .prim (.lens (.tmp 36))⟩,
 ⟨some 38, none, .prim (.bin false .leq (.tmp 35) (.tmp 37))⟩])
 (.cond (.tmp 38)
 .skip
 (.exit 0)))
 (.seq (.block 1 (.seq (.ops [⟨some 41, none, .prim (.mov (.tmp 8))⟩,
 ⟨some 42, none, .prim (.mov (.tmp 10))⟩,
 ⟨some 43, none, .prim (.iadrs 1 (.tmp 41) (.tmp 42))⟩,
 ⟨some 44, none, .prim (.load 1 false (.tmp 43))⟩])
 (.cond (.tmp 44)
 (.ops [⟨some 45, none, .prim (.mov (.tmp 9))⟩,
 ⟨some 46, none, .prim (.mov (.tmp 10))⟩,
 ⟨some 47, none, .prim (.bsl false 1 false 1 [.pl (.int .i64 0)] [(0, 1, (.tmp 46))])⟩,
 ⟨some 48, none, .prim (.app 1 (.tmp 45) (.tmp 47))⟩,
 ⟨some 9, none, .prim (.mov (.tmp 48))⟩])
 .skip)))
 (.ops [⟨some 39, none, .prim (.mov (.tmp 10))⟩,
 ⟨some 40, none, .prim (.bin false .add (.tmp 39) (.const (.int .i64 1)))⟩,
 ⟨some 10, none, .prim (.mov (.tmp 40))⟩]))))))
 (.seq (.ops [⟨some 49, none, .prim (.mov (.tmp 9))⟩,
 ⟨some 6, none, .prim (.mov (.tmp 49))⟩])
 (.ghost (.shut 6) .ret)))))))))
def o99 : List Tmp := []
def r99 : List RV := [.tmp 6]
theorem t99 : Text Try.prog 99 o99 c99 r99 50 := ⟨⟨Try.f99, _, by kernel_rfl, by kernel_rfl, rfl, by kernel_rfl, by kernel_rfl, rfl⟩, by kernel_rfl⟩
def c121 : ACode :=
 (.seq (.ops [⟨some 3, none, .prim (.boxr (.tmp 0))⟩,
 ⟨some 6, none, .prim (.mov (.const (.slice none 0 0)))⟩])
 (.seq (.ops [⟨some 14, none, .prim (.mov (.tmp 1))⟩,
 ⟨some 15, none, .prim (.lens (.tmp 14))⟩,
 ⟨some 16, none, .prim (.bin false .add (.tmp 15) (.const (.int .i64 1)))⟩,
 ⟨some 17, none, .prim (.mks 1 false [.pl (.bool false)] (.tmp 16) (.tmp 16))⟩,
 ⟨some 7, none, .prim (.mov (.tmp 17))⟩])
 (.seq (.seq (.ops [⟨some 18, none, .prim (.fadr 0 (.tmp 3))⟩,
 ⟨some 19, none, .prim (.load 1 false (.tmp 18))⟩])
 (.block 0 (.seq (.ops [⟨some 24, none, .prim (.bin false .eql (.tmp 19) (.const (.int .i64 1)))⟩,
 ⟨some 23, none, .prim (.mov (.tmp 24))⟩])
 (.cond (.tmp 23)
 (.seq (.seq (.ops [⟨some 8, none, .prim (.mov (.const (.int .i64 0)))⟩])
 (.block 1 (.loop [0, 4, 5, 6, 9, 10, 11, 12, 13, 14, 15, 16, 17, 18, 19, 20, 21, 22, 23, 24, 25, 26, 27, 28, 29, 30, 31, 32, 33, 34, 35, 36, 37, 38, 39, 40, 41, 42, 43, 44, 45, 46, 47, 48, 49, 50, 51, 52, 53, 54, 55, 56, 57, 58, 59, 60, 61, 62, 63, 64, 65, 66, 67, 68, 69, 70, 71, 72, 73, 74, 75, 76, 77, 78, 79, 80, 81, 82, 83, 84, 85, 86, 87, 88, 89, 90, 91, 92, 93, 94, 95, 96, 97, 98, 99, 100, 101, 102, 103, 104, 105, 106, 107, 108, 109, 110, 111, 112, 113, 114, 115, 116, 117, 118, 119, 120, 121, 122, 123, 124, 125, 126, 127, 128, 129] (.seq (.seq (.ops [⟨some 25, none, .prim (.mov (.tmp 8))⟩,
 ⟨some 26, none, .prim (.mov (.tmp 1))⟩,
 ⟨some 27, none, .prim (.lens (.tmp 26))⟩,
 ⟨some 28, none, .prim (.bin false .lss (.tmp 25) (.tmp 27))⟩])
 (.cond (.tmp 28)
 .skip
 (.exit 1)))
 (.seq (.block 2 (.draw [⟨⟨some 31, none, .prim (.mov (.tmp 7))⟩, [], false, 0, 1⟩,
 ⟨⟨some 32, none, .prim (.mov (.tmp 8))⟩, [], false, 0, 1⟩,
 ⟨⟨some 33, none, .prim (.bin false .add (.tmp 32) (.const (.int .i64 1)))⟩, [1], false, 0, 1⟩,
 ⟨⟨some 34, none, .prim (.mov (.tmp 2))⟩, [], false, 0, 0⟩,
 ⟨⟨some 35, none, .prim (.mov (.tmp 8))⟩, [], false, 0, 0⟩,
 ⟨⟨some 36, none, .prim (.iadrs 1 (.tmp 34) (.tmp 35))⟩, [3, 4], false, 0, 0⟩,
 ⟨⟨some 37, none, .prim (.load 1 false (.tmp 36))⟩, [3, 4, 5], false, 0, 0⟩,
 ⟨⟨some 38, none, .prim (.mov (.tmp 37))⟩, [3, 4, 5, 6], false, 0, 0⟩,
 ⟨⟨some 39, (some (38, true)), .prim (.fadr 1 (.tmp 3))⟩, [3, 4, 5, 6, 7], false, 0, 0⟩,
 ⟨⟨some 40, (some (38, true)), .prim (.load 4 true (.tmp 39))⟩, [3, 4, 5, 6, 7, 8], false, 0, 0⟩,
 ⟨⟨some 41, (some (38, true)), .prim (.mov (.tmp 1))⟩, [3, 4, 5, 6, 7], false, 0, 0⟩,
 ⟨⟨some 42, (some (38, true)), .prim (.mov (.tmp 8))⟩, [3, 4, 5, 6, 7], false, 0, 0⟩,
 ⟨⟨some 43, (some (38, true)), .prim (.idxs (.tmp 41) (.tmp 42))⟩, [3, 4, 5, 6, 7, 10, 11], false, 0, 0⟩,
 ⟨⟨some 44, (some (38, true)), .call (.func 136) [(.tmp 40), (.tmp 43)]⟩, [3, 4, 5, 6, 7, 8, 9, 10, 11, 12], true, 0, 0⟩,
 ⟨⟨some 45, none, .prim (.pick (.tmp 38) (.tmp 44) (.const (.bool false)))⟩, [3, 4, 5, 6, 7, 8, 9, 10, 11, 12, 13], false, 1, 1⟩,
 ⟨⟨some 46, none, .prim (.iadrs 1 (.tmp 31) (.tmp 33))⟩, [0, 1, 2, 3, 4, 5, 6, 7, 8, 9, 10, 11, 12, 13, 14], false, 1, 1⟩,
 ⟨⟨none, none, .prim (.store 1 (.tmp 46) (.tmp 45))⟩, [0, 1, 2, 3, 4, 5, 6, 7, 8, 9, 10, 11, 12, 13, 14, 15], true, 0, 0⟩]))
 (.ops [⟨some 29, none, .prim (.mov (.tmp 8))⟩,
 ⟨some 30, none, .prim (.bin false .add (.tmp 29) (.const (.int .i64 1)))⟩,
 ⟨some 8, none, .prim (.mov (.tmp 30))⟩]))))))
 (.seq (.ops [⟨some 47, none, .prim (.mov (.tmp 7))⟩,
 ⟨some 6, none, .prim (.mov (.tmp 47))⟩])
 (.ghost (.shut 6) .ret)))
 (.seq (.ops [⟨some 49, none, .prim (.bin false .eql (.tmp 19) (.const (.int .i64 2)))⟩,
 ⟨some 48, none, .prim (.mov (.tmp 49))⟩])
 (.cond (.tmp 48)
 (.seq (.ops [⟨some 50, none, .prim (.mov (.tmp 2))⟩,
 ⟨some 9, none, .prim (.mov (.tmp 50))⟩])
 (.seq (.seq (.ops [⟨some 10, none, .prim (.mov (.const (.int .i64 0)))⟩])
 (.block 3 (.loop [0, 2, 4, 5, 6, 8, 11, 12, 13, 14, 15, 16, 17, 18, 19, 20, 21, 22, 23, 24, 25, 26, 27, 28, 29, 30, 31, 32, 33, 34, 35, 36, 37, 38, 39, 40, 41, 42, 43, 44, 45, 46, 47, 48, 49, 50, 51, 52, 53, 54, 55, 56, 57, 58, 59, 60, 61, 62, 63, 64, 65, 66, 67, 68, 69, 70, 71, 72, 73, 74, 75, 76, 77, 78, 79, 80, 81, 82, 83, 84, 85, 86, 87, 88, 89, 90, 91, 92, 93, 94, 95, 96, 97, 98, 99, 100, 101, 102, 103, 104, 105, 106, 107, 108, 109, 110, 111, 112, 113, 114, 115, 116, 117, 118, 119, 120, 121, 122, 123, 124, 125, 126, 127, 128, 129] (.seq (.seq (.ops [⟨some 51, none, .prim (.mov (.tmp 10))⟩,
 ⟨some 52, none, .prim (.fadr 5 (.tmp 3))⟩,
 ⟨some 53, none, .prim (.load 1 false (.tmp 52))⟩,
 ⟨some 54, none, .prim (.lenv (.tmp 53))⟩,
 ⟨some 55, none, .prim (.bin false .lss (.tmp 51) (.tmp 54))⟩])
 (.cond (.tmp 55)
 .skip
 (.exit 3)))
 (.seq (.block 4 (.ops [⟨some 58, none, .prim (.fadr 5 (.tmp 3))⟩,
 ⟨some 59, none, .prim (.load 1 false (.tmp 58))⟩,
 ⟨some 60, none, .prim (.mov (.tmp 10))⟩,
 ⟨some 61, none, .prim (.iadrs 6 (.tmp 59) (.tmp 60))⟩,
 ⟨some 62, none, .prim (.load 6 true (.tmp 61))⟩,
 ⟨some 63, none, .prim (.mov (.tmp 1))⟩,
 ⟨some 64, none, .prim (.mov (.tmp 9))⟩,
 ⟨some 65, none, .call (.func 121) [(.tmp 62), (.tmp 63), (.tmp 64)]⟩,
 ⟨some 9, none, .prim (.mov (.tmp 65))⟩]))
 (.ops [⟨some 56, none, .prim (.mov (.tmp 10))⟩,
 ⟨some 57, none, .prim (.bin false .add (.tmp 56) (.const (.int .i64 1)))⟩,
 ⟨some 10, none, .prim (.mov (.tmp 57))⟩]))))))
 (.seq (.ops [⟨some 66, none, .prim (.mov (.tmp 7))⟩,
 ⟨some 67, none, .prim (.mov (.tmp 9))⟩,
 ⟨some 68, none, .prim (.copy (.tmp 66) (.tmp 67))⟩])
 (.seq (.ops [⟨some 69, none, .prim (.mov (.tmp 7))⟩,
 ⟨some 6, none, .prim (.mov (.tmp 69))⟩])
 (.ghost (.shut 6) .ret)))))
 (.seq (.ops [⟨some 71, none, .prim (.bin false .eql (.tmp 19) (.const (.int .i64 3)))⟩,
 ⟨some 70, none, .prim (.mov (.tmp 71))⟩])
 (.cond (.tmp 70)
 (.seq (.seq (.ghost (.shut 7) (.ops [⟨some 11, none, .prim (.mov (.const (.int .i64 0)))⟩]))
 (.block 5 (.loop [0, 4, 5, 6, 8, 9, 10, 12, 13, 14, 15, 16, 17, 18, 19, 20, 21, 22, 23, 24, 25, 26, 27, 28, 29, 30, 31, 32, 33, 34, 35, 36, 37, 38, 39, 40, 41, 42, 43, 44, 45, 46, 47, 48, 49, 50, 51, 52, 53, 54, 55, 56, 57, 58, 59, 60, 61, 62, 63, 64, 65, 66, 67, 68, 69, 70, 71, 72, 73, 74, 75, 76, 77, 78, 79, 80, 81, 82, 83, 84, 85, 86, 87, 88, 89, 90, 91, 92, 93, 94, 95, 96, 97, 98, 99, 100, 101, 102, 103, 104, 105, 106, 107, 108, 109, 110, 111, 112, 113, 114, 115, 116, 117, 118, 119, 120, 121, 122, 123, 124, 125, 126, 127, 128, 129] (.seq (.seq (.ops [⟨some 72, none, .prim (.mov (.tmp 11))⟩,
 ⟨some 73, none, .prim (.fadr 5 (.tmp 3))⟩,
 ⟨some 74, none, .prim (.load 1 false (.tmp 73))⟩,
 ⟨some 75, none, .prim (.lenv (.tmp 74))⟩,
 ⟨some 76, none, .prim (.bin false .lss (.tmp 72) (.tmp 75))⟩])
 (.cond (.tmp 76)
 .skip
 (.exit 5)))
 (.seq (.block 6 (.ops [⟨some 79, none, .prim (.mov (.tmp 7))⟩,
 ⟨some 80, none, .prim (.fadr 5 (.tmp 3))⟩,
 ⟨some 81, none, .prim (.load 1 false (.tmp 80))⟩,
 ⟨some 82, none, .prim (.mov (.tmp 11))⟩,
 ⟨some 83, none, .prim (.iadrs 6 (.tmp 81) (.tmp 82))⟩,
 ⟨some 84, none, .prim (.load 6 true (.tmp 83))⟩,
 ⟨some 85, none, .prim (.mov (.tmp 1))⟩,
 ⟨some 86, none, .prim (.mov (.tmp 2))⟩,
 ⟨some 87, none, .call (.func 121) [(.tmp 84), (.tmp 85), (.tmp 86)]⟩,
 ⟨some 88, none, .call (.func 137) [(.tmp 79), (.tmp 87)]⟩,
 ⟨some 7, none, .prim (.mov (.tmp 88))⟩]))
 (.ops [⟨some 77, none, .prim (.mov (.tmp 11))⟩,
 ⟨some 78, none, .prim (.bin false .add (.tmp 77) (.const (.int .i64 1)))⟩,
 ⟨some 11, none, .prim (.mov (.tmp 78))⟩]))))))
 (.seq (.ops [⟨some 89, none, .prim (.mov (.tmp 7))⟩,
 ⟨some 6, none, .prim (.mov (.tmp 89))⟩])
 (.ghost (.shut 6) .ret)))
 (.seq (.ops [⟨some 91, none, .prim (.bin false .eql (.tmp 19) (.const (.int .i64 6)))⟩,
 ⟨some 90, none, .prim (.mov (.tmp 91))⟩])
 (.cond (.tmp 90)
 (.seq (.ops [⟨some 92, none, .prim (.mov (.tmp 2))⟩,
 ⟨some 93, none, .prim (.fadr 5 (.tmp 3))⟩,
 ⟨some 94, none, .prim (.load 1 false (.tmp 93))⟩,
 ⟨some 95, none, .prim (.iadrs 6 (.tmp 94) (.const (.int .i64 0)))⟩,
 ⟨some 96, none, .prim (.load 6 true (.tmp 95))⟩,
 ⟨some 97, none, .prim (.mov (.tmp 1))⟩,
 ⟨some 98, none, .prim (.mov (.tmp 2))⟩,
 ⟨some 99, none, .call (.func 121) [(.tmp 96), (.tmp 97), (.tmp 98)]⟩,
 ⟨some 100, none, .call (.func 137) [(.tmp 92), (.tmp 99)]⟩,
 ⟨some 6, none, .prim (.mov (.tmp 100))⟩])
 (.ghost (.shut 6) .ret))
 (.seq (.ops [⟨some 102, none, .prim (.bin false .eql (.tmp 19) (.const (.int .i64 5)))⟩,
 ⟨some 101, none, .prim (.mov (.tmp 102))⟩])
 (.cond (.tmp 101)
 (.ops [⟨some 103, none, .prim (.fadr 5 (.tmp 3))⟩,
 ⟨some 104, none, .prim (.load 1 false (.tmp 103))⟩,
 ⟨some 105, none, .prim (.iadrs 6 (.tmp 104) (.const (.int .i64 0)))⟩,
 ⟨some 106, none, .prim (.load 6 true (.tmp 105))⟩,
 ⟨some 107, none, .prim (.mov (.tmp 1))⟩,
 ⟨some 108, none, .prim (.mov (.tmp 2))⟩,
 ⟨some 109, none, .call (.func 121) [(.tmp 106), (.tmp 107), (.tmp 108)]⟩,
 ⟨some 7, none, .prim (.mov (.tmp 109))⟩])
 (.ops [⟨some 20, none, .prim (.mov (.tmp 7))⟩,
 ⟨some 21, none, .prim (.mov (.tmp 2))⟩,
 ⟨some 22, none, .prim (.copy (.tmp 20) (.tmp 21))⟩])))))))))))))
 (.seq (.seq (.ghost (.shut 7) (.ops [⟨some 12, none, .prim (.mov (.const (.int .i64 0)))⟩]))
 (.block 7 (.loop [0, 2, 4, 5, 6, 8, 9, 10, 11, 13, 14, 15, 16, 17, 18, 19, 20, 21, 22, 23, 24, 25, 26, 27, 28, 29, 30, 31, 32, 33, 34, 35, 36, 37, 38, 39, 40, 41, 42, 43, 44, 45, 46, 47, 48, 49, 50, 51, 52, 53, 54, 55, 56, 57, 58, 59, 60, 61, 62, 63, 64, 65, 66, 67, 68, 69, 70, 71, 72, 73, 74, 75, 76, 77, 78, 79, 80, 81, 82, 83, 84, 85, 86, 87, 88, 89, 90, 91, 92, 93, 94, 95, 96, 97, 98, 99, 100, 101, 102, 103, 104, 105, 106, 107, 108, 109, 110, 111, 112, 113, 114, 115, 116, 117, 118, 119, 120, 121, 122, 123, 124, 125, 126, 127, 128, 129] (.seq (.seq (.ops [⟨some 110, none, .prim (.mov (.tmp 12))⟩,
 ⟨some 111, none, .prim (.mov (.tmp 1))⟩,
 ⟨some 112, none, .prim (.lens (.tmp 111))⟩,
 ⟨some 113, none, .prim (.bin false .leq (.tmp 110) (.tmp 112))⟩])
 (.cond (.tmp 113)
 .skip
 (.exit 7)))
 (.seq (.block 8 (.seq (.ops [⟨some 116, none, .prim (.mov (.tmp 7))⟩,
 ⟨some 117, none, .prim (.fadr 5 (.tmp 3))⟩,
 ⟨some 118, none, .prim (.load 1 false (.tmp 117))⟩,
 ⟨some 119, none, .prim (.iadrs 6 (.tmp 118) (.const (.int .i64 0)))⟩,
 ⟨some 120, none, .prim (.load 6 true (.tmp 119))⟩,
 ⟨some 121, none, .prim (.mov (.tmp 1))⟩,
 ⟨some 122, none, .prim (.mov (.tmp 7))⟩,
 ⟨some 123, none, .call (.func 121) [(.tmp 120), (.tmp 121), (.tmp 122)]⟩,
 ⟨some 124, none, .call (.func 137) [(.tmp 116), (.tmp 123)]⟩,
 ⟨some 13, none, .prim (.mov (.tmp 124))⟩])
 (.seq (.seq (.ops [⟨some 125, none, .prim (.mov (.tmp 13))⟩,
 ⟨some 126, none, .prim (.mov (.tmp 7))⟩,
 ⟨some 127, none, .call (.func 138) [(.tmp 125), (.tmp 126)]⟩])
 (.cond (.tmp 127)
 (.exit 7)
 .skip))
 (.ops [⟨some 128, none, .prim (.mov (.tmp 13))⟩,
 ⟨some 7, none, .prim (.mov (.tmp 128))⟩]))))
 (.ops [⟨some 114, none, .prim (.mov (.tmp 12))⟩,
 ⟨some 115, none, .prim (.bin false .add (.tmp 114) (.const (.int .i64 1)))⟩,
 ⟨some 12, none, .prim (.mov (.tmp 115))⟩]))))))
 (.seq (.ops [⟨some 129, none, .prim (.mov (.tmp 7))⟩,
 ⟨some 6, none, .prim (.mov (.tmp 129))⟩])
 (.ghost (.shut 6) .ret))))))
def o121 : List Tmp := []
def r121 : List RV := [.tmp 6]
theorem t121 : Text Try.prog 121 o121 c121 r121 130 := ⟨⟨Try.f121, _, by kernel_rfl, by kernel_rfl, rfl, by kernel_rfl, by kernel_rfl, rfl⟩, by kernel_rfl⟩
end Go.Proofs.Ytoadgajhkhejiaa
