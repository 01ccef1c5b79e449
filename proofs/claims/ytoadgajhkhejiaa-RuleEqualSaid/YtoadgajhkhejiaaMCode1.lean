/- What the functions do, over abstract values: printed by a program, checked by the kernel. No condition. -/
import Derived.Test.YtoadgajhkhejiaaProg
import Derived.Test.YtoadgajhkhejiaaAbStep
set_option linter.unusedSimpArgs false
set_option linter.unusedVariables false
namespace Go.Proofs.Ytoadgajhkhejiaa
open Go Go.Ab
set_option maxRecDepth 100000
def c2 : ACode :=
 (.ops [⟨some 0, none, .call (.func 1) []⟩])
def o2 : List Tmp := []
def r2 : List RV := []
theorem t2 : Text Try.prog 2 o2 c2 r2 1 := ⟨⟨Try.f2, _, by kernel_rfl, by kernel_rfl, rfl, by kernel_rfl, by kernel_rfl, rfl⟩, by kernel_rfl⟩
def c15 : ACode :=
 (.seq (.ops [⟨some 2, none, .prim (.boxr (.tmp 0))⟩,
 ⟨some 4, none, .prim (.mov (.const (.bool false)))⟩])
 (.seq (.seq (.ops [⟨some 8, none, .prim (.load 3 true (.tmp 2))⟩,
 ⟨some 9, none, .call (.func 16) [(.tmp 8)]⟩,
 ⟨some 10, none, .prim (.un .not (.tmp 9))⟩])
 (.cond (.tmp 10)
 (.seq (.ops [⟨some 4, none, .prim (.mov (.const (.bool false)))⟩])
 .ret)
 .skip))
 (.seq (.ops [⟨some 11, none, .prim (.mov (.tmp 1))⟩,
 ⟨some 12, none, .prim (.fadr 1 (.tmp 2))⟩,
 ⟨some 13, none, .prim (.load 1 false (.tmp 12))⟩,
 ⟨some 14, none, .call (.func 48) [(.tmp 11), (.tmp 13)]⟩,
 ⟨some 5, none, .prim (.mov (.tmp 14))⟩])
 (.seq (.seq (.ops [⟨some 15, none, .prim (.fadr 0 (.tmp 2))⟩,
 ⟨some 16, none, .prim (.load 1 false (.tmp 15))⟩])
 (.block 0 (.seq (.ops [⟨some 18, none, .prim (.bin false .eql (.tmp 16) (.const (.int .i64 1)))⟩,
 ⟨some 17, none, .prim (.mov (.tmp 18))⟩])
 (.cond (.tmp 17)
 (.seq (.ops [⟨some 19, none, .prim (.mov (.tmp 5))⟩,
 ⟨some 20, none, .prim (.fadr 2 (.tmp 2))⟩,
 ⟨some 21, none, .prim (.load 1 false (.tmp 20))⟩,
 ⟨some 22, none, .prim (.bin false .eql (.tmp 19) (.tmp 21))⟩,
 ⟨some 4, none, .prim (.mov (.tmp 22))⟩])
 .ret)
 (.seq (.ops [⟨some 24, none, .prim (.bin false .eql (.tmp 16) (.const (.int .i64 2)))⟩,
 ⟨some 23, none, .prim (.mov (.tmp 24))⟩])
 (.cond (.tmp 23)
 (.seq (.ops [⟨some 25, none, .prim (.mov (.tmp 5))⟩,
 ⟨some 26, none, .prim (.fadr 2 (.tmp 2))⟩,
 ⟨some 27, none, .prim (.load 1 false (.tmp 26))⟩,
 ⟨some 28, none, .prim (.bin false .neq (.tmp 25) (.tmp 27))⟩,
 ⟨some 4, none, .prim (.mov (.tmp 28))⟩])
 .ret)
 .skip))))))
 (.seq (.ops [⟨some 30, none, .prim (.load 3 true (.tmp 2))⟩,
 ⟨some 31, none, .call (.func 49) [(.tmp 30)]⟩,
 ⟨some 29, none, .prim (.mov (.tmp 31))⟩,
 ⟨some 32, none, .prim (.extr 0 (.tmp 29))⟩,
 ⟨some 33, none, .prim (.extr 1 (.tmp 29))⟩,
 ⟨some 6, none, .prim (.mov (.tmp 32))⟩,
 ⟨some 7, none, .prim (.mov (.tmp 33))⟩])
 (.seq (.draw [⟨⟨some 34, none, .prim (.mov (.tmp 7))⟩, [], false, 0, 0⟩,
 ⟨⟨some 35, none, .prim (.mov (.tmp 34))⟩, [0], false, 0, 0⟩,
 ⟨⟨some 36, (some (35, true)), .prim (.mov (.tmp 6))⟩, [0, 1], false, 0, 0⟩,
 ⟨⟨some 37, (some (35, true)), .prim (.mov (.tmp 5))⟩, [0, 1], false, 0, 0⟩,
 ⟨⟨some 38, (some (35, true)), .call (.func 50) [(.tmp 36), (.tmp 37)]⟩, [0, 1, 2, 3], true, 0, 0⟩,
 ⟨⟨some 39, (some (35, true)), .prim (.fadr 0 (.tmp 2))⟩, [0, 1], false, 0, 1⟩,
 ⟨⟨some 40, (some (35, true)), .prim (.load 1 false (.tmp 39))⟩, [0, 1, 5], false, 0, 1⟩,
 ⟨⟨some 41, (some (35, true)), .prim (.bin false .eql (.tmp 40) (.const (.int .i64 3)))⟩, [0, 1, 5, 6], false, 0, 1⟩,
 ⟨⟨some 42, (some (35, true)), .prim (.bin true .eql (.tmp 38) (.tmp 41))⟩, [0, 1, 2, 3, 4, 5, 6, 7], false, 1, 1⟩,
 ⟨⟨some 43, none, .prim (.pick (.tmp 35) (.tmp 42) (.const (.bool false)))⟩, [0, 1, 2, 3, 4, 5, 6, 7, 8], false, 1, 1⟩,
 ⟨⟨some 4, none, .prim (.mov (.tmp 43))⟩, [0, 1, 2, 3, 4, 5, 6, 7, 8, 9], false, 1, 1⟩])
 .ret))))))
def o15 : List Tmp := []
def r15 : List RV := [.tmp 4]
theorem t15 : Text Try.prog 15 o15 c15 r15 44 := ⟨⟨Try.f15, _, by kernel_rfl, by kernel_rfl, rfl, by kernel_rfl, by kernel_rfl, rfl⟩, by kernel_rfl⟩
def c16 : ACode :=
 (.seq (.ops [⟨some 1, none, .prim (.boxr (.tmp 0))⟩,
 ⟨some 2, none, .prim (.mov (.const (.bool false)))⟩])
 (.seq (.seq (.ops [⟨some 5, none, .prim (.fadr 1 (.tmp 1))⟩,
 ⟨some 6, none, .prim (.load 1 false (.tmp 5))⟩,
 ⟨some 7, none, .call (.func 51) [(.tmp 6)]⟩,
 ⟨some 8, none, .prim (.un .not (.tmp 7))⟩])
 (.cond (.tmp 8)
 (.seq (.ops [⟨some 2, none, .prim (.mov (.const (.bool false)))⟩])
 .ret)
 .skip))
 (.seq (.seq (.ops [⟨some 9, none, .prim (.load 3 true (.tmp 1))⟩,
 ⟨some 10, none, .call (.func 52) [(.tmp 9)]⟩])
 (.cond (.tmp 10)
 (.seq (.ops [⟨some 12, none, .prim (.fadr 2 (.tmp 1))⟩,
 ⟨some 13, none, .prim (.load 1 false (.tmp 12))⟩,
 ⟨some 14, none, .call (.func 53) [(.tmp 13)]⟩,
 ⟨some 11, none, .prim (.mov (.tmp 14))⟩,
 ⟨some 15, none, .prim (.extr 0 (.tmp 11))⟩,
 ⟨some 16, none, .prim (.extr 1 (.tmp 11))⟩,
 ⟨some 3, none, .fresh 6 3 (.tmp 15)⟩,
 ⟨some 4, none, .prim (.mov (.tmp 16))⟩])
 (.seq (.ops [⟨some 17, none, .prim (.mov (.tmp 4))⟩,
 ⟨some 2, none, .prim (.mov (.tmp 17))⟩])
 .ret))
 .skip))
 (.seq (.ops [⟨some 18, none, .prim (.fadr 0 (.tmp 1))⟩,
 ⟨some 19, none, .prim (.load 1 false (.tmp 18))⟩,
 ⟨some 20, none, .prim (.bin false .eql (.tmp 19) (.const (.int .i64 1)))⟩,
 ⟨some 21, none, .prim (.mov (.tmp 20))⟩,
 ⟨some 22, (some (21, false)), .prim (.fadr 0 (.tmp 1))⟩,
 ⟨some 23, (some (21, false)), .prim (.load 1 false (.tmp 22))⟩,
 ⟨some 24, (some (21, false)), .prim (.bin false .eql (.tmp 23) (.const (.int .i64 2)))⟩,
 ⟨some 25, none, .prim (.pick (.tmp 21) (.const (.bool true)) (.tmp 24))⟩,
 ⟨some 26, none, .prim (.mov (.tmp 25))⟩,
 ⟨some 27, (some (26, true)), .prim (.fadr 2 (.tmp 1))⟩,
 ⟨some 28, (some (26, true)), .prim (.load 1 false (.tmp 27))⟩,
 ⟨some 29, (some (26, true)), .prim (.lens (.tmp 28))⟩,
 ⟨some 30, (some (26, true)), .prim (.bin false .leq (.tmp 29) (.const (.int .i64 24)))⟩,
 ⟨some 31, none, .prim (.pick (.tmp 26) (.tmp 30) (.const (.bool false)))⟩,
 ⟨some 2, none, .prim (.mov (.tmp 31))⟩])
 .ret))))
def o16 : List Tmp := []
def r16 : List RV := [.tmp 2]
theorem t16 : Text Try.prog 16 o16 c16 r16 32 := ⟨⟨Try.f16, _, by kernel_rfl, by kernel_rfl, rfl, by kernel_rfl, by kernel_rfl, rfl⟩, by kernel_rfl⟩
def c18 : ACode :=
 (.seq (.ops [⟨some 1, none, .prim (.boxr (.tmp 0))⟩,
 ⟨some 2, none, .prim (.mov (.const (.bool false)))⟩])
 (.seq (.seq (.ops [⟨some 5, none, .prim (.load 3 true (.tmp 1))⟩,
 ⟨some 6, none, .call (.func 52) [(.tmp 5)]⟩,
 ⟨some 7, none, .prim (.un .not (.tmp 6))⟩,
 ⟨some 8, none, .prim (.mov (.tmp 7))⟩,
 ⟨some 9, (some (8, false)), .prim (.load 3 true (.tmp 1))⟩,
 ⟨some 10, (some (8, false)), .call (.func 16) [(.tmp 9)]⟩,
 ⟨some 11, (some (8, false)), .prim (.un .not (.tmp 10))⟩,
 ⟨some 12, none, .prim (.pick (.tmp 8) (.const (.bool true)) (.tmp 11))⟩])
 (.cond (.tmp 12)
 (.seq (.ops [⟨some 2, none, .prim (.mov (.const (.bool false)))⟩])
 .ret)
 .skip))
 (.seq (.ops [⟨some 14, none, .prim (.load 3 true (.tmp 1))⟩,
 ⟨some 15, none, .call (.func 49) [(.tmp 14)]⟩,
 ⟨some 13, none, .prim (.mov (.tmp 15))⟩,
 ⟨some 16, none, .prim (.extr 0 (.tmp 13))⟩,
 ⟨some 17, none, .prim (.extr 1 (.tmp 13))⟩,
 ⟨some 3, none, .prim (.mov (.tmp 16))⟩,
 ⟨some 4, none, .prim (.mov (.tmp 17))⟩])
 (.seq (.ops [⟨some 18, none, .prim (.mov (.tmp 4))⟩,
 ⟨some 19, none, .prim (.un .not (.tmp 18))⟩,
 ⟨some 2, none, .prim (.mov (.tmp 19))⟩])
 .ret))))
def o18 : List Tmp := []
def r18 : List RV := [.tmp 2]
theorem t18 : Text Try.prog 18 o18 c18 r18 20 := ⟨⟨Try.f18, _, by kernel_rfl, by kernel_rfl, rfl, by kernel_rfl, by kernel_rfl, rfl⟩, by kernel_rfl⟩
def c21 : ACode :=
 (.seq (.ops [⟨some 2, none, .prim (.mov (.const (.slice none 0 0)))⟩])
 (.seq (.after (.ops [⟨some 3, none, .prim (.mov (.const (.slice none 0 0)))⟩]) (.own 3 2))
 (.seq (.seq (.ops [⟨some 4, none, .prim (.mov (.const (.int .i64 0)))⟩])
 (.block 0 (.loop [1, 2, 5, 6, 7, 8, 9, 10, 11, 12, 13, 14, 15, 16, 17, 18, 19, 20, 21, 22, 23, 24, 25, 26, 27, 28, 29, 30, 31, 32, 33, 34, 35, 36, 37, 38, 39, 40, 41, 42, 43, 44, 45, 46, 47, 48, 49, 50, 51, 52, 53] (.seq (.seq (.ops [⟨some 8, none, .prim (.mov (.tmp 4))⟩,
 ⟨some 9, none, .prim (.mov (.tmp 0))⟩,
 ⟨some 10, none, .prim (.lenv (.tmp 9))⟩,
 ⟨some 11, none, .prim (.bin false .lss (.tmp 8) (.tmp 10))⟩,
 ⟨some 12, none, .prim (.mov (.tmp 11))⟩,
 ⟨some 13, (some (12, true)), .prim (.mov (.tmp 4))⟩,
 ⟨some 14, (some (12, true)), .prim (.bin false .lss (.tmp 13) (.const (.int .i64 5)))⟩,
 ⟨some 15, none, .prim (.pick (.tmp 12) (.tmp 14) (.const (.bool false)))⟩])
 (.cond (.tmp 15)
 .skip
 (.exit 0)))
 (.seq (.block 1 (.seq (.draw [⟨⟨some 18, none, .prim (.mov (.tmp 0))⟩, [], false, 0, 1⟩,
 ⟨⟨some 19, none, .prim (.mov (.tmp 4))⟩, [], false, 0, 1⟩,
 ⟨⟨some 20, none, .prim (.iadrs 1 (.tmp 18) (.tmp 19))⟩, [0, 1], false, 0, 1⟩,
 ⟨⟨some 21, none, .prim (.load 1 false (.tmp 20))⟩, [0, 1, 2], false, 0, 1⟩,
 ⟨⟨some 22, none, .call (.func 60) [(.tmp 21), (.const (.int .i64 0)), (.const (.int .i64 4))]⟩, [0, 1, 2, 3], false, 0, 1⟩,
 ⟨⟨some 23, none, .call (.func 59) [(.tmp 22)]⟩, [0, 1, 2, 3, 4], false, 0, 1⟩,
 ⟨⟨some 24, none, .prim (.mov (.tmp 0))⟩, [], false, 0, 1⟩,
 ⟨⟨some 25, none, .prim (.mov (.tmp 4))⟩, [], false, 0, 1⟩,
 ⟨⟨some 26, none, .prim (.iadrs 1 (.tmp 24) (.tmp 25))⟩, [6, 7], false, 0, 1⟩,
 ⟨⟨some 27, none, .prim (.load 1 false (.tmp 26))⟩, [6, 7, 8], false, 0, 1⟩,
 ⟨⟨some 28, none, .prim (.bin false .quo (.tmp 27) (.const (.int .i64 5)))⟩, [6, 7, 8, 9], false, 0, 1⟩,
 ⟨⟨some 29, none, .call (.func 60) [(.tmp 28), (.const (.int .i64 0)), (.const (.int .i64 6))]⟩, [0, 1, 2, 3, 4, 5, 6, 7, 8, 9, 10], false, 0, 1⟩,
 ⟨⟨some 30, none, .call (.func 61) [(.tmp 29)]⟩, [0, 1, 2, 3, 4, 5, 6, 7, 8, 9, 10, 11], false, 0, 1⟩,
 ⟨⟨some 31, none, .prim (.build [.pl (.string .empty), .pl (.string .empty)] [(0, 1, (.tmp 23)), (1, 1, (.tmp 30))])⟩, [0, 1, 2, 3, 4, 5, 6, 7, 8, 9, 10, 11, 12], false, 0, 1⟩,
 ⟨⟨some 5, none, .prim (.allocm [.pl (.string .empty), .pl (.string .empty)])⟩, [], true, 0, 0⟩,
 ⟨⟨none, none, .prim (.store 2 (.tmp 5) (.tmp 31))⟩, [0, 1, 2, 3, 4, 5, 6, 7, 8, 9, 10, 11, 12, 13, 14], true, 0, 0⟩])
 (.seq (.ops [⟨some 32, none, .prim (.mov (.tmp 3))⟩,
 ⟨some 33, none, .prim (.fadr 0 (.tmp 5))⟩,
 ⟨some 34, none, .prim (.load 1 false (.tmp 33))⟩,
 ⟨some 35, none, .call (.func 35) [(.tmp 32), (.tmp 34)]⟩,
 ⟨some 36, none, .prim (.bin false .eql (.tmp 35) (.const (.string (ByteArray.mk #[]))))⟩])
 (.cond (.tmp 36)
 (.ops [⟨some 37, none, .prim (.mov (.tmp 3))⟩,
 ⟨some 38, none, .prim (.load 2 true (.tmp 5))⟩,
 ⟨some 39, none, .prim (.bsl false 2 true 1 [.pl (.string .empty), .pl (.string .empty)] [(0, 2, (.tmp 38))])⟩,
 ⟨some 40, none, .prim (.app 2 (.tmp 37) (.tmp 39))⟩,
 ⟨some 3, none, .prim (.mov (.tmp 40))⟩])
 .skip))))
 (.after (.after (.ops [⟨some 16, none, .prim (.mov (.tmp 4))⟩,
 ⟨some 17, none, .prim (.bin false .add (.tmp 16) (.const (.int .i64 1)))⟩,
 ⟨some 4, none, .prim (.mov (.tmp 17))⟩]) (.clear [5, 33])) (.keep 1)))))))
 (.seq (.seq (.ops [⟨some 41, none, .prim (.mov (.tmp 3))⟩,
 ⟨some 42, none, .prim (.lenv (.tmp 41))⟩,
 ⟨some 43, none, .prim (.bin false .eql (.tmp 42) (.const (.int .i64 0)))⟩])
 (.cond (.tmp 43)
 (.ops [⟨some 44, none, .prim (.mov (.tmp 3))⟩,
 ⟨some 45, none, .prim (.build [.pl (.string .empty), .pl (.string .empty)] [(0, 1, (.const (.string (ByteArray.mk #[115, 101, 118])))), (1, 1, (.const (.string (ByteArray.mk #[97]))))])⟩,
 ⟨some 46, none, .prim (.bsl false 2 true 1 [.pl (.string .empty), .pl (.string .empty)] [(0, 2, (.tmp 45))])⟩,
 ⟨some 47, none, .prim (.app 2 (.tmp 44) (.tmp 46))⟩,
 ⟨some 3, none, .prim (.mov (.tmp 47))⟩])
 .skip))
 (.seq (.ghost (.shut 3) (.ops [⟨some 49, none, .prim (.mov (.tmp 3))⟩,
 ⟨some 50, none, .call (.func 62) [(.tmp 49)]⟩,
 ⟨some 48, none, .prim (.mov (.tmp 50))⟩,
 ⟨some 51, none, .prim (.extr 0 (.tmp 48))⟩,
 ⟨some 52, none, .prim (.extr 1 (.tmp 48))⟩,
 ⟨some 6, none, .prim (.mov (.tmp 51))⟩,
 ⟨some 7, none, .prim (.mov (.tmp 52))⟩]))
 (.seq (.ops [⟨some 53, none, .prim (.mov (.tmp 6))⟩,
 ⟨some 2, none, .prim (.mov (.tmp 53))⟩])
 (.ghost (.shut 2) .ret)))))))
def o21 : List Tmp := []
def r21 : List RV := [.tmp 2]
theorem t21 : Text Try.prog 21 o21 c21 r21 54 := ⟨⟨Try.f21, _, by kernel_rfl, by kernel_rfl, rfl, by kernel_rfl, by kernel_rfl, rfl⟩, by kernel_rfl⟩
def c22 : ACode :=
 (.seq (.ops [⟨some 1, none, .prim (.boxr (.tmp 0))⟩,
 ⟨some 2, none, .prim (.allocm [.pl (.int .i64 0), .pl (.string .empty), .pl (.string .empty)])⟩])
 (.seq (.draw [⟨⟨some 4, none, .prim (.fadr 0 (.tmp 1))⟩, [], false, 0, 1⟩,
 ⟨⟨some 5, none, .prim (.load 1 false (.tmp 4))⟩, [0], false, 0, 1⟩,
 ⟨⟨some 6, none, .call (.func 63) [(.tmp 5), (.const (.int .i64 1)), (.const (.int .i64 4))]⟩, [0, 1], false, 0, 1⟩,
 ⟨⟨some 7, none, .prim (.fadr 1 (.tmp 1))⟩, [], false, 0, 1⟩,
 ⟨⟨some 8, none, .prim (.load 1 false (.tmp 7))⟩, [3], false, 0, 1⟩,
 ⟨⟨some 9, none, .call (.func 59) [(.tmp 8)]⟩, [0, 1, 2, 3, 4], false, 0, 1⟩,
 ⟨⟨some 10, none, .prim (.fadr 2 (.tmp 1))⟩, [], false, 0, 1⟩,
 ⟨⟨some 11, none, .prim (.load 1 false (.tmp 10))⟩, [6], false, 0, 1⟩,
 ⟨⟨some 12, none, .call (.func 64) [(.tmp 11)]⟩, [0, 1, 2, 3, 4, 5, 6, 7], false, 0, 1⟩,
 ⟨⟨some 13, none, .prim (.build [.pl (.int .i64 0), .pl (.string .empty), .pl (.string .empty)] [(0, 1, (.tmp 6)), (1, 1, (.tmp 9)), (2, 1, (.tmp 12))])⟩, [0, 1, 2, 3, 4, 5, 6, 7, 8], false, 0, 1⟩,
 ⟨⟨some 3, none, .prim (.allocm [.pl (.int .i64 0), .pl (.string .empty), .pl (.string .empty)])⟩, [], true, 0, 0⟩,
 ⟨⟨none, none, .prim (.store 3 (.tmp 3) (.tmp 13))⟩, [0, 1, 2, 3, 4, 5, 6, 7, 8, 9, 10], true, 0, 0⟩])
 (.seq (.seq (.ops [⟨some 14, none, .prim (.fadr 0 (.tmp 3))⟩,
 ⟨some 15, none, .prim (.load 1 false (.tmp 14))⟩,
 ⟨some 16, none, .prim (.bin false .lss (.tmp 15) (.const (.int .i64 3)))⟩])
 (.cond (.tmp 16)
 (.seq (.ops [⟨some 17, none, .prim (.fadr 2 (.tmp 1))⟩,
 ⟨some 18, none, .prim (.load 1 false (.tmp 17))⟩,
 ⟨some 19, none, .call (.func 61) [(.tmp 18)]⟩,
 ⟨some 20, none, .prim (.fadr 2 (.tmp 3))⟩,
 ⟨none, none, .prim (.store 1 (.tmp 20) (.tmp 19))⟩])
 (.seq (.ops [⟨some 21, none, .prim (.fadr 2 (.tmp 1))⟩,
 ⟨some 22, none, .prim (.load 1 false (.tmp 21))⟩,
 ⟨some 23, none, .prim (.bin false .lss (.tmp 22) (.const (.int .i64 0)))⟩])
 (.cond (.tmp 23)
 (.ops [⟨some 24, none, .prim (.fadr 2 (.tmp 3))⟩,
 ⟨none, none, .prim (.store 1 (.tmp 24) (.const (.string (ByteArray.mk #[]))))⟩])
 .skip)))
 .skip))
 (.seq (.ops [⟨some 25, none, .prim (.load 3 true (.tmp 3))⟩,
 ⟨none, none, .prim (.store 3 (.tmp 2) (.tmp 25))⟩])
 .ret))))
def o22 : List Tmp := [2, 3]
def r22 : List RV := [.cell 2 3 true]
theorem t22 : Text Try.prog 22 o22 c22 r22 26 := ⟨⟨Try.f22, _, by kernel_rfl, by kernel_rfl, rfl, by kernel_rfl, by kernel_rfl, rfl⟩, by kernel_rfl⟩
def c23 : ACode :=
 (.seq (.ops [⟨some 4, none, .prim (.mov (.const (.slice none 0 0)))⟩])
 (.seq (.ops [⟨some 5, none, .prim (.mov (.const (.slice none 0 0)))⟩])
 (.seq (.seq (.ops [⟨some 6, none, .prim (.mov (.const (.int .i64 0)))⟩])
 (.block 0 (.loop [2, 3, 4, 7, 8, 9, 10, 11, 12, 13, 14, 15, 16, 17, 18, 19, 20, 21, 22, 23, 24, 25, 26, 27, 28, 29, 30, 31, 32, 33, 34, 35, 36, 37, 38, 39, 40, 41, 42, 43, 44, 45, 46, 47, 48, 49, 50, 51, 52, 53, 54, 55, 56, 57, 58, 59, 60, 61, 62, 63, 64, 65, 66, 67, 68, 69, 70, 71, 72] (.seq (.seq (.ops [⟨some 9, none, .prim (.mov (.tmp 6))⟩,
 ⟨some 10, none, .prim (.mov (.tmp 0))⟩,
 ⟨some 11, none, .prim (.lenv (.tmp 10))⟩,
 ⟨some 12, none, .prim (.bin false .lss (.tmp 9) (.tmp 11))⟩,
 ⟨some 13, none, .prim (.mov (.tmp 12))⟩,
 ⟨some 14, (some (13, true)), .prim (.mov (.tmp 5))⟩,
 ⟨some 15, (some (13, true)), .prim (.lenv (.tmp 14))⟩,
 ⟨some 16, (some (13, true)), .prim (.bin false .lss (.tmp 15) (.const (.int .i64 5)))⟩,
 ⟨some 17, none, .prim (.pick (.tmp 13) (.tmp 16) (.const (.bool false)))⟩])
 (.cond (.tmp 17)
 .skip
 (.exit 0)))
 (.seq (.block 1 (.seq (.ghost (.weak 5 3) (.ops [⟨some 20, none, .prim (.mov (.tmp 0))⟩,
 ⟨some 21, none, .prim (.mov (.tmp 6))⟩,
 ⟨some 22, none, .prim (.iadrs 3 (.tmp 20) (.tmp 21))⟩,
 ⟨some 23, none, .prim (.load 3 true (.tmp 22))⟩,
 ⟨some 24, none, .call (.func 22) [(.tmp 23)]⟩,
 ⟨some 7, none, .fresh 3 7 (.tmp 24)⟩]))
 (.seq (.ops [⟨some 25, none, .prim (.mov (.tmp 5))⟩,
 ⟨some 26, none, .prim (.lenv (.tmp 25))⟩,
 ⟨some 8, none, .prim (.mov (.tmp 26))⟩])
 (.seq (.block 2 (.loop [2, 3, 4, 9, 10, 11, 12, 13, 14, 15, 16, 17, 18, 19, 20, 21, 22, 23, 24, 25, 26, 27, 28, 29, 30, 31, 32, 33, 34, 35, 36, 37, 38, 39, 40, 41, 42, 43, 44, 45, 46, 47, 48, 49, 50, 51, 52, 53, 54, 55, 56, 57, 58, 59, 60, 61, 62, 63, 64, 65, 66, 67, 68, 69, 70, 71, 72] (.seq (.seq (.draw [⟨⟨some 27, none, .prim (.mov (.tmp 8))⟩, [], false, 0, 0⟩,
 ⟨⟨some 28, none, .prim (.bin false .gtr (.tmp 27) (.const (.int .i64 0)))⟩, [0], false, 0, 0⟩,
 ⟨⟨some 29, none, .prim (.mov (.tmp 28))⟩, [0, 1], false, 0, 0⟩,
 ⟨⟨some 30, (some (29, true)), .prim (.load 3 true (.tmp 7))⟩, [0, 1, 2], false, 0, 0⟩,
 ⟨⟨some 31, (some (29, true)), .prim (.mov (.tmp 5))⟩, [0, 1, 2], false, 0, 0⟩,
 ⟨⟨some 32, (some (29, true)), .prim (.mov (.tmp 8))⟩, [0, 1, 2], false, 0, 0⟩,
 ⟨⟨some 33, (some (29, true)), .prim (.bin false .sub (.tmp 32) (.const (.int .i64 1)))⟩, [0, 1, 2, 5], false, 0, 0⟩,
 ⟨⟨some 34, (some (29, true)), .prim (.iadrs 3 (.tmp 31) (.tmp 33))⟩, [0, 1, 2, 4, 5, 6], false, 0, 0⟩,
 ⟨⟨some 35, (some (29, true)), .prim (.load 3 true (.tmp 34))⟩, [0, 1, 2, 4, 5, 6, 7], false, 0, 0⟩,
 ⟨⟨some 36, (some (29, true)), .call (.func 65) [(.tmp 30), (.tmp 35)]⟩, [0, 1, 2, 3, 4, 5, 6, 7, 8], true, 0, 0⟩,
 ⟨⟨some 37, none, .prim (.pick (.tmp 29) (.tmp 36) (.const (.bool false)))⟩, [0, 1, 2, 3, 4, 5, 6, 7, 8, 9], false, 1, 1⟩])
 (.cond (.tmp 37)
 .skip
 (.exit 2)))
 (.block 3 (.ops [⟨some 38, none, .prim (.mov (.tmp 8))⟩,
 ⟨some 39, none, .prim (.bin false .sub (.tmp 38) (.const (.int .i64 1)))⟩,
 ⟨some 8, none, .prim (.mov (.tmp 39))⟩])))))
 (.seq (.seq (.draw [⟨⟨some 40, none, .prim (.mov (.tmp 8))⟩, [], false, 0, 0⟩,
 ⟨⟨some 41, none, .prim (.bin false .gtr (.tmp 40) (.const (.int .i64 0)))⟩, [0], false, 0, 0⟩,
 ⟨⟨some 42, none, .prim (.mov (.tmp 41))⟩, [0, 1], false, 0, 0⟩,
 ⟨⟨some 43, (some (42, true)), .prim (.mov (.tmp 5))⟩, [0, 1, 2], false, 0, 0⟩,
 ⟨⟨some 44, (some (42, true)), .prim (.mov (.tmp 8))⟩, [0, 1, 2], false, 0, 0⟩,
 ⟨⟨some 45, (some (42, true)), .prim (.bin false .sub (.tmp 44) (.const (.int .i64 1)))⟩, [0, 1, 2, 4], false, 0, 0⟩,
 ⟨⟨some 46, (some (42, true)), .prim (.iadrs 3 (.tmp 43) (.tmp 45))⟩, [0, 1, 2, 3, 4, 5], false, 0, 0⟩,
 ⟨⟨some 47, (some (42, true)), .prim (.load 3 true (.tmp 46))⟩, [0, 1, 2, 3, 4, 5, 6], false, 0, 0⟩,
 ⟨⟨some 48, (some (42, true)), .prim (.load 3 true (.tmp 7))⟩, [0, 1, 2], false, 0, 0⟩,
 ⟨⟨some 49, (some (42, true)), .prim (.eqa false [.int, .str, .str] (.tmp 47) (.tmp 48))⟩, [0, 1, 2, 3, 4, 5, 6, 7, 8], false, 0, 0⟩,
 ⟨⟨some 50, none, .prim (.pick (.tmp 42) (.tmp 49) (.const (.bool false)))⟩, [0, 1, 2, 3, 4, 5, 6, 7, 8, 9], false, 0, 0⟩])
 (.cond (.tmp 50)
 (.exit 1)
 .skip))
 (.after (.after (.after (.draw [⟨⟨some 51, none, .prim (.mov (.tmp 5))⟩, [], false, 0, 0⟩,
 ⟨⟨some 52, none, .prim (.mov (.tmp 8))⟩, [], false, 0, 0⟩,
 ⟨⟨some 53, none, .prim (.slcv 3 (.tmp 51) none (some (.tmp 52)))⟩, [0, 1], false, 0, 0⟩,
 ⟨⟨some 54, none, .prim (.app 3 (.const (.slice none 0 0)) (.tmp 53))⟩, [0, 1, 2], true, 0, 0⟩,
 ⟨⟨some 55, none, .prim (.load 3 true (.tmp 7))⟩, [], false, 0, 1⟩,
 ⟨⟨some 56, none, .prim (.bsl false 3 true 1 [.pl (.int .i64 0), .pl (.string .empty), .pl (.string .empty)] [(0, 3, (.tmp 55))])⟩, [4], false, 0, 1⟩,
 ⟨⟨some 57, none, .prim (.app 3 (.tmp 54) (.tmp 56))⟩, [0, 1, 2, 3, 4, 5], true, 0, 0⟩,
 ⟨⟨some 58, none, .prim (.mov (.tmp 5))⟩, [], false, 0, 2⟩,
 ⟨⟨some 59, none, .prim (.mov (.tmp 8))⟩, [], false, 0, 2⟩,
 ⟨⟨some 60, none, .prim (.slcv 3 (.tmp 58) (some (.tmp 59)) none)⟩, [7, 8], false, 0, 2⟩,
 ⟨⟨some 61, none, .prim (.app 3 (.tmp 57) (.tmp 60))⟩, [0, 1, 2, 3, 4, 5, 6, 7, 8, 9], true, 0, 0⟩,
 ⟨⟨some 5, none, .prim (.mov (.tmp 61))⟩, [0, 1, 2, 3, 4, 5, 6, 7, 8, 9, 10], false, 3, 3⟩]) (.shut 5)) (.clear [54, 57, 61])) (.keep 0)))))))
 (.ops [⟨some 18, none, .prim (.mov (.tmp 6))⟩,
 ⟨some 19, none, .prim (.bin false .add (.tmp 18) (.const (.int .i64 1)))⟩,
 ⟨some 6, none, .prim (.mov (.tmp 19))⟩]))))))
 (.seq (.seq (.ops [⟨some 62, none, .prim (.mov (.tmp 1))⟩,
 ⟨some 63, none, .prim (.mov (.tmp 62))⟩,
 ⟨some 64, (some (63, true)), .prim (.mov (.tmp 5))⟩,
 ⟨some 65, (some (63, true)), .prim (.lenv (.tmp 64))⟩,
 ⟨some 66, (some (63, true)), .prim (.bin false .eql (.tmp 65) (.const (.int .i64 0)))⟩,
 ⟨some 67, none, .prim (.pick (.tmp 63) (.tmp 66) (.const (.bool false)))⟩])
 (.cond (.tmp 67)
 (.ops [⟨some 68, none, .prim (.mov (.tmp 5))⟩,
 ⟨some 69, none, .prim (.build [.pl (.int .i64 0), .pl (.string .empty), .pl (.string .empty)] [(0, 1, (.const (.int .i64 1))), (1, 1, (.const (.string (ByteArray.mk #[115, 101, 118])))), (2, 1, (.const (.string (ByteArray.mk #[97]))))])⟩,
 ⟨some 70, none, .prim (.bsl false 3 true 1 [.pl (.int .i64 0), .pl (.string .empty), .pl (.string .empty)] [(0, 3, (.tmp 69))])⟩,
 ⟨some 71, none, .prim (.app 3 (.tmp 68) (.tmp 70))⟩,
 ⟨some 5, none, .prim (.mov (.tmp 71))⟩])
 .skip))
 (.seq (.ops [⟨some 72, none, .prim (.mov (.tmp 5))⟩,
 ⟨some 4, none, .prim (.mov (.tmp 72))⟩])
 (.ghost (.shut 4) .ret))))))
def o23 : List Tmp := []
def r23 : List RV := [.tmp 4]
theorem t23 : Text Try.prog 23 o23 c23 r23 73 := ⟨⟨Try.f23, _, by kernel_rfl, by kernel_rfl, rfl, by kernel_rfl, by kernel_rfl, rfl⟩, by kernel_rfl⟩
def c24 : ACode :=
 (.seq (.ops [⟨some 2, none, .prim (.mov (.const (.bool false)))⟩])
 (.seq (.seq (.ops [⟨some 5, none, .prim (.mov (.tmp 0))⟩,
 ⟨some 6, none, .prim (.lenv (.tmp 5))⟩,
 ⟨some 7, none, .prim (.bin false .gtr (.tmp 6) (.const (.int .i64 5)))⟩])
 (.cond (.tmp 7)
 (.seq (.ops [⟨some 2, none, .prim (.mov (.const (.bool false)))⟩])
 .ret)
 .skip))
 (.seq (.seq (.ops [⟨some 8, none, .prim (.mov (.tmp 0))⟩,
 ⟨some 9, none, .prim (.lenv (.tmp 8))⟩,
 ⟨some 10, none, .prim (.mov (.const (.int .i64 0)))⟩])
 (.block 0 (.loop [1, 2, 3, 4, 5, 6, 7, 11, 12, 13, 14, 15, 16, 17, 18, 19, 20, 21, 22, 23, 24, 25, 26, 27, 28, 29, 30, 31, 32] (.seq (.ops [⟨some 11, none, .prim (.bin false .lss (.tmp 10) (.tmp 9))⟩])
 (.seq (.cond (.tmp 11)
 .skip
 (.exit 0))
 (.seq (.block 1 (.seq (.ops [⟨some 12, none, .prim (.mov (.tmp 10))⟩,
 ⟨some 13, none, .prim (.iadrs 3 (.tmp 8) (.tmp 10))⟩,
 ⟨some 14, none, .prim (.load 3 true (.tmp 13))⟩,
 ⟨some 4, none, .prim (.allocm [.pl (.int .i64 0), .pl (.string .empty), .pl (.string .empty)])⟩,
 ⟨some 3, none, .prim (.mov (.tmp 12))⟩,
 ⟨none, none, .prim (.store 3 (.tmp 4) (.tmp 14))⟩])
 (.seq (.draw [⟨⟨some 15, none, .prim (.load 3 true (.tmp 4))⟩, [], false, 0, 0⟩,
 ⟨⟨some 16, none, .call (.func 16) [(.tmp 15)]⟩, [0], true, 0, 0⟩,
 ⟨⟨some 17, none, .prim (.un .not (.tmp 16))⟩, [0, 1], false, 1, 1⟩,
 ⟨⟨some 18, none, .prim (.mov (.tmp 17))⟩, [0, 1, 2], false, 1, 1⟩,
 ⟨⟨some 19, (some (18, false)), .prim (.mov (.tmp 3))⟩, [0, 1, 2, 3], false, 1, 1⟩,
 ⟨⟨some 20, (some (18, false)), .prim (.bin false .gtr (.tmp 19) (.const (.int .i64 0)))⟩, [0, 1, 2, 3, 4], false, 1, 1⟩,
 ⟨⟨some 21, (some (18, false)), .prim (.mov (.tmp 20))⟩, [0, 1, 2, 3, 4, 5], false, 1, 1⟩,
 ⟨⟨some 22, (some (21, true)), .prim (.mov (.tmp 0))⟩, [0, 1, 2, 3, 4, 5, 6], false, 1, 1⟩,
 ⟨⟨some 23, (some (21, true)), .prim (.mov (.tmp 3))⟩, [0, 1, 2, 3, 4, 5, 6], false, 1, 1⟩,
 ⟨⟨some 24, (some (21, true)), .prim (.bin false .sub (.tmp 23) (.const (.int .i64 1)))⟩, [0, 1, 2, 3, 4, 5, 6, 8], false, 1, 1⟩,
 ⟨⟨some 25, (some (21, true)), .prim (.iadrs 3 (.tmp 22) (.tmp 24))⟩, [0, 1, 2, 3, 4, 5, 6, 7, 8, 9], false, 1, 1⟩,
 ⟨⟨some 26, (some (21, true)), .prim (.load 3 true (.tmp 25))⟩, [0, 1, 2, 3, 4, 5, 6, 7, 8, 9, 10], false, 1, 1⟩,
 ⟨⟨some 27, (some (21, true)), .prim (.load 3 true (.tmp 4))⟩, [0, 1, 2, 3, 4, 5, 6], false, 1, 1⟩,
 ⟨⟨some 28, (some (21, true)), .call (.func 66) [(.tmp 26), (.tmp 27)]⟩, [0, 1, 2, 3, 4, 5, 6, 7, 8, 9, 10, 11, 12], true, 0, 0⟩,
 ⟨⟨some 29, (some (21, true)), .prim (.bin false .geq (.tmp 28) (.const (.int .i64 0)))⟩, [0, 1, 2, 3, 4, 5, 6, 7, 8, 9, 10, 11, 12, 13], false, 2, 2⟩,
 ⟨⟨some 30, (some (18, false)), .prim (.pick (.tmp 21) (.tmp 29) (.const (.bool false)))⟩, [0, 1, 2, 3, 4, 5, 6, 7, 8, 9, 10, 11, 12, 13, 14], false, 2, 2⟩,
 ⟨⟨some 31, none, .prim (.pick (.tmp 18) (.const (.bool true)) (.tmp 30))⟩, [0, 1, 2, 3, 4, 5, 6, 7, 8, 9, 10, 11, 12, 13, 14, 15], false, 2, 2⟩])
 (.cond (.tmp 31)
 (.seq (.ops [⟨some 2, none, .prim (.mov (.const (.bool false)))⟩])
 .ret)
 .skip))))
 (.after (.after (.ops [⟨some 32, none, .prim (.bin false .add (.tmp 10) (.const (.int .i64 1)))⟩,
 ⟨some 10, none, .prim (.mov (.tmp 32))⟩]) (.clear [4])) (.keep 0))))))))
 (.seq (.ops [⟨some 2, none, .prim (.mov (.const (.bool true)))⟩])
 .ret))))
def o24 : List Tmp := [4]
def r24 : List RV := [.tmp 2]
theorem t24 : Text Try.prog 24 o24 c24 r24 33 := ⟨⟨Try.f24, _, by kernel_rfl, by kernel_rfl, rfl, by kernel_rfl, by kernel_rfl, rfl⟩, by kernel_rfl⟩
def c25 : ACode :=
 (.seq (.ops [⟨some 3, none, .prim (.boxr (.tmp 1))⟩,
 ⟨some 4, none, .prim (.mov (.const (.bool false)))⟩])
 (.seq (.ops [⟨some 5, none, .prim (.mov (.tmp 0))⟩,
 ⟨some 6, none, .prim (.mkfn 68 [] [(.tmp 3)])⟩,
 ⟨some 7, none, .call (.func 67) [(.tmp 5), (.tmp 6)]⟩,
 ⟨some 8, none, .prim (.un .not (.tmp 7))⟩,
 ⟨some 4, none, .prim (.mov (.tmp 8))⟩])
 .ret))
def o25 : List Tmp := []
def r25 : List RV := [.tmp 4]
theorem t25 : Text Try.prog 25 o25 c25 r25 9 := ⟨⟨Try.f25, _, by kernel_rfl, by kernel_rfl, rfl, by kernel_rfl, by kernel_rfl, rfl⟩, by kernel_rfl⟩
def c27 : ACode :=
 (.seq (.ops [⟨some 2, none, .prim (.mov (.const (.bool false)))⟩])
 (.seq (.ops [⟨some 3, none, .prim (.mov (.tmp 0))⟩,
 ⟨some 4, none, .call (.func 67) [(.tmp 3), (.func 18)]⟩,
 ⟨some 2, none, .prim (.mov (.tmp 4))⟩])
 .ret))
def o27 : List Tmp := []
def r27 : List RV := [.tmp 2]
theorem t27 : Text Try.prog 27 o27 c27 r27 5 := ⟨⟨Try.f27, _, by kernel_rfl, by kernel_rfl, rfl, by kernel_rfl, by kernel_rfl, rfl⟩, by kernel_rfl⟩
def c31 : ACode :=
 (.seq (.ops [⟨some 0, none, .prim (.mov (.const (.bool false)))⟩])
 (.seq (.ops [⟨some 2, none, .call (.func 37) []⟩,
 ⟨some 1, none, .fresh 6 1 (.tmp 2)⟩])
 (.seq (.draw [⟨⟨some 3, none, .prim (.load 6 true (.tmp 1))⟩, [], false, 0, 0⟩,
 ⟨⟨some 4, none, .call (.func 39) [(.tmp 3)]⟩, [0], true, 0, 0⟩,
 ⟨⟨some 5, none, .prim (.mov (.tmp 4))⟩, [0, 1], false, 1, 1⟩,
 ⟨⟨some 6, (some (5, true)), .prim (.load 6 true (.tmp 1))⟩, [0, 1, 2], false, 1, 3⟩,
 ⟨⟨some 7, (some (5, true)), .call (.func 38) [(.const (.string (ByteArray.mk #[99, 114, 105, 116]))), (.const (.string (ByteArray.mk #[120])))]⟩, [0, 1, 2], true, 0, 0⟩,
 ⟨⟨some 8, (some (5, true)), .call (.func 38) [(.const (.string (ByteArray.mk #[119, 97, 114, 110]))), (.const (.string (ByteArray.mk #[120])))]⟩, [0, 1, 2, 4], true, 0, 0⟩,
 ⟨⟨some 9, (some (5, true)), .call (.func 34) [(.tmp 6), (.tmp 7), (.tmp 8)]⟩, [0, 1, 2, 3, 4, 5], true, 0, 0⟩,
 ⟨⟨some 10, none, .prim (.pick (.tmp 5) (.tmp 9) (.const (.bool false)))⟩, [0, 1, 2, 3, 4, 5, 6], false, 4, 4⟩,
 ⟨⟨some 11, none, .prim (.mov (.tmp 10))⟩, [0, 1, 2, 3, 4, 5, 6, 7], false, 4, 4⟩,
 ⟨⟨some 12, (some (11, true)), .prim (.load 6 true (.tmp 1))⟩, [0, 1, 2, 3, 4, 5, 6, 7, 8], false, 4, 6⟩,
 ⟨⟨some 13, (some (11, true)), .call (.func 38) [(.const (.string (ByteArray.mk #[99, 114, 105, 116]))), (.const (.string (ByteArray.mk #[120])))]⟩, [0, 1, 2, 3, 4, 5, 6, 7, 8], true, 0, 0⟩,
 ⟨⟨some 14, (some (11, true)), .call (.func 38) [(.const (.string (ByteArray.mk #[119, 97, 114, 110]))), (.const (.string (ByteArray.mk #[121])))]⟩, [0, 1, 2, 3, 4, 5, 6, 7, 8, 10], true, 0, 0⟩,
 ⟨⟨some 15, (some (11, true)), .call (.func 34) [(.tmp 12), (.tmp 13), (.tmp 14)]⟩, [0, 1, 2, 3, 4, 5, 6, 7, 8, 9, 10, 11], true, 0, 0⟩,
 ⟨⟨some 16, (some (11, true)), .prim (.un .not (.tmp 15))⟩, [0, 1, 2, 3, 4, 5, 6, 7, 8, 9, 10, 11, 12], false, 7, 7⟩,
 ⟨⟨some 17, none, .prim (.pick (.tmp 11) (.tmp 16) (.const (.bool false)))⟩, [0, 1, 2, 3, 4, 5, 6, 7, 8, 9, 10, 11, 12, 13], false, 7, 7⟩,
 ⟨⟨some 18, none, .prim (.mov (.tmp 17))⟩, [0, 1, 2, 3, 4, 5, 6, 7, 8, 9, 10, 11, 12, 13, 14], false, 7, 7⟩,
 ⟨⟨some 19, (some (18, true)), .prim (.load 6 true (.tmp 1))⟩, [0, 1, 2, 3, 4, 5, 6, 7, 8, 9, 10, 11, 12, 13, 14, 15], false, 7, 9⟩,
 ⟨⟨some 20, (some (18, true)), .call (.func 38) [(.const (.string (ByteArray.mk #[99, 114, 105, 116]))), (.const (.string (ByteArray.mk #[120])))]⟩, [0, 1, 2, 3, 4, 5, 6, 7, 8, 9, 10, 11, 12, 13, 14, 15], true, 0, 0⟩,
 ⟨⟨some 21, (some (18, true)), .call (.func 38) [(.const (.string (ByteArray.mk #[99, 114, 105, 116]))), (.const (.string (ByteArray.mk #[120])))]⟩, [0, 1, 2, 3, 4, 5, 6, 7, 8, 9, 10, 11, 12, 13, 14, 15, 17], true, 0, 0⟩,
 ⟨⟨some 22, (some (18, true)), .call (.func 34) [(.tmp 19), (.tmp 20), (.tmp 21)]⟩, [0, 1, 2, 3, 4, 5, 6, 7, 8, 9, 10, 11, 12, 13, 14, 15, 16, 17, 18], true, 0, 0⟩,
 ⟨⟨some 23, (some (18, true)), .prim (.un .not (.tmp 22))⟩, [0, 1, 2, 3, 4, 5, 6, 7, 8, 9, 10, 11, 12, 13, 14, 15, 16, 17, 18, 19], false, 10, 10⟩,
 ⟨⟨some 24, none, .prim (.pick (.tmp 18) (.tmp 23) (.const (.bool false)))⟩, [0, 1, 2, 3, 4, 5, 6, 7, 8, 9, 10, 11, 12, 13, 14, 15, 16, 17, 18, 19, 20], false, 10, 10⟩,
 ⟨⟨some 25, none, .prim (.mov (.tmp 24))⟩, [0, 1, 2, 3, 4, 5, 6, 7, 8, 9, 10, 11, 12, 13, 14, 15, 16, 17, 18, 19, 20, 21], false, 10, 10⟩,
 ⟨⟨some 26, (some (25, true)), .prim (.load 6 true (.tmp 1))⟩, [0, 1, 2, 3, 4, 5, 6, 7, 8, 9, 10, 11, 12, 13, 14, 15, 16, 17, 18, 19, 20, 21, 22], false, 10, 12⟩,
 ⟨⟨some 27, (some (25, true)), .call (.func 38) [(.const (.string (ByteArray.mk #[119, 97, 114, 110]))), (.const (.string (ByteArray.mk #[120])))]⟩, [0, 1, 2, 3, 4, 5, 6, 7, 8, 9, 10, 11, 12, 13, 14, 15, 16, 17, 18, 19, 20, 21, 22], true, 0, 0⟩,
 ⟨⟨some 28, (some (25, true)), .call (.func 38) [(.const (.string (ByteArray.mk #[99, 114, 105, 116]))), (.const (.string (ByteArray.mk #[120])))]⟩, [0, 1, 2, 3, 4, 5, 6, 7, 8, 9, 10, 11, 12, 13, 14, 15, 16, 17, 18, 19, 20, 21, 22, 24], true, 0, 0⟩,
 ⟨⟨some 29, (some (25, true)), .call (.func 34) [(.tmp 26), (.tmp 27), (.tmp 28)]⟩, [0, 1, 2, 3, 4, 5, 6, 7, 8, 9, 10, 11, 12, 13, 14, 15, 16, 17, 18, 19, 20, 21, 22, 23, 24, 25], true, 0, 0⟩,
 ⟨⟨some 30, (some (25, true)), .prim (.un .not (.tmp 29))⟩, [0, 1, 2, 3, 4, 5, 6, 7, 8, 9, 10, 11, 12, 13, 14, 15, 16, 17, 18, 19, 20, 21, 22, 23, 24, 25, 26], false, 13, 13⟩,
 ⟨⟨some 31, none, .prim (.pick (.tmp 25) (.tmp 30) (.const (.bool false)))⟩, [0, 1, 2, 3, 4, 5, 6, 7, 8, 9, 10, 11, 12, 13, 14, 15, 16, 17, 18, 19, 20, 21, 22, 23, 24, 25, 26, 27], false, 13, 13⟩,
 ⟨⟨some 0, none, .prim (.mov (.tmp 31))⟩, [0, 1, 2, 3, 4, 5, 6, 7, 8, 9, 10, 11, 12, 13, 14, 15, 16, 17, 18, 19, 20, 21, 22, 23, 24, 25, 26, 27, 28], false, 13, 13⟩])
 .ret)))
def o31 : List Tmp := []
def r31 : List RV := [.tmp 0]
theorem t31 : Text Try.prog 31 o31 c31 r31 32 := ⟨⟨Try.f31, _, by kernel_rfl, by kernel_rfl, rfl, by kernel_rfl, by kernel_rfl, rfl⟩, by kernel_rfl⟩
def c35 : ACode :=
 (.seq (.ops [⟨some 4, none, .prim (.mov (.const (.string (ByteArray.mk #[]))))⟩])
 (.seq (.seq (.ops [⟨some 5, none, .prim (.mov (.const (.int .i64 0)))⟩])
 (.block 0 (.loop [2, 3, 4, 6, 7, 8, 9, 10, 11, 12, 13, 14, 15, 16, 17, 18, 19, 20, 21, 22, 23] (.seq (.seq (.ops [⟨some 6, none, .prim (.mov (.tmp 5))⟩,
 ⟨some 7, none, .prim (.mov (.tmp 0))⟩,
 ⟨some 8, none, .prim (.lenv (.tmp 7))⟩,
 ⟨some 9, none, .prim (.bin false .lss (.tmp 6) (.tmp 8))⟩])
 (.cond (.tmp 9)
 .skip
 (.exit 0)))
 (.seq (.block 1 (.seq (.ops [⟨some 12, none, .prim (.mov (.tmp 0))⟩,
 ⟨some 13, none, .prim (.mov (.tmp 5))⟩,
 ⟨some 14, none, .prim (.iadrs 2 (.tmp 12) (.tmp 13))⟩,
 ⟨some 15, none, .prim (.fadr 0 (.tmp 14))⟩,
 ⟨some 16, none, .prim (.load 1 false (.tmp 15))⟩,
 ⟨some 17, none, .prim (.mov (.tmp 1))⟩,
 ⟨some 18, none, .prim (.bin false .eql (.tmp 16) (.tmp 17))⟩])
 (.cond (.tmp 18)
 (.seq (.ops [⟨some 19, none, .prim (.mov (.tmp 0))⟩,
 ⟨some 20, none, .prim (.mov (.tmp 5))⟩,
 ⟨some 21, none, .prim (.iadrs 2 (.tmp 19) (.tmp 20))⟩,
 ⟨some 22, none, .prim (.fadr 1 (.tmp 21))⟩,
 ⟨some 23, none, .prim (.load 1 false (.tmp 22))⟩,
 ⟨some 4, none, .prim (.mov (.tmp 23))⟩])
 .ret)
 .skip)))
 (.ops [⟨some 10, none, .prim (.mov (.tmp 5))⟩,
 ⟨some 11, none, .prim (.bin false .add (.tmp 10) (.const (.int .i64 1)))⟩,
 ⟨some 5, none, .prim (.mov (.tmp 11))⟩]))))))
 (.seq (.ops [⟨some 4, none, .prim (.mov (.const (.string (ByteArray.mk #[]))))⟩])
 .ret)))
def o35 : List Tmp := []
def r35 : List RV := [.tmp 4]
theorem t35 : Text Try.prog 35 o35 c35 r35 24 := ⟨⟨Try.f35, _, by kernel_rfl, by kernel_rfl, rfl, by kernel_rfl, by kernel_rfl, rfl⟩, by kernel_rfl⟩
def c37 : ACode :=
 (.seq (.ops [⟨some 0, none, .prim (.allocm [.nils, .nils, .pl (.bool false), .pl (.float .f64 0), .pl (.float .f64 0), .nils])⟩])
 (.seq (.ops [⟨some 1, none, .prim (.build [.pl (.int .i64 0), .pl (.string .empty), .pl (.string .empty)] [(0, 1, (.const (.int .i64 1))), (1, 1, (.const (.string (ByteArray.mk #[115, 101, 118])))), (2, 1, (.const (.string (ByteArray.mk #[99, 114, 105, 116]))))])⟩,
 ⟨some 2, none, .prim (.bsl false 3 true 1 [.pl (.int .i64 0), .pl (.string .empty), .pl (.string .empty)] [(0, 3, (.tmp 1))])⟩,
 ⟨some 3, none, .prim (.build [.pl (.int .i64 0), .pl (.string .empty), .pl (.string .empty)] [(0, 1, (.const (.int .i64 3))), (1, 1, (.const (.string (ByteArray.mk #[115, 101, 118])))), (2, 1, (.const (.string (ByteArray.mk #[99, 114, 105, 116, 124, 119, 97, 114, 110]))))])⟩,
 ⟨some 4, none, .prim (.bsl false 3 true 1 [.pl (.int .i64 0), .pl (.string .empty), .pl (.string .empty)] [(0, 3, (.tmp 3))])⟩,
 ⟨some 5, none, .prim (.build [.pl (.bool false), .pl (.float .f64 0), .pl (.float .f64 0)] [(0, 1, (.const (.bool true)))])⟩,
 ⟨some 6, none, .prim (.bsl false 1 false 1 [.pl (.string .empty)] [(0, 1, (.const (.string (ByteArray.mk #[99]))))])⟩,
 ⟨some 7, none, .prim (.build [.nils, .nils, .pl (.bool false), .pl (.float .f64 0), .pl (.float .f64 0), .nils] [(0, 1, (.tmp 2)), (1, 1, (.tmp 4)), (2, 3, (.tmp 5)), (5, 1, (.tmp 6))])⟩,
 ⟨none, none, .prim (.store 6 (.tmp 0) (.tmp 7))⟩])
 .ret))
def o37 : List Tmp := [0]
def r37 : List RV := [.cell 0 6 true]
theorem t37 : Text Try.prog 37 o37 c37 r37 8 := ⟨⟨Try.f37, _, by kernel_rfl, by kernel_rfl, rfl, by kernel_rfl, by kernel_rfl, rfl⟩, by kernel_rfl⟩
def c38 : ACode :=
 (.seq (.ops [⟨some 4, none, .prim (.allocm [.pl (.int .i64 0), .nils, .pl (.float .f64 0)])⟩])
 (.seq (.ops [⟨some 5, none, .prim (.mov (.tmp 1))⟩,
 ⟨some 6, none, .prim (.build [.pl (.string .empty), .pl (.string .empty)] [(0, 1, (.const (.string (ByteArray.mk #[99])))), (1, 1, (.tmp 5))])⟩,
 ⟨some 7, none, .prim (.mov (.tmp 0))⟩,
 ⟨some 8, none, .prim (.build [.pl (.string .empty), .pl (.string .empty)] [(0, 1, (.const (.string (ByteArray.mk #[115, 101, 118])))), (1, 1, (.tmp 7))])⟩,
 ⟨some 9, none, .prim (.bsl false 2 true 2 [.pl (.string .empty), .pl (.string .empty)] [(0, 2, (.tmp 6)), (2, 2, (.tmp 8))])⟩,
 ⟨some 10, none, .prim (.build [.pl (.int .i64 0), .nils, .pl (.float .f64 0)] [(0, 1, (.const (.int .i64 1))), (1, 1, (.tmp 9))])⟩,
 ⟨none, none, .prim (.store 3 (.tmp 4) (.tmp 10))⟩])
 .ret))
def o38 : List Tmp := [4]
def r38 : List RV := [.cell 4 3 true]
theorem t38 : Text Try.prog 38 o38 c38 r38 11 := ⟨⟨Try.f38, _, by kernel_rfl, by kernel_rfl, rfl, by kernel_rfl, by kernel_rfl, rfl⟩, by kernel_rfl⟩
def c48 : ACode :=
 (.seq (.ops [⟨some 3, none, .prim (.boxr (.tmp 1))⟩,
 ⟨some 4, none, .prim (.mov (.const (.string (ByteArray.mk #[]))))⟩])
 (.seq (.ops [⟨some 6, none, .prim (.mov (.tmp 0))⟩,
 ⟨some 7, none, .prim (.mkfn 89 [] [(.tmp 3)])⟩,
 ⟨some 8, none, .call (.func 88) [(.tmp 6), (.tmp 7)]⟩,
 ⟨some 5, none, .prim (.mov (.tmp 8))⟩])
 (.seq (.seq (.ops [⟨some 9, none, .prim (.mov (.tmp 5))⟩,
 ⟨some 10, none, .prim (.bin false .lss (.tmp 9) (.const (.int .i64 0)))⟩])
 (.cond (.tmp 10)
 (.seq (.ops [⟨some 4, none, .prim (.mov (.const (.string (ByteArray.mk #[]))))⟩])
 .ret)
 .skip))
 (.seq (.ops [⟨some 11, none, .prim (.mov (.tmp 0))⟩,
 ⟨some 12, none, .prim (.mov (.tmp 5))⟩,
 ⟨some 13, none, .prim (.iadrs 2 (.tmp 11) (.tmp 12))⟩,
 ⟨some 14, none, .prim (.fadr 1 (.tmp 13))⟩,
 ⟨some 15, none, .prim (.load 1 false (.tmp 14))⟩,
 ⟨some 4, none, .prim (.mov (.tmp 15))⟩])
 .ret))))
def o48 : List Tmp := []
def r48 : List RV := [.tmp 4]
theorem t48 : Text Try.prog 48 o48 c48 r48 16 := ⟨⟨Try.f48, _, by kernel_rfl, by kernel_rfl, rfl, by kernel_rfl, by kernel_rfl, rfl⟩, by kernel_rfl⟩
def c49 : ACode :=
 (.seq (.ops [⟨some 1, none, .prim (.boxr (.tmp 0))⟩,
 ⟨some 2, none, .prim (.mov (.const (.slice none 0 0)))⟩,
 ⟨some 3, none, .prim (.mov (.const (.bool false)))⟩])
 (.seq (.ops [⟨some 7, none, .prim (.fadr 2 (.tmp 1))⟩,
 ⟨some 8, none, .prim (.load 1 false (.tmp 7))⟩,
 ⟨some 9, none, .call (.func 53) [(.tmp 8)]⟩,
 ⟨some 6, none, .prim (.mov (.tmp 9))⟩,
 ⟨some 10, none, .prim (.extr 0 (.tmp 6))⟩,
 ⟨some 11, none, .prim (.extr 1 (.tmp 6))⟩,
 ⟨some 4, none, .fresh 6 4 (.tmp 10)⟩,
 ⟨some 5, none, .prim (.mov (.tmp 11))⟩])
 (.seq (.seq (.ops [⟨some 12, none, .prim (.mov (.tmp 5))⟩,
 ⟨some 13, none, .prim (.un .not (.tmp 12))⟩])
 (.cond (.tmp 13)
 (.seq (.ops [⟨some 2, none, .prim (.mov (.const (.slice none 0 0)))⟩,
 ⟨some 3, none, .prim (.mov (.const (.bool false)))⟩])
 (.ghost (.shut 2) .ret))
 .skip))
 (.seq (.ops [⟨some 14, none, .prim (.load 6 true (.tmp 4))⟩,
 ⟨some 15, none, .call (.func 90) [(.tmp 14)]⟩,
 ⟨some 16, none, .prim (.extr 0 (.tmp 15))⟩,
 ⟨some 17, none, .prim (.extr 1 (.tmp 15))⟩,
 ⟨some 2, none, .prim (.mov (.tmp 16))⟩,
 ⟨some 3, none, .prim (.mov (.tmp 17))⟩])
 (.ghost (.shut 2) .ret)))))
def o49 : List Tmp := []
def r49 : List RV := [.tmp 2, .tmp 3]
theorem t49 : Text Try.prog 49 o49 c49 r49 18 := ⟨⟨Try.f49, _, by kernel_rfl, by kernel_rfl, rfl, by kernel_rfl, by kernel_rfl, rfl⟩, by kernel_rfl⟩
def c50 : ACode :=
 (.seq (.ops [⟨some 4, none, .prim (.mov (.const (.bool false)))⟩])
 (.seq (.seq (.ops [⟨some 9, none, .prim (.mov (.tmp 0))⟩,
 ⟨some 10, none, .call (.func 91) [(.tmp 9)]⟩,
 ⟨some 11, none, .prim (.un .not (.tmp 10))⟩])
 (.cond (.tmp 11)
 (.seq (.ops [⟨some 4, none, .prim (.mov (.const (.bool false)))⟩])
 .ret)
 .skip))
 (.seq (.ops [⟨some 12, none, .prim (.mov (.tmp 0))⟩,
 ⟨some 13, none, .call (.func 92) [(.tmp 12)]⟩,
 ⟨some 5, none, .prim (.mov (.tmp 13))⟩])
 (.seq (.seq (.ops [⟨some 14, none, .prim (.mov (.tmp 1))⟩,
 ⟨some 15, none, .prim (.lens (.tmp 14))⟩,
 ⟨some 16, none, .prim (.mov (.const (.int .i64 0)))⟩])
 (.block 0 (.loop [2, 3, 4, 6, 7, 8, 9, 10, 11, 12, 13, 14, 17, 18, 19, 20, 21, 22, 23, 24, 25, 26, 27, 28, 29, 30, 31, 32, 33, 34, 35, 36, 37, 38, 39, 40, 41, 42, 43] (.seq (.ops [⟨some 17, none, .prim (.bin false .lss (.tmp 16) (.tmp 15))⟩])
 (.seq (.cond (.tmp 17)
 .skip
 (.exit 0))
 (.seq (.block 1 (.seq (.ops [⟨some 18, none, .prim (.mov (.tmp 16))⟩,
 ⟨some 6, none, .prim (.mov (.tmp 18))⟩])
 (.ops [⟨some 19, none, .prim (.mov (.tmp 0))⟩,
 ⟨some 20, none, .prim (.mov (.tmp 5))⟩,
 ⟨some 21, none, .prim (.mov (.tmp 1))⟩,
 ⟨some 22, none, .prim (.mov (.tmp 6))⟩,
 ⟨some 23, none, .prim (.idxs (.tmp 21) (.tmp 22))⟩,
 ⟨some 24, none, .call (.func 93) [(.tmp 19), (.tmp 20), (.tmp 23)]⟩,
 ⟨some 5, none, .prim (.mov (.tmp 24))⟩])))
 (.ops [⟨some 25, none, .prim (.bin false .add (.tmp 16) (.const (.int .i64 1)))⟩,
 ⟨some 16, none, .prim (.mov (.tmp 25))⟩])))))))
 (.seq (.seq (.ops [⟨some 26, none, .prim (.mov (.tmp 0))⟩,
 ⟨some 27, none, .prim (.lenv (.tmp 26))⟩,
 ⟨some 28, none, .prim (.mov (.const (.int .i64 0)))⟩])
 (.block 2 (.loop [0, 1, 2, 3, 4, 6, 7, 8, 9, 10, 11, 12, 13, 14, 15, 16, 17, 18, 19, 20, 21, 22, 23, 24, 25, 29, 30, 31, 32, 33, 34, 35, 36, 37, 38, 39, 40, 41, 42, 43] (.seq (.ops [⟨some 29, none, .prim (.bin false .lss (.tmp 28) (.tmp 27))⟩])
 (.seq (.cond (.tmp 29)
 .skip
 (.exit 2))
 (.seq (.block 3 (.seq (.ops [⟨some 30, none, .prim (.mov (.tmp 28))⟩,
 ⟨some 31, none, .prim (.iadrs 7 (.tmp 26) (.tmp 28))⟩,
 ⟨some 32, none, .prim (.load 7 true (.tmp 31))⟩,
 ⟨some 8, none, .prim (.allocm [.pl (.int .i64 0), .pl (.int .u64 0), .pl (.int .u64 0), .pl (.int .u64 0), .pl (.int .u64 0), .pl (.int .i64 0), .pl (.int .i64 0)])⟩,
 ⟨some 7, none, .prim (.mov (.tmp 30))⟩,
 ⟨none, none, .prim (.store 7 (.tmp 8) (.tmp 32))⟩])
 (.seq (.ops [⟨some 33, none, .prim (.mov (.tmp 5))⟩,
 ⟨some 34, none, .prim (.mov (.tmp 7))⟩,
 ⟨some 35, none, .prim (.bin false .shr (.tmp 33) (.tmp 34))⟩,
 ⟨some 36, none, .prim (.bin false .and (.tmp 35) (.const (.int .u64 1)))⟩,
 ⟨some 37, none, .prim (.bin false .eql (.tmp 36) (.const (.int .u64 1)))⟩,
 ⟨some 38, none, .prim (.mov (.tmp 37))⟩,
 ⟨some 39, (some (38, true)), .prim (.fadr 0 (.tmp 8))⟩,
 ⟨some 40, (some (38, true)), .prim (.load 1 false (.tmp 39))⟩,
 ⟨some 41, (some (38, true)), .prim (.bin false .eql (.tmp 40) (.const (.int .i64 4)))⟩,
 ⟨some 42, none, .prim (.pick (.tmp 38) (.tmp 41) (.const (.bool false)))⟩])
 (.cond (.tmp 42)
 (.seq (.ops [⟨some 4, none, .prim (.mov (.const (.bool true)))⟩])
 .ret)
 .skip))))
 (.after (.after (.ops [⟨some 43, none, .prim (.bin false .add (.tmp 28) (.const (.int .i64 1)))⟩,
 ⟨some 28, none, .prim (.mov (.tmp 43))⟩]) (.clear [8, 39])) (.keep 0))))))))
 (.seq (.ops [⟨some 4, none, .prim (.mov (.const (.bool false)))⟩])
 .ret))))))
def o50 : List Tmp := [8]
def r50 : List RV := [.tmp 4]
theorem t50 : Text Try.prog 50 o50 c50 r50 44 := ⟨⟨Try.f50, _, by kernel_rfl, by kernel_rfl, rfl, by kernel_rfl, by kernel_rfl, rfl⟩, by kernel_rfl⟩
def c51 : ACode :=
 (.seq (.ops [⟨some 2, none, .prim (.mov (.const (.bool false)))⟩])
 (.seq (.seq (.ops [⟨some 4, none, .prim (.mov (.tmp 0))⟩,
 ⟨some 5, none, .prim (.lens (.tmp 4))⟩,
 ⟨some 6, none, .prim (.bin false .lss (.tmp 5) (.const (.int .i64 1)))⟩,
 ⟨some 7, none, .prim (.mov (.tmp 6))⟩,
 ⟨some 8, (some (7, false)), .prim (.mov (.tmp 0))⟩,
 ⟨some 9, (some (7, false)), .prim (.lens (.tmp 8))⟩,
 ⟨some 10, (some (7, false)), .prim (.bin false .gtr (.tmp 9) (.const (.int .i64 12)))⟩,
 ⟨some 11, none, .prim (.pick (.tmp 7) (.const (.bool true)) (.tmp 10))⟩,
 ⟨some 12, none, .prim (.mov (.tmp 11))⟩,
 ⟨some 13, (some (12, false)), .prim (.mov (.tmp 0))⟩,
 ⟨some 14, (some (12, false)), .prim (.idxs (.tmp 13) (.const (.int .i64 0)))⟩,
 ⟨some 15, (some (12, false)), .call (.func 94) [(.tmp 14)]⟩,
 ⟨some 16, (some (12, false)), .prim (.un .not (.tmp 15))⟩,
 ⟨some 17, none, .prim (.pick (.tmp 12) (.const (.bool true)) (.tmp 16))⟩])
 (.cond (.tmp 17)
 (.seq (.ops [⟨some 2, none, .prim (.mov (.const (.bool false)))⟩])
 .ret)
 .skip))
 (.seq (.seq (.ops [⟨some 18, none, .prim (.mov (.tmp 0))⟩,
 ⟨some 19, none, .prim (.lens (.tmp 18))⟩,
 ⟨some 20, none, .prim (.mov (.const (.int .i64 0)))⟩])
 (.block 0 (.loop [1, 2, 3, 4, 5, 6, 7, 8, 9, 10, 11, 12, 13, 14, 15, 16, 17, 18, 21, 22, 23, 24, 25, 26, 27, 28, 29, 30, 31, 32, 33, 34, 35, 36, 37, 38, 39, 40] (.seq (.ops [⟨some 21, none, .prim (.bin false .lss (.tmp 20) (.tmp 19))⟩])
 (.seq (.cond (.tmp 21)
 .skip
 (.exit 0))
 (.seq (.block 1 (.seq (.ops [⟨some 22, none, .prim (.mov (.tmp 20))⟩,
 ⟨some 3, none, .prim (.mov (.tmp 22))⟩])
 (.seq (.ops [⟨some 23, none, .prim (.mov (.tmp 0))⟩,
 ⟨some 24, none, .prim (.mov (.tmp 3))⟩,
 ⟨some 25, none, .prim (.idxs (.tmp 23) (.tmp 24))⟩,
 ⟨some 26, none, .call (.func 94) [(.tmp 25)]⟩,
 ⟨some 27, none, .prim (.un .not (.tmp 26))⟩,
 ⟨some 28, none, .prim (.mov (.tmp 27))⟩,
 ⟨some 29, (some (28, true)), .prim (.mov (.tmp 0))⟩,
 ⟨some 30, (some (28, true)), .prim (.mov (.tmp 3))⟩,
 ⟨some 31, (some (28, true)), .prim (.idxs (.tmp 29) (.tmp 30))⟩,
 ⟨some 32, (some (28, true)), .prim (.bin false .lss (.tmp 31) (.const (.int .u8 48)))⟩,
 ⟨some 33, (some (28, true)), .prim (.mov (.tmp 32))⟩,
 ⟨some 34, (some (33, false)), .prim (.mov (.tmp 0))⟩,
 ⟨some 35, (some (33, false)), .prim (.mov (.tmp 3))⟩,
 ⟨some 36, (some (33, false)), .prim (.idxs (.tmp 34) (.tmp 35))⟩,
 ⟨some 37, (some (33, false)), .prim (.bin false .gtr (.tmp 36) (.const (.int .u8 57)))⟩,
 ⟨some 38, (some (28, true)), .prim (.pick (.tmp 33) (.const (.bool true)) (.tmp 37))⟩,
 ⟨some 39, none, .prim (.pick (.tmp 28) (.tmp 38) (.const (.bool false)))⟩])
 (.cond (.tmp 39)
 (.seq (.ops [⟨some 2, none, .prim (.mov (.const (.bool false)))⟩])
 .ret)
 .skip))))
 (.ops [⟨some 40, none, .prim (.bin false .add (.tmp 20) (.const (.int .i64 1)))⟩,
 ⟨some 20, none, .prim (.mov (.tmp 40))⟩])))))))
 (.seq (.ops [⟨some 2, none, .prim (.mov (.const (.bool true)))⟩])
 .ret))))
def o51 : List Tmp := []
def r51 : List RV := [.tmp 2]
theorem t51 : Text Try.prog 51 o51 c51 r51 41 := ⟨⟨Try.f51, _, by kernel_rfl, by kernel_rfl, rfl, by kernel_rfl, by kernel_rfl, rfl⟩, by kernel_rfl⟩
def c52 : ACode :=
 (.seq (.ops [⟨some 1, none, .prim (.boxr (.tmp 0))⟩,
 ⟨some 2, none, .prim (.mov (.const (.bool false)))⟩])
 (.seq (.ops [⟨some 3, none, .prim (.fadr 0 (.tmp 1))⟩,
 ⟨some 4, none, .prim (.load 1 false (.tmp 3))⟩,
 ⟨some 5, none, .prim (.bin false .eql (.tmp 4) (.const (.int .i64 3)))⟩,
 ⟨some 6, none, .prim (.mov (.tmp 5))⟩,
 ⟨some 7, (some (6, false)), .prim (.fadr 0 (.tmp 1))⟩,
 ⟨some 8, (some (6, false)), .prim (.load 1 false (.tmp 7))⟩,
 ⟨some 9, (some (6, false)), .prim (.bin false .eql (.tmp 8) (.const (.int .i64 4)))⟩,
 ⟨some 10, none, .prim (.pick (.tmp 6) (.const (.bool true)) (.tmp 9))⟩,
 ⟨some 2, none, .prim (.mov (.tmp 10))⟩])
 .ret))
def o52 : List Tmp := []
def r52 : List RV := [.tmp 2]
theorem t52 : Text Try.prog 52 o52 c52 r52 11 := ⟨⟨Try.f52, _, by kernel_rfl, by kernel_rfl, rfl, by kernel_rfl, by kernel_rfl, rfl⟩, by kernel_rfl⟩
def c53 : ACode :=
 (.seq (.ops [⟨some 2, none, .prim (.allocm [.pl (.int .i64 0), .pl (.int .u64 0), .pl (.int .u64 0), .pl (.int .u64 0), .pl (.int .u64 0), .nils])⟩,
 ⟨some 3, none, .prim (.mov (.const (.bool false)))⟩])
 (.seq (.ops [⟨some 6, none, .prim (.mov (.tmp 0))⟩,
 ⟨some 7, none, .prim (.mov (.tmp 0))⟩,
 ⟨some 8, none, .prim (.lens (.tmp 7))⟩,
 ⟨some 9, none, .prim (.bin false .gtr (.tmp 8) (.const (.int .i64 40)))⟩,
 ⟨some 10, none, .prim (.build [.pl (.string .empty), .pl (.int .i64 0), .pl (.bool false)] [(0, 1, (.tmp 6)), (2, 1, (.tmp 9))])⟩,
 ⟨some 11, none, .prim (.boxm (.tmp 10))⟩,
 ⟨some 4, none, .prim (.mov (.tmp 11))⟩])
 (.seq (.ops [⟨some 12, none, .prim (.mov (.tmp 4))⟩,
 ⟨some 13, none, .call (.func 95) [(.tmp 12), (.const (.int .i64 0))]⟩,
 ⟨some 5, none, .fresh 6 5 (.tmp 13)⟩])
 (.seq (.seq (.ops [⟨some 14, none, .prim (.mov (.tmp 4))⟩,
 ⟨some 15, none, .prim (.nilc (.tmp 14))⟩,
 ⟨some 16, none, .prim (.fadr 2 (.tmp 15))⟩,
 ⟨some 17, none, .prim (.load 1 false (.tmp 16))⟩,
 ⟨some 18, none, .prim (.mov (.tmp 17))⟩,
 ⟨some 19, (some (18, false)), .prim (.mov (.tmp 4))⟩,
 ⟨some 20, (some (18, false)), .prim (.nilc (.tmp 19))⟩,
 ⟨some 21, (some (18, false)), .prim (.fadr 1 (.tmp 20))⟩,
 ⟨some 22, (some (18, false)), .prim (.load 1 false (.tmp 21))⟩,
 ⟨some 23, (some (18, false)), .prim (.mov (.tmp 0))⟩,
 ⟨some 24, (some (18, false)), .prim (.lens (.tmp 23))⟩,
 ⟨some 25, (some (18, false)), .prim (.bin false .lss (.tmp 22) (.tmp 24))⟩,
 ⟨some 26, none, .prim (.pick (.tmp 18) (.const (.bool true)) (.tmp 25))⟩])
 (.cond (.tmp 26)
 (.seq (.ops [⟨some 27, none, .prim (.build [.pl (.int .i64 0), .pl (.int .u64 0), .pl (.int .u64 0), .pl (.int .u64 0), .pl (.int .u64 0), .nils] [])⟩,
 ⟨none, none, .prim (.store 6 (.tmp 2) (.tmp 27))⟩,
 ⟨some 3, none, .prim (.mov (.const (.bool false)))⟩])
 .ret)
 .skip))
 (.seq (.ops [⟨some 28, none, .prim (.load 6 true (.tmp 5))⟩,
 ⟨none, none, .prim (.store 6 (.tmp 2) (.tmp 28))⟩,
 ⟨some 3, none, .prim (.mov (.const (.bool true)))⟩])
 .ret)))))
def o53 : List Tmp := [2, 11]
def r53 : List RV := [.cell 2 6 true, .tmp 3]
theorem t53 : Text Try.prog 53 o53 c53 r53 29 := ⟨⟨Try.f53, _, by kernel_rfl, by kernel_rfl, rfl, by kernel_rfl, by kernel_rfl, rfl⟩, by kernel_rfl⟩
def c54 : ACode :=
 (.seq (.ops [⟨some 2, none, .prim (.mov (.const (.bool false)))⟩])
 (.seq (.seq (.ops [⟨some 3, none, .prim (.mov (.const (.int .i64 0)))⟩])
 (.block 0 (.loop [1, 2, 4, 5, 6, 7, 8, 9, 10, 11, 12, 13, 14, 15, 16, 17, 18, 19, 20, 21, 22, 23, 24, 25, 26, 27, 28, 29, 30, 31, 32, 33, 34, 35, 36, 37, 38, 39, 40, 41, 42, 43, 44, 45, 46, 47, 48, 49, 50, 51, 52, 53, 54] (.seq (.seq (.ops [⟨some 6, none, .prim (.mov (.tmp 3))⟩,
 ⟨some 7, none, .prim (.mov (.tmp 0))⟩,
 ⟨some 8, none, .prim (.lens (.tmp 7))⟩,
 ⟨some 9, none, .prim (.bin false .lss (.tmp 6) (.tmp 8))⟩])
 (.cond (.tmp 9)
 .skip
 (.exit 0)))
 (.seq (.block 1 (.seq (.ops [⟨some 12, none, .prim (.mov (.tmp 0))⟩,
 ⟨some 13, none, .prim (.mov (.tmp 3))⟩,
 ⟨some 14, none, .prim (.idxs (.tmp 12) (.tmp 13))⟩,
 ⟨some 4, none, .prim (.mov (.tmp 14))⟩])
 (.seq (.ops [⟨some 15, none, .prim (.mov (.tmp 4))⟩,
 ⟨some 16, none, .prim (.bin false .geq (.tmp 15) (.const (.int .u8 97)))⟩,
 ⟨some 17, none, .prim (.mov (.tmp 16))⟩,
 ⟨some 18, (some (17, true)), .prim (.mov (.tmp 4))⟩,
 ⟨some 19, (some (17, true)), .prim (.bin false .leq (.tmp 18) (.const (.int .u8 122)))⟩,
 ⟨some 20, none, .prim (.pick (.tmp 17) (.tmp 19) (.const (.bool false)))⟩,
 ⟨some 21, none, .prim (.mov (.tmp 20))⟩,
 ⟨some 22, (some (21, false)), .prim (.mov (.tmp 4))⟩,
 ⟨some 23, (some (21, false)), .prim (.bin false .geq (.tmp 22) (.const (.int .u8 65)))⟩,
 ⟨some 24, (some (21, false)), .prim (.mov (.tmp 23))⟩,
 ⟨some 25, (some (24, true)), .prim (.mov (.tmp 4))⟩,
 ⟨some 26, (some (24, true)), .prim (.bin false .leq (.tmp 25) (.const (.int .u8 90)))⟩,
 ⟨some 27, (some (21, false)), .prim (.pick (.tmp 24) (.tmp 26) (.const (.bool false)))⟩,
 ⟨some 28, none, .prim (.pick (.tmp 21) (.const (.bool true)) (.tmp 27))⟩,
 ⟨some 29, none, .prim (.mov (.tmp 28))⟩,
 ⟨some 30, (some (29, false)), .prim (.mov (.tmp 4))⟩,
 ⟨some 31, (some (29, false)), .prim (.bin false .eql (.tmp 30) (.const (.int .u8 95)))⟩,
 ⟨some 32, none, .prim (.pick (.tmp 29) (.const (.bool true)) (.tmp 31))⟩,
 ⟨some 5, none, .prim (.mov (.tmp 32))⟩])
 (.seq (.ops [⟨some 33, none, .prim (.mov (.tmp 5))⟩,
 ⟨some 34, none, .prim (.un .not (.tmp 33))⟩,
 ⟨some 35, none, .prim (.mov (.tmp 34))⟩,
 ⟨some 36, (some (35, true)), .prim (.mov (.tmp 3))⟩,
 ⟨some 37, (some (35, true)), .prim (.bin false .eql (.tmp 36) (.const (.int .i64 0)))⟩,
 ⟨some 38, (some (35, true)), .prim (.mov (.tmp 37))⟩,
 ⟨some 39, (some (38, false)), .prim (.mov (.tmp 4))⟩,
 ⟨some 40, (some (38, false)), .prim (.bin false .lss (.tmp 39) (.const (.int .u8 48)))⟩,
 ⟨some 41, (some (35, true)), .prim (.pick (.tmp 38) (.const (.bool true)) (.tmp 40))⟩,
 ⟨some 42, (some (35, true)), .prim (.mov (.tmp 41))⟩,
 ⟨some 43, (some (42, false)), .prim (.mov (.tmp 4))⟩,
 ⟨some 44, (some (42, false)), .prim (.bin false .gtr (.tmp 43) (.const (.int .u8 57)))⟩,
 ⟨some 45, (some (35, true)), .prim (.pick (.tmp 42) (.const (.bool true)) (.tmp 44))⟩,
 ⟨some 46, none, .prim (.pick (.tmp 35) (.tmp 45) (.const (.bool false)))⟩])
 (.cond (.tmp 46)
 (.seq (.ops [⟨some 2, none, .prim (.mov (.const (.bool false)))⟩])
 .ret)
 .skip)))))
 (.ops [⟨some 10, none, .prim (.mov (.tmp 3))⟩,
 ⟨some 11, none, .prim (.bin false .add (.tmp 10) (.const (.int .i64 1)))⟩,
 ⟨some 3, none, .prim (.mov (.tmp 11))⟩]))))))
 (.seq (.ops [⟨some 47, none, .prim (.mov (.tmp 0))⟩,
 ⟨some 48, none, .prim (.lens (.tmp 47))⟩,
 ⟨some 49, none, .prim (.bin false .geq (.tmp 48) (.const (.int .i64 1)))⟩,
 ⟨some 50, none, .prim (.mov (.tmp 49))⟩,
 ⟨some 51, (some (50, true)), .prim (.mov (.tmp 0))⟩,
 ⟨some 52, (some (50, true)), .prim (.lens (.tmp 51))⟩,
 ⟨some 53, (some (50, true)), .prim (.bin false .leq (.tmp 52) (.const (.int .i64 12)))⟩,
 ⟨some 54, none, .prim (.pick (.tmp 50) (.tmp 53) (.const (.bool false)))⟩,
 ⟨some 2, none, .prim (.mov (.tmp 54))⟩])
 .ret)))
def o54 : List Tmp := []
def r54 : List RV := [.tmp 2]
theorem t54 : Text Try.prog 54 o54 c54 r54 55 := ⟨⟨Try.f54, _, by kernel_rfl, by kernel_rfl, rfl, by kernel_rfl, by kernel_rfl, rfl⟩, by kernel_rfl⟩
def c59 : ACode :=
 (.seq (.ops [⟨some 2, none, .prim (.mov (.const (.string (ByteArray.mk #[]))))⟩])
 (.seq (.ops [⟨some 3, none, .prim (.build [.pl (.string .empty), .pl (.string .empty), .pl (.string .empty), .pl (.string .empty), .pl (.string .empty)] [(0, 1, (.const (.string (ByteArray.mk #[115, 101, 118])))), (1, 1, (.const (.string (ByteArray.mk #[106, 111, 98])))), (2, 1, (.const (.string (ByteArray.mk #[104, 111, 115, 116])))), (3, 1, (.const (.string (ByteArray.mk #[95, 120])))), (4, 1, (.const (.string (ByteArray.mk #[90, 111, 110, 101, 57]))))])⟩,
 ⟨some 4, none, .prim (.mov (.tmp 0))⟩,
 ⟨some 5, none, .call (.func 63) [(.tmp 4), (.const (.int .i64 0)), (.const (.int .i64 4))]⟩,
 ⟨some 6, none, .prim (.idxa 1 5 false (.tmp 3) (.tmp 5))⟩,
 ⟨some 2, none, .prim (.mov (.tmp 6))⟩])
 .ret))
def o59 : List Tmp := []
def r59 : List RV := [.tmp 2]
theorem t59 : Text Try.prog 59 o59 c59 r59 7 := ⟨⟨Try.f59, _, by kernel_rfl, by kernel_rfl, rfl, by kernel_rfl, by kernel_rfl, rfl⟩, by kernel_rfl⟩
def c60 : ACode :=
 (.seq (.ops [⟨some 6, none, .prim (.mov (.const (.int .i64 0)))⟩])
 (.seq (.ops [⟨some 7, none, .prim (.mov (.tmp 0))⟩,
 ⟨some 8, none, .prim (.mov (.tmp 2))⟩,
 ⟨some 9, none, .prim (.mov (.tmp 1))⟩,
 ⟨some 10, none, .prim (.bin false .sub (.tmp 8) (.tmp 9))⟩,
 ⟨some 11, none, .prim (.bin false .add (.tmp 10) (.const (.int .i64 1)))⟩,
 ⟨some 12, none, .prim (.bin false .rem (.tmp 7) (.tmp 11))⟩,
 ⟨some 0, none, .prim (.mov (.tmp 12))⟩])
 (.seq (.seq (.ops [⟨some 13, none, .prim (.mov (.tmp 0))⟩,
 ⟨some 14, none, .prim (.bin false .lss (.tmp 13) (.const (.int .i64 0)))⟩])
 (.cond (.tmp 14)
 (.ops [⟨some 15, none, .prim (.mov (.tmp 0))⟩,
 ⟨some 16, none, .prim (.mov (.tmp 2))⟩,
 ⟨some 17, none, .prim (.bin false .add (.tmp 15) (.tmp 16))⟩,
 ⟨some 18, none, .prim (.mov (.tmp 1))⟩,
 ⟨some 19, none, .prim (.bin false .sub (.tmp 17) (.tmp 18))⟩,
 ⟨some 20, none, .prim (.bin false .add (.tmp 19) (.const (.int .i64 1)))⟩,
 ⟨some 0, none, .prim (.mov (.tmp 20))⟩])
 .skip))
 (.seq (.ops [⟨some 21, none, .prim (.mov (.tmp 1))⟩,
 ⟨some 22, none, .prim (.mov (.tmp 0))⟩,
 ⟨some 23, none, .prim (.bin false .add (.tmp 21) (.tmp 22))⟩,
 ⟨some 6, none, .prim (.mov (.tmp 23))⟩])
 .ret))))
def o60 : List Tmp := []
def r60 : List RV := [.tmp 6]
theorem t60 : Text Try.prog 60 o60 c60 r60 24 := ⟨⟨Try.f60, _, by kernel_rfl, by kernel_rfl, rfl, by kernel_rfl, by kernel_rfl, rfl⟩, by kernel_rfl⟩
def c61 : ACode :=
 (.seq (.ops [⟨some 2, none, .prim (.mov (.const (.string (ByteArray.mk #[]))))⟩])
 (.seq (.ops [⟨some 3, none, .prim (.build [.pl (.string .empty), .pl (.string .empty), .pl (.string .empty), .pl (.string .empty), .pl (.string .empty), .pl (.string .empty), .pl (.string .empty)] [(0, 1, (.const (.string (ByteArray.mk #[97])))), (1, 1, (.const (.string (ByteArray.mk #[98])))), (2, 1, (.const (.string (ByteArray.mk #[99, 114, 105, 116])))), (3, 1, (.const (.string (ByteArray.mk #[119, 97, 114, 110])))), (4, 1, (.const (.string (ByteArray.mk #[97, 98])))), (5, 1, (.const (.string (ByteArray.mk #[0, 255])))), (6, 1, (.const (.string (ByteArray.mk #[97, 98, 97, 98, 97, 98, 97, 98, 97, 98, 97, 98, 97, 98, 97, 98, 97, 98, 97, 98, 97, 98, 97, 98]))))])⟩,
 ⟨some 4, none, .prim (.mov (.tmp 0))⟩,
 ⟨some 5, none, .call (.func 63) [(.tmp 4), (.const (.int .i64 0)), (.const (.int .i64 6))]⟩,
 ⟨some 6, none, .prim (.idxa 1 7 false (.tmp 3) (.tmp 5))⟩,
 ⟨some 2, none, .prim (.mov (.tmp 6))⟩])
 .ret))
def o61 : List Tmp := []
def r61 : List RV := [.tmp 2]
theorem t61 : Text Try.prog 61 o61 c61 r61 7 := ⟨⟨Try.f61, _, by kernel_rfl, by kernel_rfl, rfl, by kernel_rfl, by kernel_rfl, rfl⟩, by kernel_rfl⟩
def c62 : ACode :=
 (.seq (.ops [⟨some 2, none, .prim (.mov (.const (.slice none 0 0)))⟩,
 ⟨some 3, none, .prim (.mov (.const (.bool false)))⟩])
 (.seq (.after (.after (.after (.ops [⟨some 4, none, .prim (.mov (.const (.slice none 0 0)))⟩]) (.own 4 2)) (.shut 4)) (.keep 0))
 (.seq (.seq (.ops [⟨some 5, none, .prim (.mov (.const (.int .i64 0)))⟩])
 (.block 0 (.loop [1, 2, 3, 6, 7, 8, 9, 10, 11, 12, 13, 14, 15, 16, 17, 18, 19, 20, 21, 22, 23, 24, 25, 26, 27, 28, 29, 30, 31, 32, 33, 34, 35, 36, 37, 38, 39, 40, 41, 42, 43, 44, 45, 46, 47, 48, 49, 50] (.seq (.seq (.ops [⟨some 7, none, .prim (.mov (.tmp 5))⟩,
 ⟨some 8, none, .prim (.mov (.tmp 0))⟩,
 ⟨some 9, none, .prim (.lenv (.tmp 8))⟩,
 ⟨some 10, none, .prim (.bin false .lss (.tmp 7) (.tmp 9))⟩])
 (.cond (.tmp 10)
 .skip
 (.exit 0)))
 (.seq (.block 1 (.seq (.ops [⟨some 13, none, .prim (.mov (.tmp 4))⟩,
 ⟨some 14, none, .prim (.lenv (.tmp 13))⟩,
 ⟨some 6, none, .prim (.mov (.tmp 14))⟩])
 (.seq (.block 2 (.loop [1, 2, 3, 7, 8, 9, 10, 11, 12, 13, 14, 15, 16, 17, 18, 19, 20, 21, 22, 23, 24, 25, 26, 27, 28, 29, 30, 31, 32, 33, 34, 35, 36, 37, 38, 39, 40, 41, 42, 43, 44, 45, 46, 47, 48, 49, 50] (.seq (.seq (.draw [⟨⟨some 15, none, .prim (.mov (.tmp 6))⟩, [], false, 0, 0⟩,
 ⟨⟨some 16, none, .prim (.bin false .gtr (.tmp 15) (.const (.int .i64 0)))⟩, [0], false, 0, 0⟩,
 ⟨⟨some 17, none, .prim (.mov (.tmp 16))⟩, [0, 1], false, 0, 0⟩,
 ⟨⟨some 18, (some (17, true)), .prim (.mov (.tmp 0))⟩, [0, 1, 2], false, 0, 0⟩,
 ⟨⟨some 19, (some (17, true)), .prim (.mov (.tmp 5))⟩, [0, 1, 2], false, 0, 0⟩,
 ⟨⟨some 20, (some (17, true)), .prim (.iadrs 2 (.tmp 18) (.tmp 19))⟩, [0, 1, 2, 3, 4], false, 0, 0⟩,
 ⟨⟨some 21, (some (17, true)), .prim (.fadr 0 (.tmp 20))⟩, [0, 1, 2, 3, 4, 5], false, 0, 0⟩,
 ⟨⟨some 22, (some (17, true)), .prim (.load 1 false (.tmp 21))⟩, [0, 1, 2, 3, 4, 5, 6], false, 0, 0⟩,
 ⟨⟨some 23, (some (17, true)), .prim (.mov (.tmp 4))⟩, [0, 1, 2], false, 0, 0⟩,
 ⟨⟨some 24, (some (17, true)), .prim (.mov (.tmp 6))⟩, [0, 1, 2], false, 0, 0⟩,
 ⟨⟨some 25, (some (17, true)), .prim (.bin false .sub (.tmp 24) (.const (.int .i64 1)))⟩, [0, 1, 2, 9], false, 0, 0⟩,
 ⟨⟨some 26, (some (17, true)), .prim (.iadrs 2 (.tmp 23) (.tmp 25))⟩, [0, 1, 2, 8, 9, 10], false, 0, 0⟩,
 ⟨⟨some 27, (some (17, true)), .prim (.fadr 0 (.tmp 26))⟩, [0, 1, 2, 8, 9, 10, 11], false, 0, 0⟩,
 ⟨⟨some 28, (some (17, true)), .prim (.load 1 false (.tmp 27))⟩, [0, 1, 2, 8, 9, 10, 11, 12], false, 0, 0⟩,
 ⟨⟨some 29, (some (17, true)), .prim (.bin false .lss (.tmp 22) (.tmp 28))⟩, [0, 1, 2, 3, 4, 5, 6, 7, 8, 9, 10, 11, 12, 13], false, 0, 0⟩,
 ⟨⟨some 30, none, .prim (.pick (.tmp 17) (.tmp 29) (.const (.bool false)))⟩, [0, 1, 2, 3, 4, 5, 6, 7, 8, 9, 10, 11, 12, 13, 14], false, 0, 0⟩])
 (.cond (.tmp 30)
 .skip
 (.exit 2)))
 (.block 3 (.ops [⟨some 31, none, .prim (.mov (.tmp 6))⟩,
 ⟨some 32, none, .prim (.bin false .sub (.tmp 31) (.const (.int .i64 1)))⟩,
 ⟨some 6, none, .prim (.mov (.tmp 32))⟩])))))
 (.after (.after (.after (.draw [⟨⟨some 33, none, .prim (.mov (.tmp 4))⟩, [], false, 0, 0⟩,
 ⟨⟨some 34, none, .prim (.mov (.tmp 6))⟩, [], false, 0, 0⟩,
 ⟨⟨some 35, none, .prim (.slcv 2 (.tmp 33) none (some (.tmp 34)))⟩, [0, 1], false, 0, 0⟩,
 ⟨⟨some 36, none, .prim (.app 2 (.const (.slice none 0 0)) (.tmp 35))⟩, [0, 1, 2], true, 0, 0⟩,
 ⟨⟨some 37, none, .prim (.mov (.tmp 0))⟩, [], false, 0, 1⟩,
 ⟨⟨some 38, none, .prim (.mov (.tmp 5))⟩, [], false, 0, 1⟩,
 ⟨⟨some 39, none, .prim (.iadrs 2 (.tmp 37) (.tmp 38))⟩, [4, 5], false, 0, 1⟩,
 ⟨⟨some 40, none, .prim (.load 2 true (.tmp 39))⟩, [4, 5, 6], false, 0, 1⟩,
 ⟨⟨some 41, none, .prim (.bsl false 2 true 1 [.pl (.string .empty), .pl (.string .empty)] [(0, 2, (.tmp 40))])⟩, [4, 5, 6, 7], false, 0, 1⟩,
 ⟨⟨some 42, none, .prim (.app 2 (.tmp 36) (.tmp 41))⟩, [0, 1, 2, 3, 4, 5, 6, 7, 8], true, 0, 0⟩,
 ⟨⟨some 43, none, .prim (.mov (.tmp 4))⟩, [], false, 0, 2⟩,
 ⟨⟨some 44, none, .prim (.mov (.tmp 6))⟩, [], false, 0, 2⟩,
 ⟨⟨some 45, none, .prim (.slcv 2 (.tmp 43) (some (.tmp 44)) none)⟩, [10, 11], false, 0, 2⟩,
 ⟨⟨some 46, none, .prim (.app 2 (.tmp 42) (.tmp 45))⟩, [0, 1, 2, 3, 4, 5, 6, 7, 8, 9, 10, 11, 12], true, 0, 0⟩,
 ⟨⟨some 4, none, .prim (.mov (.tmp 46))⟩, [0, 1, 2, 3, 4, 5, 6, 7, 8, 9, 10, 11, 12, 13], false, 3, 3⟩]) (.shut 4)) (.clear [36, 42, 46])) (.keep 0)))))
 (.ops [⟨some 11, none, .prim (.mov (.tmp 5))⟩,
 ⟨some 12, none, .prim (.bin false .add (.tmp 11) (.const (.int .i64 1)))⟩,
 ⟨some 5, none, .prim (.mov (.tmp 12))⟩]))))))
 (.seq (.seq (.ops [⟨some 47, none, .prim (.mov (.tmp 4))⟩,
 ⟨some 48, none, .call (.func 100) [(.tmp 47)]⟩,
 ⟨some 49, none, .prim (.un .not (.tmp 48))⟩])
 (.cond (.tmp 49)
 (.seq (.ops [⟨some 2, none, .prim (.mov (.const (.slice none 0 0)))⟩,
 ⟨some 3, none, .prim (.mov (.const (.bool false)))⟩])
 (.ghost (.shut 2) .ret))
 .skip))
 (.seq (.ops [⟨some 50, none, .prim (.mov (.tmp 4))⟩,
 ⟨some 2, none, .prim (.mov (.tmp 50))⟩,
 ⟨some 3, none, .prim (.mov (.const (.bool true)))⟩])
 (.ghost (.shut 2) .ret))))))
def o62 : List Tmp := []
def r62 : List RV := [.tmp 2, .tmp 3]
theorem t62 : Text Try.prog 62 o62 c62 r62 51 := ⟨⟨Try.f62, _, by kernel_rfl, by kernel_rfl, rfl, by kernel_rfl, by kernel_rfl, rfl⟩, by kernel_rfl⟩
def c63 : ACode :=
 (.seq (.ops [⟨some 6, none, .prim (.mov (.const (.int .i64 0)))⟩])
 (.seq (.seq (.ops [⟨some 7, none, .prim (.mov (.tmp 0))⟩,
 ⟨some 8, none, .prim (.mov (.tmp 1))⟩,
 ⟨some 9, none, .prim (.bin false .geq (.tmp 7) (.tmp 8))⟩,
 ⟨some 10, none, .prim (.mov (.tmp 9))⟩,
 ⟨some 11, (some (10, true)), .prim (.mov (.tmp 0))⟩,
 ⟨some 12, (some (10, true)), .prim (.mov (.tmp 2))⟩,
 ⟨some 13, (some (10, true)), .prim (.bin false .leq (.tmp 11) (.tmp 12))⟩,
 ⟨some 14, none, .prim (.pick (.tmp 10) (.tmp 13) (.const (.bool false)))⟩])
 (.cond (.tmp 14)
 (.seq (.ops [⟨some 15, none, .prim (.mov (.tmp 0))⟩,
 ⟨some 6, none, .prim (.mov (.tmp 15))⟩])
 .ret)
 .skip))
 (.seq (.ops [⟨some 16, none, .prim (.mov (.tmp 0))⟩,
 ⟨some 17, none, .prim (.mov (.tmp 1))⟩,
 ⟨some 18, none, .prim (.mov (.tmp 2))⟩,
 ⟨some 19, none, .call (.func 60) [(.tmp 16), (.tmp 17), (.tmp 18)]⟩,
 ⟨some 6, none, .prim (.mov (.tmp 19))⟩])
 .ret)))
def o63 : List Tmp := []
def r63 : List RV := [.tmp 6]
theorem t63 : Text Try.prog 63 o63 c63 r63 20 := ⟨⟨Try.f63, _, by kernel_rfl, by kernel_rfl, rfl, by kernel_rfl, by kernel_rfl, rfl⟩, by kernel_rfl⟩
def c64 : ACode :=
 (.seq (.ops [⟨some 2, none, .prim (.mov (.const (.string (ByteArray.mk #[]))))⟩])
 (.seq (.ops [⟨some 3, none, .prim (.build [.pl (.string .empty), .pl (.string .empty), .pl (.string .empty), .pl (.string .empty), .pl (.string .empty), .pl (.string .empty), .pl (.string .empty), .pl (.string .empty), .pl (.string .empty)] [(0, 1, (.const (.string (ByteArray.mk #[97, 124, 98])))), (1, 1, (.const (.string (ByteArray.mk #[])))), (2, 1, (.const (.string (ByteArray.mk #[40, 99, 114, 105, 116, 124, 119, 97, 114, 110, 41])))), (3, 1, (.const (.string (ByteArray.mk #[91, 97, 45, 99, 93, 43, 46, 42])))), (4, 1, (.const (.string (ByteArray.mk #[46, 43])))), (5, 1, (.const (.string (ByteArray.mk #[40, 97, 98, 41, 42])))), (6, 1, (.const (.string (ByteArray.mk #[97, 63, 98, 63])))), (7, 1, (.const (.string (ByteArray.mk #[91, 94, 97, 93, 42])))), (8, 1, (.const (.string (ByteArray.mk #[97, 42, 97, 42, 97, 42, 97, 42, 97, 42, 97, 42, 97, 42, 97, 42, 97, 42, 97, 42, 97, 42, 97, 42, 97, 42, 97, 42]))))])⟩,
 ⟨some 4, none, .prim (.mov (.tmp 0))⟩,
 ⟨some 5, none, .call (.func 63) [(.tmp 4), (.const (.int .i64 0)), (.const (.int .i64 8))]⟩,
 ⟨some 6, none, .prim (.idxa 1 9 false (.tmp 3) (.tmp 5))⟩,
 ⟨some 2, none, .prim (.mov (.tmp 6))⟩])
 .ret))
def o64 : List Tmp := []
def r64 : List RV := [.tmp 2]
theorem t64 : Text Try.prog 64 o64 c64 r64 7 := ⟨⟨Try.f64, _, by kernel_rfl, by kernel_rfl, rfl, by kernel_rfl, by kernel_rfl, rfl⟩, by kernel_rfl⟩
def c65 : ACode :=
 (.seq (.ops [⟨some 2, none, .prim (.boxr (.tmp 0))⟩,
 ⟨some 3, none, .prim (.boxr (.tmp 1))⟩,
 ⟨some 4, none, .prim (.mov (.const (.bool false)))⟩])
 (.seq (.seq (.ops [⟨some 5, none, .prim (.fadr 1 (.tmp 2))⟩,
 ⟨some 6, none, .prim (.load 1 false (.tmp 5))⟩,
 ⟨some 7, none, .prim (.fadr 1 (.tmp 3))⟩,
 ⟨some 8, none, .prim (.load 1 false (.tmp 7))⟩,
 ⟨some 9, none, .prim (.bin false .neq (.tmp 6) (.tmp 8))⟩])
 (.cond (.tmp 9)
 (.seq (.ops [⟨some 10, none, .prim (.fadr 1 (.tmp 2))⟩,
 ⟨some 11, none, .prim (.load 1 false (.tmp 10))⟩,
 ⟨some 12, none, .prim (.fadr 1 (.tmp 3))⟩,
 ⟨some 13, none, .prim (.load 1 false (.tmp 12))⟩,
 ⟨some 14, none, .prim (.bin false .lss (.tmp 11) (.tmp 13))⟩,
 ⟨some 4, none, .prim (.mov (.tmp 14))⟩])
 .ret)
 .skip))
 (.seq (.seq (.ops [⟨some 15, none, .prim (.fadr 0 (.tmp 2))⟩,
 ⟨some 16, none, .prim (.load 1 false (.tmp 15))⟩,
 ⟨some 17, none, .prim (.fadr 0 (.tmp 3))⟩,
 ⟨some 18, none, .prim (.load 1 false (.tmp 17))⟩,
 ⟨some 19, none, .prim (.bin false .neq (.tmp 16) (.tmp 18))⟩])
 (.cond (.tmp 19)
 (.seq (.ops [⟨some 20, none, .prim (.fadr 0 (.tmp 2))⟩,
 ⟨some 21, none, .prim (.load 1 false (.tmp 20))⟩,
 ⟨some 22, none, .prim (.fadr 0 (.tmp 3))⟩,
 ⟨some 23, none, .prim (.load 1 false (.tmp 22))⟩,
 ⟨some 24, none, .prim (.bin false .lss (.tmp 21) (.tmp 23))⟩,
 ⟨some 4, none, .prim (.mov (.tmp 24))⟩])
 .ret)
 .skip))
 (.seq (.ops [⟨some 25, none, .prim (.fadr 2 (.tmp 2))⟩,
 ⟨some 26, none, .prim (.load 1 false (.tmp 25))⟩,
 ⟨some 27, none, .prim (.fadr 2 (.tmp 3))⟩,
 ⟨some 28, none, .prim (.load 1 false (.tmp 27))⟩,
 ⟨some 29, none, .prim (.bin false .lss (.tmp 26) (.tmp 28))⟩,
 ⟨some 4, none, .prim (.mov (.tmp 29))⟩])
 .ret))))
def o65 : List Tmp := []
def r65 : List RV := [.tmp 4]
theorem t65 : Text Try.prog 65 o65 c65 r65 30 := ⟨⟨Try.f65, _, by kernel_rfl, by kernel_rfl, rfl, by kernel_rfl, by kernel_rfl, rfl⟩, by kernel_rfl⟩
def c66 : ACode :=
 (.seq (.ops [⟨some 2, none, .prim (.boxr (.tmp 0))⟩,
 ⟨some 3, none, .prim (.boxr (.tmp 1))⟩,
 ⟨some 4, none, .prim (.mov (.const (.int .i64 0)))⟩])
 (.seq (.draw [⟨⟨some 5, none, .prim (.fadr 1 (.tmp 2))⟩, [], false, 0, 0⟩,
 ⟨⟨some 6, none, .prim (.load 1 false (.tmp 5))⟩, [0], false, 0, 0⟩,
 ⟨⟨some 7, none, .prim (.fadr 1 (.tmp 3))⟩, [], false, 0, 0⟩,
 ⟨⟨some 8, none, .prim (.load 1 false (.tmp 7))⟩, [2], false, 0, 0⟩,
 ⟨⟨some 9, none, .call (.func 102) [(.tmp 6), (.tmp 8)]⟩, [0, 1, 2, 3], true, 0, 0⟩,
 ⟨⟨some 10, none, .prim (.fadr 0 (.tmp 2))⟩, [], false, 0, 1⟩,
 ⟨⟨some 11, none, .prim (.load 1 false (.tmp 10))⟩, [5], false, 0, 1⟩,
 ⟨⟨some 12, none, .prim (.fadr 0 (.tmp 3))⟩, [], false, 0, 1⟩,
 ⟨⟨some 13, none, .prim (.load 1 false (.tmp 12))⟩, [7], false, 0, 1⟩,
 ⟨⟨some 14, none, .call (.func 103) [(.tmp 11), (.tmp 13)]⟩, [0, 1, 2, 3, 4, 5, 6, 7, 8], true, 0, 0⟩,
 ⟨⟨some 15, none, .prim (.fadr 2 (.tmp 2))⟩, [], false, 0, 2⟩,
 ⟨⟨some 16, none, .prim (.load 1 false (.tmp 15))⟩, [10], false, 0, 2⟩,
 ⟨⟨some 17, none, .prim (.fadr 2 (.tmp 3))⟩, [], false, 0, 2⟩,
 ⟨⟨some 18, none, .prim (.load 1 false (.tmp 17))⟩, [12], false, 0, 2⟩,
 ⟨⟨some 19, none, .call (.func 102) [(.tmp 16), (.tmp 18)]⟩, [0, 1, 2, 3, 4, 5, 6, 7, 8, 9, 10, 11, 12, 13], true, 0, 0⟩,
 ⟨⟨some 20, none, .prim (.bsl false 1 false 3 [.pl (.int .i64 0)] [(0, 1, (.tmp 9)), (1, 1, (.tmp 14)), (2, 1, (.tmp 19))])⟩, [0, 1, 2, 3, 4, 5, 6, 7, 8, 9, 10, 11, 12, 13, 14], false, 3, 3⟩,
 ⟨⟨some 21, none, .call (.func 101) [(.tmp 20)]⟩, [0, 1, 2, 3, 4, 5, 6, 7, 8, 9, 10, 11, 12, 13, 14, 15], true, 0, 0⟩,
 ⟨⟨some 4, none, .prim (.mov (.tmp 21))⟩, [0, 1, 2, 3, 4, 5, 6, 7, 8, 9, 10, 11, 12, 13, 14, 15, 16], false, 4, 4⟩])
 .ret))
def o66 : List Tmp := []
def r66 : List RV := [.tmp 4]
theorem t66 : Text Try.prog 66 o66 c66 r66 22 := ⟨⟨Try.f66, _, by kernel_rfl, by kernel_rfl, rfl, by kernel_rfl, by kernel_rfl, rfl⟩, by kernel_rfl⟩
def c67 : ACode :=
 (.seq (.ops [⟨some 4, none, .prim (.mov (.const (.bool false)))⟩])
 (.seq (.ops [⟨some 5, none, .prim (.mov (.tmp 0))⟩,
 ⟨some 6, none, .prim (.mov (.tmp 1))⟩,
 ⟨some 7, none, .call (.func 104) [(.tmp 5), (.tmp 6)]⟩,
 ⟨some 8, none, .prim (.bin false .geq (.tmp 7) (.const (.int .i64 0)))⟩,
 ⟨some 4, none, .prim (.mov (.tmp 8))⟩])
 .ret))
def o67 : List Tmp := []
def r67 : List RV := [.tmp 4]
theorem t67 : Text Try.prog 67 o67 c67 r67 9 := ⟨⟨Try.f67, _, by kernel_rfl, by kernel_rfl, rfl, by kernel_rfl, by kernel_rfl, rfl⟩, by kernel_rfl⟩
def c68 : ACode :=
 (.seq (.ops [⟨some 2, none, .prim (.boxr (.tmp 0))⟩,
 ⟨some 3, none, .prim (.mov (.const (.bool false)))⟩])
 (.seq (.ops [⟨some 4, none, .prim (.load 3 true (.tmp 2))⟩,
 ⟨some 5, none, .prim (.load 1 false (.tmp 1))⟩,
 ⟨some 6, none, .call (.func 15) [(.tmp 4), (.tmp 5)]⟩,
 ⟨some 7, none, .prim (.un .not (.tmp 6))⟩,
 ⟨some 3, none, .prim (.mov (.tmp 7))⟩])
 .ret))
def o68 : List Tmp := []
def r68 : List RV := [.tmp 3]
theorem t68 : Text Try.prog 68 o68 c68 r68 8 := ⟨⟨Try.f68, _, by kernel_rfl, by kernel_rfl, rfl, by kernel_rfl, by kernel_rfl, rfl⟩, by kernel_rfl⟩
def c88 : ACode :=
 (.seq (.ops [⟨some 4, none, .prim (.mov (.const (.int .i64 0)))⟩])
 (.seq (.seq (.ops [⟨some 6, none, .prim (.mov (.tmp 0))⟩,
 ⟨some 7, none, .prim (.lenv (.tmp 6))⟩,
 ⟨some 8, none, .prim (.mov (.const (.int .i64 0)))⟩])
 (.block 0 (.loop [2, 3, 4, 5, 6, 9, 10, 11, 12, 13, 14, 15, 16, 17, 18] (.seq (.ops [⟨some 9, none, .prim (.bin false .lss (.tmp 8) (.tmp 7))⟩])
 (.seq (.cond (.tmp 9)
 .skip
 (.exit 0))
 (.seq (.block 1 (.seq (.ops [⟨some 10, none, .prim (.mov (.tmp 8))⟩,
 ⟨some 5, none, .prim (.mov (.tmp 10))⟩])
 (.seq (.ops [⟨some 11, none, .prim (.mov (.tmp 1))⟩,
 ⟨some 12, none, .prim (.mov (.tmp 0))⟩,
 ⟨some 13, none, .prim (.mov (.tmp 5))⟩,
 ⟨some 14, none, .prim (.iadrs 2 (.tmp 12) (.tmp 13))⟩,
 ⟨some 15, none, .prim (.load 2 true (.tmp 14))⟩,
 ⟨some 16, none, .call (.tmp 11) [(.tmp 15)]⟩])
 (.cond (.tmp 16)
 (.seq (.ops [⟨some 17, none, .prim (.mov (.tmp 5))⟩,
 ⟨some 4, none, .prim (.mov (.tmp 17))⟩])
 .ret)
 .skip))))
 (.ops [⟨some 18, none, .prim (.bin false .add (.tmp 8) (.const (.int .i64 1)))⟩,
 ⟨some 8, none, .prim (.mov (.tmp 18))⟩])))))))
 (.seq (.ops [⟨some 4, none, .prim (.mov (.const (.int .i64 (-1))))⟩])
 .ret)))
def o88 : List Tmp := []
def r88 : List RV := [.tmp 4]
theorem t88 : Text Try.prog 88 o88 c88 r88 19 := ⟨⟨Try.f88, _, by kernel_rfl, by kernel_rfl, rfl, by kernel_rfl, by kernel_rfl, rfl⟩, by kernel_rfl⟩
def c89 : ACode :=
 (.seq (.ops [⟨some 2, none, .prim (.boxr (.tmp 0))⟩,
 ⟨some 3, none, .prim (.mov (.const (.bool false)))⟩])
 (.seq (.ops [⟨some 4, none, .prim (.fadr 0 (.tmp 2))⟩,
 ⟨some 5, none, .prim (.load 1 false (.tmp 4))⟩,
 ⟨some 6, none, .prim (.load 1 false (.tmp 1))⟩,
 ⟨some 7, none, .prim (.bin false .eql (.tmp 5) (.tmp 6))⟩,
 ⟨some 3, none, .prim (.mov (.tmp 7))⟩])
 .ret))
def o89 : List Tmp := []
def r89 : List RV := [.tmp 3]
theorem t89 : Text Try.prog 89 o89 c89 r89 8 := ⟨⟨Try.f89, _, by kernel_rfl, by kernel_rfl, rfl, by kernel_rfl, by kernel_rfl, rfl⟩, by kernel_rfl⟩
def c90 : ACode :=
 (.seq (.ops [⟨some 1, none, .prim (.boxr (.tmp 0))⟩,
 ⟨some 2, none, .prim (.mov (.const (.slice none 0 0)))⟩,
 ⟨some 3, none, .prim (.mov (.const (.bool false)))⟩])
 (.seq (.ops [⟨some 5, none, .prim (.load 6 true (.tmp 1))⟩,
 ⟨some 6, none, .call (.func 111) [(.tmp 5)]⟩,
 ⟨some 4, none, .prim (.mov (.tmp 6))⟩])
 (.seq (.seq (.ops [⟨some 7, none, .prim (.mov (.tmp 4))⟩,
 ⟨some 8, none, .prim (.bin false .eql (.tmp 7) (.const (.int .i64 0)))⟩,
 ⟨some 9, none, .prim (.mov (.tmp 8))⟩,
 ⟨some 10, (some (9, false)), .prim (.mov (.tmp 4))⟩,
 ⟨some 11, (some (9, false)), .prim (.bin false .gtr (.tmp 10) (.const (.int .i64 40)))⟩,
 ⟨some 12, none, .prim (.pick (.tmp 9) (.const (.bool true)) (.tmp 11))⟩])
 (.cond (.tmp 12)
 (.seq (.ops [⟨some 2, none, .prim (.mov (.const (.slice none 0 0)))⟩,
 ⟨some 3, none, .prim (.mov (.const (.bool false)))⟩])
 (.ghost (.shut 2) .ret))
 .skip))
 (.seq (.ops [⟨some 13, none, .prim (.load 6 true (.tmp 1))⟩,
 ⟨some 14, none, .call (.func 112) [(.const (.slice none 0 0)), (.tmp 13)]⟩,
 ⟨some 15, none, .prim (.build [.pl (.int .i64 0), .pl (.int .u64 0), .pl (.int .u64 0), .pl (.int .u64 0), .pl (.int .u64 0), .pl (.int .i64 0), .pl (.int .i64 0)] [(0, 1, (.const (.int .i64 4)))])⟩,
 ⟨some 16, none, .prim (.bsl false 7 true 1 [.pl (.int .i64 0), .pl (.int .u64 0), .pl (.int .u64 0), .pl (.int .u64 0), .pl (.int .u64 0), .pl (.int .i64 0), .pl (.int .i64 0)] [(0, 7, (.tmp 15))])⟩,
 ⟨some 17, none, .prim (.app 7 (.tmp 14) (.tmp 16))⟩,
 ⟨some 2, none, .prim (.mov (.tmp 17))⟩,
 ⟨some 3, none, .prim (.mov (.const (.bool true)))⟩])
 (.ghost (.shut 2) .ret)))))
def o90 : List Tmp := []
def r90 : List RV := [.tmp 2, .tmp 3]
theorem t90 : Text Try.prog 90 o90 c90 r90 18 := ⟨⟨Try.f90, _, by kernel_rfl, by kernel_rfl, rfl, by kernel_rfl, by kernel_rfl, rfl⟩, by kernel_rfl⟩
def c91 : ACode :=
 (.seq (.ops [⟨some 1, none, .prim (.boxr (.tmp 0))⟩,
 ⟨some 2, none, .prim (.mov (.const (.bool false)))⟩])
 (.seq (.seq (.ops [⟨some 4, none, .prim (.load 1 false (.tmp 1))⟩,
 ⟨some 5, none, .prim (.lenv (.tmp 4))⟩,
 ⟨some 6, none, .prim (.bin false .lss (.tmp 5) (.const (.int .i64 1)))⟩,
 ⟨some 7, none, .prim (.mov (.tmp 6))⟩,
 ⟨some 8, (some (7, false)), .prim (.load 1 false (.tmp 1))⟩,
 ⟨some 9, (some (7, false)), .prim (.lenv (.tmp 8))⟩,
 ⟨some 10, (some (7, false)), .prim (.bin false .gtr (.tmp 9) (.const (.int .i64 40)))⟩,
 ⟨some 11, none, .prim (.pick (.tmp 7) (.const (.bool true)) (.tmp 10))⟩])
 (.cond (.tmp 11)
 (.seq (.ops [⟨some 2, none, .prim (.mov (.const (.bool false)))⟩])
 .ret)
 .skip))
 (.seq (.ops [⟨some 12, none, .prim (.load 1 false (.tmp 1))⟩,
 ⟨some 13, none, .prim (.lenv (.tmp 12))⟩,
 ⟨some 14, none, .prim (.bin false .sub (.tmp 13) (.const (.int .i64 1)))⟩,
 ⟨some 3, none, .prim (.mov (.tmp 14))⟩])
 (.seq (.draw [⟨⟨some 15, none, .prim (.load 1 false (.tmp 1))⟩, [], false, 0, 0⟩,
 ⟨⟨some 16, none, .prim (.mov (.tmp 3))⟩, [], false, 0, 0⟩,
 ⟨⟨some 17, none, .prim (.slcv 7 (.tmp 15) none (some (.tmp 16)))⟩, [0, 1], false, 0, 0⟩,
 ⟨⟨some 18, none, .prim (.mkfn 114 [] [(.tmp 1)])⟩, [], false, 0, 0⟩,
 ⟨⟨some 19, none, .call (.func 113) [(.tmp 17), (.tmp 18)]⟩, [0, 1, 2, 3], true, 0, 0⟩,
 ⟨⟨some 20, none, .prim (.un .not (.tmp 19))⟩, [0, 1, 2, 3, 4], false, 1, 1⟩,
 ⟨⟨some 21, none, .prim (.mov (.tmp 20))⟩, [0, 1, 2, 3, 4, 5], false, 1, 1⟩,
 ⟨⟨some 22, (some (21, true)), .prim (.load 1 false (.tmp 1))⟩, [0, 1, 2, 3, 4, 5, 6], false, 1, 1⟩,
 ⟨⟨some 23, (some (21, true)), .prim (.mov (.tmp 3))⟩, [0, 1, 2, 3, 4, 5, 6], false, 1, 1⟩,
 ⟨⟨some 24, (some (21, true)), .prim (.iadrs 7 (.tmp 22) (.tmp 23))⟩, [0, 1, 2, 3, 4, 5, 6, 7, 8], false, 1, 1⟩,
 ⟨⟨some 25, (some (21, true)), .prim (.load 7 true (.tmp 24))⟩, [0, 1, 2, 3, 4, 5, 6, 7, 8, 9], false, 1, 1⟩,
 ⟨⟨some 26, (some (21, true)), .prim (.load 1 false (.tmp 1))⟩, [0, 1, 2, 3, 4, 5, 6], false, 1, 1⟩,
 ⟨⟨some 27, (some (21, true)), .prim (.lenv (.tmp 26))⟩, [0, 1, 2, 3, 4, 5, 6, 11], false, 1, 1⟩,
 ⟨⟨some 28, (some (21, true)), .call (.func 115) [(.tmp 25), (.tmp 27), (.const (.bool true))]⟩, [0, 1, 2, 3, 4, 5, 6, 7, 8, 9, 10, 11, 12], true, 0, 0⟩,
 ⟨⟨some 29, none, .prim (.pick (.tmp 21) (.tmp 28) (.const (.bool false)))⟩, [0, 1, 2, 3, 4, 5, 6, 7, 8, 9, 10, 11, 12, 13], false, 2, 2⟩,
 ⟨⟨some 2, none, .prim (.mov (.tmp 29))⟩, [0, 1, 2, 3, 4, 5, 6, 7, 8, 9, 10, 11, 12, 13, 14], false, 2, 2⟩])
 .ret))))
def o91 : List Tmp := []
def r91 : List RV := [.tmp 2]
theorem t91 : Text Try.prog 91 o91 c91 r91 30 := ⟨⟨Try.f91, _, by kernel_rfl, by kernel_rfl, rfl, by kernel_rfl, by kernel_rfl, rfl⟩, by kernel_rfl⟩
def c92 : ACode :=
 (.seq (.ops [⟨some 2, none, .prim (.mov (.const (.int .u64 0)))⟩])
 (.seq (.ops [⟨some 3, none, .prim (.allocm [.pl (.int .u64 0)])⟩,
 ⟨none, none, .prim (.store 1 (.tmp 3) (.const (.int .u64 0)))⟩])
 (.seq (.ops [⟨some 4, none, .prim (.mov (.tmp 0))⟩,
 ⟨some 5, none, .call (.func 116) [(.tmp 4), (.const (.int .i64 0)), (.tmp 3)]⟩,
 ⟨some 2, none, .prim (.mov (.tmp 5))⟩])
 .ret)))
def o92 : List Tmp := [3]
def r92 : List RV := [.tmp 2]
theorem t92 : Text Try.prog 92 o92 c92 r92 6 := ⟨⟨Try.f92, _, by kernel_rfl, by kernel_rfl, rfl, by kernel_rfl, by kernel_rfl, rfl⟩, by kernel_rfl⟩
def c93 : ACode :=
 (.seq (.ops [⟨some 6, none, .prim (.mov (.const (.int .u64 0)))⟩])
 (.seq (.ops [⟨some 7, none, .prim (.allocm [.pl (.int .u64 0)])⟩,
 ⟨none, none, .prim (.store 1 (.tmp 7) (.const (.int .u64 0)))⟩,
 ⟨some 8, none, .prim (.mov (.const (.int .u64 0)))⟩])
 (.seq (.seq (.ops [⟨some 11, none, .prim (.mov (.tmp 0))⟩,
 ⟨some 12, none, .prim (.lenv (.tmp 11))⟩,
 ⟨some 13, none, .prim (.mov (.const (.int .i64 0)))⟩])
 (.block 0 (.loop [3, 4, 5, 6, 9, 10, 14, 15, 16, 17, 18, 19, 20, 21, 22, 23, 24, 25, 26, 27, 28, 29, 30, 31, 32, 33, 34, 35, 36, 37, 38, 39, 40, 41, 42, 43, 44, 45, 46, 47] (.seq (.ops [⟨some 14, none, .prim (.bin false .lss (.tmp 13) (.tmp 12))⟩])
 (.seq (.cond (.tmp 14)
 .skip
 (.exit 0))
 (.seq (.block 1 (.seq (.ops [⟨some 15, none, .prim (.mov (.tmp 13))⟩,
 ⟨some 16, none, .prim (.iadrs 7 (.tmp 11) (.tmp 13))⟩,
 ⟨some 17, none, .prim (.load 7 true (.tmp 16))⟩,
 ⟨some 10, none, .prim (.allocm [.pl (.int .i64 0), .pl (.int .u64 0), .pl (.int .u64 0), .pl (.int .u64 0), .pl (.int .u64 0), .pl (.int .i64 0), .pl (.int .i64 0)])⟩,
 ⟨some 9, none, .prim (.mov (.tmp 15))⟩,
 ⟨none, none, .prim (.store 7 (.tmp 10) (.tmp 17))⟩])
 (.seq (.ops [⟨some 18, none, .prim (.mov (.tmp 1))⟩,
 ⟨some 19, none, .prim (.mov (.tmp 9))⟩,
 ⟨some 20, none, .prim (.bin false .shr (.tmp 18) (.tmp 19))⟩,
 ⟨some 21, none, .prim (.bin false .and (.tmp 20) (.const (.int .u64 1)))⟩,
 ⟨some 22, none, .prim (.bin false .eql (.tmp 21) (.const (.int .u64 1)))⟩,
 ⟨some 23, none, .prim (.mov (.tmp 22))⟩,
 ⟨some 24, (some (23, true)), .prim (.fadr 0 (.tmp 10))⟩,
 ⟨some 25, (some (23, true)), .prim (.load 1 false (.tmp 24))⟩,
 ⟨some 26, (some (23, true)), .prim (.bin false .eql (.tmp 25) (.const (.int .i64 1)))⟩,
 ⟨some 27, none, .prim (.pick (.tmp 23) (.tmp 26) (.const (.bool false)))⟩,
 ⟨some 28, none, .prim (.mov (.tmp 27))⟩,
 ⟨some 29, (some (28, true)), .prim (.mov (.tmp 2))⟩,
 ⟨some 30, (some (28, true)), .prim (.bin false .quo (.tmp 29) (.const (.int .u8 64)))⟩,
 ⟨some 31, (some (28, true)), .prim (.fadr 1 (.tmp 10))⟩,
 ⟨some 32, (some (28, true)), .prim (.iadra 1 4 (.tmp 31) (.tmp 30))⟩,
 ⟨some 33, (some (28, true)), .prim (.load 1 false (.tmp 32))⟩,
 ⟨some 34, (some (28, true)), .prim (.mov (.tmp 2))⟩,
 ⟨some 35, (some (28, true)), .prim (.bin false .rem (.tmp 34) (.const (.int .u8 64)))⟩,
 ⟨some 36, (some (28, true)), .prim (.bin false .shr (.tmp 33) (.tmp 35))⟩,
 ⟨some 37, (some (28, true)), .prim (.bin false .and (.tmp 36) (.const (.int .u64 1)))⟩,
 ⟨some 38, (some (28, true)), .prim (.bin false .eql (.tmp 37) (.const (.int .u64 1)))⟩,
 ⟨some 39, none, .prim (.pick (.tmp 28) (.tmp 38) (.const (.bool false)))⟩])
 (.cond (.tmp 39)
 (.ops [⟨some 40, none, .prim (.mov (.tmp 8))⟩,
 ⟨some 41, none, .prim (.mov (.tmp 0))⟩,
 ⟨some 42, none, .prim (.mov (.tmp 9))⟩,
 ⟨some 43, none, .prim (.bin false .add (.tmp 42) (.const (.int .i64 1)))⟩,
 ⟨some 44, none, .call (.func 116) [(.tmp 41), (.tmp 43), (.tmp 7)]⟩,
 ⟨some 45, none, .prim (.bin false .or (.tmp 40) (.tmp 44))⟩,
 ⟨some 8, none, .prim (.mov (.tmp 45))⟩])
 .skip))))
 (.after (.after (.ops [⟨some 46, none, .prim (.bin false .add (.tmp 13) (.const (.int .i64 1)))⟩,
 ⟨some 13, none, .prim (.mov (.tmp 46))⟩]) (.clear [10, 24, 31, 32])) (.keep 1))))))))
 (.seq (.ops [⟨some 47, none, .prim (.mov (.tmp 8))⟩,
 ⟨some 6, none, .prim (.mov (.tmp 47))⟩])
 .ret))))
def o93 : List Tmp := [7, 10]
def r93 : List RV := [.tmp 6]
theorem t93 : Text Try.prog 93 o93 c93 r93 48 := ⟨⟨Try.f93, _, by kernel_rfl, by kernel_rfl, rfl, by kernel_rfl, by kernel_rfl, rfl⟩, by kernel_rfl⟩
def c94 : ACode :=
 (.seq (.ops [⟨some 2, none, .prim (.mov (.const (.bool false)))⟩])
 (.seq (.ops [⟨some 3, none, .prim (.mov (.tmp 0))⟩,
 ⟨some 4, none, .prim (.bin false .geq (.tmp 3) (.const (.int .u8 97)))⟩,
 ⟨some 5, none, .prim (.mov (.tmp 4))⟩,
 ⟨some 6, (some (5, true)), .prim (.mov (.tmp 0))⟩,
 ⟨some 7, (some (5, true)), .prim (.bin false .leq (.tmp 6) (.const (.int .u8 122)))⟩,
 ⟨some 8, none, .prim (.pick (.tmp 5) (.tmp 7) (.const (.bool false)))⟩,
 ⟨some 9, none, .prim (.mov (.tmp 8))⟩,
 ⟨some 10, (some (9, false)), .prim (.mov (.tmp 0))⟩,
 ⟨some 11, (some (9, false)), .prim (.bin false .geq (.tmp 10) (.const (.int .u8 65)))⟩,
 ⟨some 12, (some (9, false)), .prim (.mov (.tmp 11))⟩,
 ⟨some 13, (some (12, true)), .prim (.mov (.tmp 0))⟩,
 ⟨some 14, (some (12, true)), .prim (.bin false .leq (.tmp 13) (.const (.int .u8 90)))⟩,
 ⟨some 15, (some (9, false)), .prim (.pick (.tmp 12) (.tmp 14) (.const (.bool false)))⟩,
 ⟨some 16, none, .prim (.pick (.tmp 9) (.const (.bool true)) (.tmp 15))⟩,
 ⟨some 17, none, .prim (.mov (.tmp 16))⟩,
 ⟨some 18, (some (17, false)), .prim (.mov (.tmp 0))⟩,
 ⟨some 19, (some (17, false)), .prim (.bin false .eql (.tmp 18) (.const (.int .u8 95)))⟩,
 ⟨some 20, none, .prim (.pick (.tmp 17) (.const (.bool true)) (.tmp 19))⟩,
 ⟨some 2, none, .prim (.mov (.tmp 20))⟩])
 .ret))
def o94 : List Tmp := []
def r94 : List RV := [.tmp 2]
theorem t94 : Text Try.prog 94 o94 c94 r94 21 := ⟨⟨Try.f94, _, by kernel_rfl, by kernel_rfl, rfl, by kernel_rfl, by kernel_rfl, rfl⟩, by kernel_rfl⟩
def c95 : ACode :=
 (.seq (.ops [⟨some 4, none, .prim (.allocm [.pl (.int .i64 0), .pl (.int .u64 0), .pl (.int .u64 0), .pl (.int .u64 0), .pl (.int .u64 0), .nils])⟩])
 (.seq (.ops [⟨some 6, none, .prim (.mov (.tmp 0))⟩,
 ⟨some 7, none, .prim (.mov (.tmp 1))⟩,
 ⟨some 8, none, .call (.func 117) [(.tmp 6), (.tmp 7)]⟩,
 ⟨some 9, none, .prim (.bsl true 6 true 1 [.pl (.int .i64 0), .pl (.int .u64 0), .pl (.int .u64 0), .pl (.int .u64 0), .pl (.int .u64 0), .nils] [(0, 6, (.tmp 8))])⟩,
 ⟨some 5, none, .prim (.mov (.tmp 9))⟩])
 (.seq (.block 0 (.loop [2, 3, 6, 7, 8, 9, 10, 11, 12, 13, 14, 15, 16, 17, 18, 19, 20, 21, 22, 23, 24, 25] (.seq (.seq (.ops [⟨some 10, none, .prim (.mov (.tmp 0))⟩,
 ⟨some 11, none, .call (.func 118) [(.tmp 10), (.const (.int .u8 124))]⟩])
 (.cond (.tmp 11)
 .skip
 (.exit 0)))
 (.block 1 (.ops [⟨some 12, none, .prim (.mov (.tmp 5))⟩,
 ⟨some 13, none, .prim (.mov (.tmp 0))⟩,
 ⟨some 14, none, .prim (.mov (.tmp 1))⟩,
 ⟨some 15, none, .call (.func 117) [(.tmp 13), (.tmp 14)]⟩,
 ⟨some 16, none, .prim (.bsl false 6 true 1 [.pl (.int .i64 0), .pl (.int .u64 0), .pl (.int .u64 0), .pl (.int .u64 0), .pl (.int .u64 0), .nils] [(0, 6, (.tmp 15))])⟩,
 ⟨some 17, none, .prim (.app 6 (.tmp 12) (.tmp 16))⟩,
 ⟨some 5, none, .prim (.mov (.tmp 17))⟩])))))
 (.seq (.seq (.ops [⟨some 18, none, .prim (.mov (.tmp 5))⟩,
 ⟨some 19, none, .prim (.lenv (.tmp 18))⟩,
 ⟨some 20, none, .prim (.bin false .eql (.tmp 19) (.const (.int .i64 1)))⟩])
 (.cond (.tmp 20)
 (.seq (.ops [⟨some 21, none, .prim (.mov (.tmp 5))⟩,
 ⟨some 22, none, .prim (.iadrs 6 (.tmp 21) (.const (.int .i64 0)))⟩,
 ⟨some 23, none, .prim (.load 6 true (.tmp 22))⟩,
 ⟨none, none, .prim (.store 6 (.tmp 4) (.tmp 23))⟩])
 .ret)
 .skip))
 (.seq (.ghost (.shut 5) (.ops [⟨some 24, none, .prim (.mov (.tmp 5))⟩,
 ⟨some 25, none, .prim (.build [.pl (.int .i64 0), .pl (.int .u64 0), .pl (.int .u64 0), .pl (.int .u64 0), .pl (.int .u64 0), .nils] [(0, 1, (.const (.int .i64 3))), (5, 1, (.tmp 24))])⟩,
 ⟨none, none, .prim (.store 6 (.tmp 4) (.tmp 25))⟩]))
 .ret)))))
def o95 : List Tmp := [4, 9]
def r95 : List RV := [.cell 4 6 true]
theorem t95 : Text Try.prog 95 o95 c95 r95 26 := ⟨⟨Try.f95, _, by kernel_rfl, by kernel_rfl, rfl, by kernel_rfl, by kernel_rfl, rfl⟩, by kernel_rfl⟩
def c100 : ACode :=
 (.seq (.ops [⟨some 2, none, .prim (.mov (.const (.bool false)))⟩])
 (.seq (.seq (.ops [⟨some 4, none, .prim (.mov (.tmp 0))⟩,
 ⟨some 5, none, .prim (.lenv (.tmp 4))⟩,
 ⟨some 6, none, .prim (.bin false .lss (.tmp 5) (.const (.int .i64 1)))⟩,
 ⟨some 7, none, .prim (.mov (.tmp 6))⟩,
 ⟨some 8, (some (7, false)), .prim (.mov (.tmp 0))⟩,
 ⟨some 9, (some (7, false)), .prim (.lenv (.tmp 8))⟩,
 ⟨some 10, (some (7, false)), .prim (.bin false .gtr (.tmp 9) (.const (.int .i64 6)))⟩,
 ⟨some 11, none, .prim (.pick (.tmp 7) (.const (.bool true)) (.tmp 10))⟩])
 (.cond (.tmp 11)
 (.seq (.ops [⟨some 2, none, .prim (.mov (.const (.bool false)))⟩])
 .ret)
 .skip))
 (.seq (.seq (.ops [⟨some 3, none, .prim (.mov (.const (.int .i64 0)))⟩])
 (.block 0 (.loop [1, 2, 4, 5, 6, 7, 8, 9, 10, 11, 12, 13, 14, 15, 16, 17, 18, 19, 20, 21, 22, 23, 24, 25, 26, 27, 28, 29, 30, 31, 32, 33, 34, 35, 36, 37, 38, 39, 40, 41, 42, 43, 44, 45, 46, 47, 48, 49, 50, 51] (.seq (.seq (.ops [⟨some 12, none, .prim (.mov (.tmp 3))⟩,
 ⟨some 13, none, .prim (.mov (.tmp 0))⟩,
 ⟨some 14, none, .prim (.lenv (.tmp 13))⟩,
 ⟨some 15, none, .prim (.bin false .lss (.tmp 12) (.tmp 14))⟩])
 (.cond (.tmp 15)
 .skip
 (.exit 0)))
 (.seq (.block 1 (.seq (.draw [⟨⟨some 18, none, .prim (.mov (.tmp 0))⟩, [], false, 0, 0⟩,
 ⟨⟨some 19, none, .prim (.mov (.tmp 3))⟩, [], false, 0, 0⟩,
 ⟨⟨some 20, none, .prim (.iadrs 2 (.tmp 18) (.tmp 19))⟩, [0, 1], false, 0, 0⟩,
 ⟨⟨some 21, none, .prim (.fadr 0 (.tmp 20))⟩, [0, 1, 2], false, 0, 0⟩,
 ⟨⟨some 22, none, .prim (.load 1 false (.tmp 21))⟩, [0, 1, 2, 3], false, 0, 0⟩,
 ⟨⟨some 23, none, .call (.func 54) [(.tmp 22)]⟩, [0, 1, 2, 3, 4], true, 0, 0⟩,
 ⟨⟨some 24, none, .prim (.un .not (.tmp 23))⟩, [0, 1, 2, 3, 4, 5], false, 1, 1⟩,
 ⟨⟨some 25, none, .prim (.mov (.tmp 24))⟩, [0, 1, 2, 3, 4, 5, 6], false, 1, 1⟩,
 ⟨⟨some 26, (some (25, false)), .prim (.mov (.tmp 0))⟩, [0, 1, 2, 3, 4, 5, 6, 7], false, 1, 1⟩,
 ⟨⟨some 27, (some (25, false)), .prim (.mov (.tmp 3))⟩, [0, 1, 2, 3, 4, 5, 6, 7], false, 1, 1⟩,
 ⟨⟨some 28, (some (25, false)), .prim (.iadrs 2 (.tmp 26) (.tmp 27))⟩, [0, 1, 2, 3, 4, 5, 6, 7, 8, 9], false, 1, 1⟩,
 ⟨⟨some 29, (some (25, false)), .prim (.fadr 1 (.tmp 28))⟩, [0, 1, 2, 3, 4, 5, 6, 7, 8, 9, 10], false, 1, 1⟩,
 ⟨⟨some 30, (some (25, false)), .prim (.load 1 false (.tmp 29))⟩, [0, 1, 2, 3, 4, 5, 6, 7, 8, 9, 10, 11], false, 1, 1⟩,
 ⟨⟨some 31, (some (25, false)), .call (.func 122) [(.tmp 30)]⟩, [0, 1, 2, 3, 4, 5, 6, 7, 8, 9, 10, 11, 12], true, 0, 0⟩,
 ⟨⟨some 32, (some (25, false)), .prim (.un .not (.tmp 31))⟩, [0, 1, 2, 3, 4, 5, 6, 7, 8, 9, 10, 11, 12, 13], false, 2, 2⟩,
 ⟨⟨some 33, none, .prim (.pick (.tmp 25) (.const (.bool true)) (.tmp 32))⟩, [0, 1, 2, 3, 4, 5, 6, 7, 8, 9, 10, 11, 12, 13, 14], false, 2, 2⟩,
 ⟨⟨some 34, none, .prim (.mov (.tmp 33))⟩, [0, 1, 2, 3, 4, 5, 6, 7, 8, 9, 10, 11, 12, 13, 14, 15], false, 2, 2⟩,
 ⟨⟨some 35, (some (34, false)), .prim (.mov (.tmp 3))⟩, [0, 1, 2, 3, 4, 5, 6, 7, 8, 9, 10, 11, 12, 13, 14, 15, 16], false, 2, 2⟩,
 ⟨⟨some 36, (some (34, false)), .prim (.bin false .gtr (.tmp 35) (.const (.int .i64 0)))⟩, [0, 1, 2, 3, 4, 5, 6, 7, 8, 9, 10, 11, 12, 13, 14, 15, 16, 17], false, 2, 2⟩,
 ⟨⟨some 37, (some (34, false)), .prim (.mov (.tmp 36))⟩, [0, 1, 2, 3, 4, 5, 6, 7, 8, 9, 10, 11, 12, 13, 14, 15, 16, 17, 18], false, 2, 2⟩,
 ⟨⟨some 38, (some (37, true)), .prim (.mov (.tmp 0))⟩, [0, 1, 2, 3, 4, 5, 6, 7, 8, 9, 10, 11, 12, 13, 14, 15, 16, 17, 18, 19], false, 2, 2⟩,
 ⟨⟨some 39, (some (37, true)), .prim (.mov (.tmp 3))⟩, [0, 1, 2, 3, 4, 5, 6, 7, 8, 9, 10, 11, 12, 13, 14, 15, 16, 17, 18, 19], false, 2, 2⟩,
 ⟨⟨some 40, (some (37, true)), .prim (.iadrs 2 (.tmp 38) (.tmp 39))⟩, [0, 1, 2, 3, 4, 5, 6, 7, 8, 9, 10, 11, 12, 13, 14, 15, 16, 17, 18, 19, 20, 21], false, 2, 2⟩,
 ⟨⟨some 41, (some (37, true)), .prim (.fadr 0 (.tmp 40))⟩, [0, 1, 2, 3, 4, 5, 6, 7, 8, 9, 10, 11, 12, 13, 14, 15, 16, 17, 18, 19, 20, 21, 22], false, 2, 2⟩,
 ⟨⟨some 42, (some (37, true)), .prim (.load 1 false (.tmp 41))⟩, [0, 1, 2, 3, 4, 5, 6, 7, 8, 9, 10, 11, 12, 13, 14, 15, 16, 17, 18, 19, 20, 21, 22, 23], false, 2, 2⟩,
 ⟨⟨some 43, (some (37, true)), .prim (.mov (.tmp 0))⟩, [0, 1, 2, 3, 4, 5, 6, 7, 8, 9, 10, 11, 12, 13, 14, 15, 16, 17, 18, 19], false, 2, 2⟩,
 ⟨⟨some 44, (some (37, true)), .prim (.mov (.tmp 3))⟩, [0, 1, 2, 3, 4, 5, 6, 7, 8, 9, 10, 11, 12, 13, 14, 15, 16, 17, 18, 19], false, 2, 2⟩,
 ⟨⟨some 45, (some (37, true)), .prim (.bin false .sub (.tmp 44) (.const (.int .i64 1)))⟩, [0, 1, 2, 3, 4, 5, 6, 7, 8, 9, 10, 11, 12, 13, 14, 15, 16, 17, 18, 19, 26], false, 2, 2⟩,
 ⟨⟨some 46, (some (37, true)), .prim (.iadrs 2 (.tmp 43) (.tmp 45))⟩, [0, 1, 2, 3, 4, 5, 6, 7, 8, 9, 10, 11, 12, 13, 14, 15, 16, 17, 18, 19, 25, 26, 27], false, 2, 2⟩,
 ⟨⟨some 47, (some (37, true)), .prim (.fadr 0 (.tmp 46))⟩, [0, 1, 2, 3, 4, 5, 6, 7, 8, 9, 10, 11, 12, 13, 14, 15, 16, 17, 18, 19, 25, 26, 27, 28], false, 2, 2⟩,
 ⟨⟨some 48, (some (37, true)), .prim (.load 1 false (.tmp 47))⟩, [0, 1, 2, 3, 4, 5, 6, 7, 8, 9, 10, 11, 12, 13, 14, 15, 16, 17, 18, 19, 25, 26, 27, 28, 29], false, 2, 2⟩,
 ⟨⟨some 49, (some (37, true)), .prim (.bin false .leq (.tmp 42) (.tmp 48))⟩, [0, 1, 2, 3, 4, 5, 6, 7, 8, 9, 10, 11, 12, 13, 14, 15, 16, 17, 18, 19, 20, 21, 22, 23, 24, 25, 26, 27, 28, 29, 30], false, 2, 2⟩,
 ⟨⟨some 50, (some (34, false)), .prim (.pick (.tmp 37) (.tmp 49) (.const (.bool false)))⟩, [0, 1, 2, 3, 4, 5, 6, 7, 8, 9, 10, 11, 12, 13, 14, 15, 16, 17, 18, 19, 20, 21, 22, 23, 24, 25, 26, 27, 28, 29, 30, 31], false, 2, 2⟩,
 ⟨⟨some 51, none, .prim (.pick (.tmp 34) (.const (.bool true)) (.tmp 50))⟩, [0, 1, 2, 3, 4, 5, 6, 7, 8, 9, 10, 11, 12, 13, 14, 15, 16, 17, 18, 19, 20, 21, 22, 23, 24, 25, 26, 27, 28, 29, 30, 31, 32], false, 2, 2⟩])
 (.cond (.tmp 51)
 (.seq (.ops [⟨some 2, none, .prim (.mov (.const (.bool false)))⟩])
 .ret)
 .skip)))
 (.ops [⟨some 16, none, .prim (.mov (.tmp 3))⟩,
 ⟨some 17, none, .prim (.bin false .add (.tmp 16) (.const (.int .i64 1)))⟩,
 ⟨some 3, none, .prim (.mov (.tmp 17))⟩]))))))
 (.seq (.ops [⟨some 2, none, .prim (.mov (.const (.bool true)))⟩])
 .ret))))
def o100 : List Tmp := []
def r100 : List RV := [.tmp 2]
theorem t100 : Text Try.prog 100 o100 c100 r100 52 := ⟨⟨Try.f100, _, by kernel_rfl, by kernel_rfl, rfl, by kernel_rfl, by kernel_rfl, rfl⟩, by kernel_rfl⟩
def c101 : ACode :=
 (.seq (.ops [⟨some 2, none, .prim (.mov (.const (.int .i64 0)))⟩])
 (.seq (.ops [⟨some 3, none, .prim (.mov (.const (.int .i64 0)))⟩])
 (.seq (.seq (.ops [⟨some 6, none, .prim (.mov (.tmp 0))⟩,
 ⟨some 7, none, .prim (.lenv (.tmp 6))⟩,
 ⟨some 8, none, .prim (.mov (.const (.int .i64 0)))⟩])
 (.block 0 (.loop [0, 1, 2, 4, 5, 9, 10, 11, 12, 13, 14, 15, 16, 17] (.seq (.ops [⟨some 9, none, .prim (.bin false .lss (.tmp 8) (.tmp 7))⟩])
 (.seq (.cond (.tmp 9)
 .skip
 (.exit 0))
 (.seq (.block 1 (.seq (.ops [⟨some 10, none, .prim (.iadrs 1 (.tmp 6) (.tmp 8))⟩,
 ⟨some 11, none, .prim (.load 1 false (.tmp 10))⟩,
 ⟨some 5, none, .prim (.mov (.tmp 11))⟩])
 (.seq (.ops [⟨some 12, none, .prim (.mov (.tmp 5))⟩,
 ⟨some 13, none, .prim (.mov (.tmp 3))⟩,
 ⟨some 14, none, .prim (.bin false .neq (.tmp 12) (.tmp 13))⟩])
 (.cond (.tmp 14)
 (.seq (.ops [⟨some 15, none, .prim (.mov (.tmp 5))⟩,
 ⟨some 2, none, .prim (.mov (.tmp 15))⟩])
 .ret)
 .skip))))
 (.ops [⟨some 16, none, .prim (.bin false .add (.tmp 8) (.const (.int .i64 1)))⟩,
 ⟨some 8, none, .prim (.mov (.tmp 16))⟩])))))))
 (.seq (.ops [⟨some 17, none, .prim (.mov (.tmp 3))⟩,
 ⟨some 2, none, .prim (.mov (.tmp 17))⟩])
 .ret))))
def o101 : List Tmp := []
def r101 : List RV := [.tmp 2]
theorem t101 : Text Try.prog 101 o101 c101 r101 18 := ⟨⟨Try.f101, _, by kernel_rfl, by kernel_rfl, rfl, by kernel_rfl, by kernel_rfl, rfl⟩, by kernel_rfl⟩
def c102 : ACode :=
 (.seq (.ops [⟨some 4, none, .prim (.mov (.const (.int .i64 0)))⟩])
 (.seq (.ops [⟨some 5, none, .prim (.mov (.tmp 0))⟩,
 ⟨some 6, none, .prim (.mov (.tmp 1))⟩,
 ⟨some 7, none, .call (.func 123) [(.tmp 5), (.tmp 6)]⟩,
 ⟨some 4, none, .prim (.mov (.tmp 7))⟩])
 .ret))
def o102 : List Tmp := []
def r102 : List RV := [.tmp 4]
theorem t102 : Text Try.prog 102 o102 c102 r102 8 := ⟨⟨Try.f102, _, by kernel_rfl, by kernel_rfl, rfl, by kernel_rfl, by kernel_rfl, rfl⟩, by kernel_rfl⟩
def c103 : ACode :=
 (.seq (.ops [⟨some 4, none, .prim (.mov (.const (.int .i64 0)))⟩])
 (.seq (.ops [⟨some 7, none, .prim (.mov (.tmp 0))⟩,
 ⟨some 8, none, .call (.func 124) [(.tmp 7)]⟩,
 ⟨some 5, none, .prim (.mov (.tmp 8))⟩])
 (.seq (.ops [⟨some 9, none, .prim (.mov (.tmp 1))⟩,
 ⟨some 10, none, .call (.func 124) [(.tmp 9)]⟩,
 ⟨some 6, none, .prim (.mov (.tmp 10))⟩])
 (.seq (.seq (.ops [⟨some 11, none, .prim (.mov (.tmp 5))⟩])
 (.cond (.tmp 11)
 (.seq (.seq (.ops [⟨some 12, none, .prim (.mov (.tmp 6))⟩])
 (.cond (.tmp 12)
 (.seq (.ops [⟨some 4, none, .prim (.mov (.const (.int .i64 0)))⟩])
 .ret)
 .skip))
 (.seq (.ops [⟨some 4, none, .prim (.mov (.const (.int .i64 (-1))))⟩])
 .ret))
 .skip))
 (.seq (.seq (.ops [⟨some 13, none, .prim (.mov (.tmp 6))⟩])
 (.cond (.tmp 13)
 (.seq (.ops [⟨some 4, none, .prim (.mov (.const (.int .i64 1)))⟩])
 .ret)
 .skip))
 (.seq (.seq (.ops [⟨some 14, none, .prim (.mov (.tmp 0))⟩,
 ⟨some 15, none, .prim (.mov (.tmp 1))⟩,
 ⟨some 16, none, .prim (.bin false .lss (.tmp 14) (.tmp 15))⟩])
 (.cond (.tmp 16)
 (.seq (.ops [⟨some 4, none, .prim (.mov (.const (.int .i64 (-1))))⟩])
 .ret)
 .skip))
 (.seq (.seq (.ops [⟨some 17, none, .prim (.mov (.tmp 0))⟩,
 ⟨some 18, none, .prim (.mov (.tmp 1))⟩,
 ⟨some 19, none, .prim (.bin false .gtr (.tmp 17) (.tmp 18))⟩])
 (.cond (.tmp 19)
 (.seq (.ops [⟨some 4, none, .prim (.mov (.const (.int .i64 1)))⟩])
 .ret)
 .skip))
 (.seq (.ops [⟨some 4, none, .prim (.mov (.const (.int .i64 0)))⟩])
 .ret))))))))
def o103 : List Tmp := []
def r103 : List RV := [.tmp 4]
theorem t103 : Text Try.prog 103 o103 c103 r103 20 := ⟨⟨Try.f103, _, by kernel_rfl, by kernel_rfl, rfl, by kernel_rfl, by kernel_rfl, rfl⟩, by kernel_rfl⟩
def c104 : ACode :=
 (.seq (.ops [⟨some 4, none, .prim (.mov (.const (.int .i64 0)))⟩])
 (.seq (.seq (.ops [⟨some 6, none, .prim (.mov (.tmp 0))⟩,
 ⟨some 7, none, .prim (.lenv (.tmp 6))⟩,
 ⟨some 8, none, .prim (.mov (.const (.int .i64 0)))⟩])
 (.block 0 (.loop [2, 3, 4, 5, 6, 9, 10, 11, 12, 13, 14, 15, 16, 17, 18] (.seq (.ops [⟨some 9, none, .prim (.bin false .lss (.tmp 8) (.tmp 7))⟩])
 (.seq (.cond (.tmp 9)
 .skip
 (.exit 0))
 (.seq (.block 1 (.seq (.ops [⟨some 10, none, .prim (.mov (.tmp 8))⟩,
 ⟨some 5, none, .prim (.mov (.tmp 10))⟩])
 (.seq (.ops [⟨some 11, none, .prim (.mov (.tmp 1))⟩,
 ⟨some 12, none, .prim (.mov (.tmp 0))⟩,
 ⟨some 13, none, .prim (.mov (.tmp 5))⟩,
 ⟨some 14, none, .prim (.iadrs 3 (.tmp 12) (.tmp 13))⟩,
 ⟨some 15, none, .prim (.load 3 true (.tmp 14))⟩,
 ⟨some 16, none, .call (.tmp 11) [(.tmp 15)]⟩])
 (.cond (.tmp 16)
 (.seq (.ops [⟨some 17, none, .prim (.mov (.tmp 5))⟩,
 ⟨some 4, none, .prim (.mov (.tmp 17))⟩])
 .ret)
 .skip))))
 (.ops [⟨some 18, none, .prim (.bin false .add (.tmp 8) (.const (.int .i64 1)))⟩,
 ⟨some 8, none, .prim (.mov (.tmp 18))⟩])))))))
 (.seq (.ops [⟨some 4, none, .prim (.mov (.const (.int .i64 (-1))))⟩])
 .ret)))
def o104 : List Tmp := []
def r104 : List RV := [.tmp 4]
theorem t104 : Text Try.prog 104 o104 c104 r104 19 := ⟨⟨Try.f104, _, by kernel_rfl, by kernel_rfl, rfl, by kernel_rfl, by kernel_rfl, rfl⟩, by kernel_rfl⟩
def c111 : ACode :=
 (.seq (.ops [⟨some 1, none, .prim (.boxr (.tmp 0))⟩,
 ⟨some 2, none, .prim (.mov (.const (.int .i64 0)))⟩])
 (.seq (.seq (.ops [⟨some 3, none, .prim (.load 6 true (.tmp 1))⟩,
 ⟨some 4, none, .call (.func 127) [(.tmp 3)]⟩,
 ⟨some 5, none, .prim (.un .not (.tmp 4))⟩])
 (.cond (.tmp 5)
 (.seq (.ops [⟨some 2, none, .prim (.mov (.const (.int .i64 0)))⟩])
 .ret)
 .skip))
 (.seq (.ops [⟨some 6, none, .prim (.load 6 true (.tmp 1))⟩,
 ⟨some 7, none, .call (.func 128) [(.tmp 6)]⟩,
 ⟨some 8, none, .prim (.bin false .add (.tmp 7) (.const (.int .i64 1)))⟩,
 ⟨some 2, none, .prim (.mov (.tmp 8))⟩])
 .ret)))
def o111 : List Tmp := []
def r111 : List RV := [.tmp 2]
theorem t111 : Text Try.prog 111 o111 c111 r111 9 := ⟨⟨Try.f111, _, by kernel_rfl, by kernel_rfl, rfl, by kernel_rfl, by kernel_rfl, rfl⟩, by kernel_rfl⟩
def c112 : ACode :=
 (.seq (.ops [⟨some 3, none, .prim (.boxr (.tmp 1))⟩,
 ⟨some 4, none, .prim (.mov (.const (.slice none 0 0)))⟩])
 (.seq (.ops [⟨some 8, none, .prim (.mov (.tmp 0))⟩,
 ⟨some 9, none, .prim (.lenv (.tmp 8))⟩,
 ⟨some 5, none, .prim (.mov (.tmp 9))⟩])
 (.seq (.seq (.ops [⟨some 10, none, .prim (.fadr 0 (.tmp 3))⟩,
 ⟨some 11, none, .prim (.load 1 false (.tmp 10))⟩])
 (.block 0 (.seq (.ops [⟨some 13, none, .prim (.bin false .eql (.tmp 11) (.const (.int .i64 1)))⟩,
 ⟨some 12, none, .prim (.mov (.tmp 13))⟩])
 (.cond (.tmp 12)
 (.seq (.ops [⟨some 14, none, .prim (.mov (.tmp 0))⟩,
 ⟨some 15, none, .prim (.fadr 1 (.tmp 3))⟩,
 ⟨some 16, none, .prim (.load 4 true (.tmp 15))⟩,
 ⟨some 17, none, .prim (.build [.pl (.int .i64 0), .pl (.int .u64 0), .pl (.int .u64 0), .pl (.int .u64 0), .pl (.int .u64 0), .pl (.int .i64 0), .pl (.int .i64 0)] [(0, 1, (.const (.int .i64 1))), (1, 4, (.tmp 16))])⟩,
 ⟨some 18, none, .prim (.bsl false 7 true 1 [.pl (.int .i64 0), .pl (.int .u64 0), .pl (.int .u64 0), .pl (.int .u64 0), .pl (.int .u64 0), .pl (.int .i64 0), .pl (.int .i64 0)] [(0, 7, (.tmp 17))])⟩,
 ⟨some 19, none, .prim (.app 7 (.tmp 14) (.tmp 18))⟩,
 ⟨some 4, none, .prim (.mov (.tmp 19))⟩])
 .ret)
 (.seq (.ops [⟨some 21, none, .prim (.bin false .eql (.tmp 11) (.const (.int .i64 2)))⟩,
 ⟨some 20, none, .prim (.mov (.tmp 21))⟩])
 (.cond (.tmp 20)
 (.seq (.ops [⟨some 22, none, .prim (.fadr 5 (.tmp 3))⟩,
 ⟨some 23, none, .prim (.load 1 false (.tmp 22))⟩,
 ⟨some 24, none, .prim (.lenv (.tmp 23))⟩,
 ⟨some 25, none, .prim (.mov (.const (.int .i64 0)))⟩])
 (.block 1 (.loop [1, 2, 3, 4, 5, 6, 7, 8, 9, 10, 11, 12, 13, 14, 15, 16, 17, 18, 19, 20, 21, 22, 26, 27, 28, 29, 30, 31, 32, 33, 34, 35, 36, 37, 38, 39, 40, 41, 42, 43, 44, 45, 46, 47, 48, 49, 50, 51, 52, 53, 54, 55, 56, 57, 58, 59, 60, 61, 62, 63, 64, 65, 66, 67, 68, 69, 70, 71, 72, 73, 74, 75, 76, 77, 78, 79, 80, 81, 82, 83, 84, 85, 86, 87, 88, 89, 90, 91, 92, 93, 94, 95, 96, 97, 98] (.seq (.ops [⟨some 26, none, .prim (.bin false .lss (.tmp 25) (.tmp 24))⟩])
 (.seq (.cond (.tmp 26)
 .skip
 (.exit 1))
 (.seq (.block 2 (.seq (.ops [⟨some 27, none, .prim (.iadrs 6 (.tmp 23) (.tmp 25))⟩,
 ⟨some 28, none, .prim (.load 6 true (.tmp 27))⟩,
 ⟨some 7, none, .fresh 6 7 (.tmp 28)⟩])
 (.ops [⟨some 29, none, .prim (.mov (.tmp 0))⟩,
 ⟨some 30, none, .prim (.load 6 true (.tmp 7))⟩,
 ⟨some 31, none, .call (.func 112) [(.tmp 29), (.tmp 30)]⟩,
 ⟨some 0, none, .prim (.mov (.tmp 31))⟩])))
 (.ops [⟨some 32, none, .prim (.bin false .add (.tmp 25) (.const (.int .i64 1)))⟩,
 ⟨some 25, none, .prim (.mov (.tmp 32))⟩])))))))
 (.seq (.ops [⟨some 34, none, .prim (.bin false .eql (.tmp 11) (.const (.int .i64 3)))⟩,
 ⟨some 33, none, .prim (.mov (.tmp 34))⟩])
 (.cond (.tmp 33)
 (.seq (.ops [⟨some 35, none, .prim (.mov (.tmp 0))⟩,
 ⟨some 36, none, .prim (.fadr 5 (.tmp 3))⟩,
 ⟨some 37, none, .prim (.load 1 false (.tmp 36))⟩,
 ⟨some 38, none, .call (.func 129) [(.tmp 35), (.tmp 37)]⟩,
 ⟨some 4, none, .prim (.mov (.tmp 38))⟩])
 .ret)
 (.seq (.ops [⟨some 40, none, .prim (.bin false .eql (.tmp 11) (.const (.int .i64 4)))⟩,
 ⟨some 39, none, .prim (.mov (.tmp 40))⟩])
 (.cond (.tmp 39)
 (.seq (.draw [⟨⟨some 41, none, .prim (.mov (.tmp 0))⟩, [], false, 0, 0⟩,
 ⟨⟨some 42, none, .prim (.mov (.tmp 5))⟩, [], false, 0, 0⟩,
 ⟨⟨some 43, none, .prim (.bin false .add (.tmp 42) (.const (.int .i64 1)))⟩, [1], false, 0, 0⟩,
 ⟨⟨some 44, none, .prim (.build [.pl (.int .i64 0), .pl (.int .u64 0), .pl (.int .u64 0), .pl (.int .u64 0), .pl (.int .u64 0), .pl (.int .i64 0), .pl (.int .i64 0)] [(0, 1, (.const (.int .i64 2))), (5, 1, (.tmp 43))])⟩, [1, 2], false, 0, 0⟩,
 ⟨⟨some 45, none, .prim (.bsl false 7 true 1 [.pl (.int .i64 0), .pl (.int .u64 0), .pl (.int .u64 0), .pl (.int .u64 0), .pl (.int .u64 0), .pl (.int .i64 0), .pl (.int .i64 0)] [(0, 7, (.tmp 44))])⟩, [1, 2, 3], false, 0, 0⟩,
 ⟨⟨some 46, none, .prim (.app 7 (.tmp 41) (.tmp 45))⟩, [0, 1, 2, 3, 4], true, 0, 0⟩,
 ⟨⟨some 47, none, .prim (.fadr 5 (.tmp 3))⟩, [], false, 0, 1⟩,
 ⟨⟨some 48, none, .prim (.load 1 false (.tmp 47))⟩, [6], false, 0, 1⟩,
 ⟨⟨some 49, none, .prim (.iadrs 6 (.tmp 48) (.const (.int .i64 0)))⟩, [6, 7], false, 0, 1⟩,
 ⟨⟨some 50, none, .prim (.load 6 true (.tmp 49))⟩, [6, 7, 8], false, 0, 1⟩,
 ⟨⟨some 51, none, .call (.func 112) [(.tmp 46), (.tmp 50)]⟩, [0, 1, 2, 3, 4, 5, 6, 7, 8, 9], true, 0, 0⟩,
 ⟨⟨some 0, none, .prim (.mov (.tmp 51))⟩, [0, 1, 2, 3, 4, 5, 6, 7, 8, 9, 10], false, 2, 2⟩])
 (.seq (.ops [⟨some 52, none, .prim (.mov (.tmp 0))⟩,
 ⟨some 53, none, .prim (.mov (.tmp 5))⟩,
 ⟨some 54, none, .prim (.build [.pl (.int .i64 0), .pl (.int .u64 0), .pl (.int .u64 0), .pl (.int .u64 0), .pl (.int .u64 0), .pl (.int .i64 0), .pl (.int .i64 0)] [(0, 1, (.const (.int .i64 3))), (5, 1, (.tmp 53))])⟩,
 ⟨some 55, none, .prim (.bsl false 7 true 1 [.pl (.int .i64 0), .pl (.int .u64 0), .pl (.int .u64 0), .pl (.int .u64 0), .pl (.int .u64 0), .pl (.int .i64 0), .pl (.int .i64 0)] [(0, 7, (.tmp 54))])⟩,
 ⟨some 56, none, .prim (.app 7 (.tmp 52) (.tmp 55))⟩,
 ⟨some 0, none, .prim (.mov (.tmp 56))⟩])
 (.ops [⟨some 57, none, .prim (.mov (.tmp 0))⟩,
 ⟨some 58, none, .prim (.mov (.tmp 5))⟩,
 ⟨some 59, none, .prim (.mov (.tmp 0))⟩,
 ⟨some 60, none, .prim (.lenv (.tmp 59))⟩,
 ⟨some 61, none, .prim (.iadrs 7 (.tmp 57) (.tmp 58))⟩,
 ⟨some 62, none, .prim (.fadr 6 (.tmp 61))⟩,
 ⟨none, none, .prim (.store 1 (.tmp 62) (.tmp 60))⟩])))
 (.seq (.ops [⟨some 64, none, .prim (.bin false .eql (.tmp 11) (.const (.int .i64 5)))⟩,
 ⟨some 63, none, .prim (.mov (.tmp 64))⟩])
 (.cond (.tmp 63)
 (.seq (.ops [⟨some 65, none, .prim (.mov (.tmp 0))⟩,
 ⟨some 66, none, .prim (.fadr 5 (.tmp 3))⟩,
 ⟨some 67, none, .prim (.load 1 false (.tmp 66))⟩,
 ⟨some 68, none, .prim (.iadrs 6 (.tmp 67) (.const (.int .i64 0)))⟩,
 ⟨some 69, none, .prim (.load 6 true (.tmp 68))⟩,
 ⟨some 70, none, .call (.func 112) [(.tmp 65), (.tmp 69)]⟩,
 ⟨some 0, none, .prim (.mov (.tmp 70))⟩])
 (.ops [⟨some 71, none, .prim (.mov (.tmp 0))⟩,
 ⟨some 72, none, .prim (.mov (.tmp 5))⟩,
 ⟨some 73, none, .prim (.mov (.tmp 0))⟩,
 ⟨some 74, none, .prim (.lenv (.tmp 73))⟩,
 ⟨some 75, none, .prim (.bin false .add (.tmp 74) (.const (.int .i64 1)))⟩,
 ⟨some 76, none, .prim (.build [.pl (.int .i64 0), .pl (.int .u64 0), .pl (.int .u64 0), .pl (.int .u64 0), .pl (.int .u64 0), .pl (.int .i64 0), .pl (.int .i64 0)] [(0, 1, (.const (.int .i64 2))), (5, 1, (.tmp 72)), (6, 1, (.tmp 75))])⟩,
 ⟨some 77, none, .prim (.bsl false 7 true 1 [.pl (.int .i64 0), .pl (.int .u64 0), .pl (.int .u64 0), .pl (.int .u64 0), .pl (.int .u64 0), .pl (.int .i64 0), .pl (.int .i64 0)] [(0, 7, (.tmp 76))])⟩,
 ⟨some 78, none, .prim (.app 7 (.tmp 71) (.tmp 77))⟩,
 ⟨some 0, none, .prim (.mov (.tmp 78))⟩]))
 (.seq (.ops [⟨some 80, none, .prim (.bin false .eql (.tmp 11) (.const (.int .i64 6)))⟩,
 ⟨some 79, none, .prim (.mov (.tmp 80))⟩])
 (.cond (.tmp 79)
 (.seq (.draw [⟨⟨some 81, none, .prim (.mov (.tmp 0))⟩, [], false, 0, 0⟩,
 ⟨⟨some 82, none, .prim (.mov (.tmp 5))⟩, [], false, 0, 0⟩,
 ⟨⟨some 83, none, .prim (.bin false .add (.tmp 82) (.const (.int .i64 1)))⟩, [1], false, 0, 0⟩,
 ⟨⟨some 84, none, .prim (.build [.pl (.int .i64 0), .pl (.int .u64 0), .pl (.int .u64 0), .pl (.int .u64 0), .pl (.int .u64 0), .pl (.int .i64 0), .pl (.int .i64 0)] [(0, 1, (.const (.int .i64 2))), (5, 1, (.tmp 83))])⟩, [1, 2], false, 0, 0⟩,
 ⟨⟨some 85, none, .prim (.bsl false 7 true 1 [.pl (.int .i64 0), .pl (.int .u64 0), .pl (.int .u64 0), .pl (.int .u64 0), .pl (.int .u64 0), .pl (.int .i64 0), .pl (.int .i64 0)] [(0, 7, (.tmp 84))])⟩, [1, 2, 3], false, 0, 0⟩,
 ⟨⟨some 86, none, .prim (.app 7 (.tmp 81) (.tmp 85))⟩, [0, 1, 2, 3, 4], true, 0, 0⟩,
 ⟨⟨some 87, none, .prim (.fadr 5 (.tmp 3))⟩, [], false, 0, 1⟩,
 ⟨⟨some 88, none, .prim (.load 1 false (.tmp 87))⟩, [6], false, 0, 1⟩,
 ⟨⟨some 89, none, .prim (.iadrs 6 (.tmp 88) (.const (.int .i64 0)))⟩, [6, 7], false, 0, 1⟩,
 ⟨⟨some 90, none, .prim (.load 6 true (.tmp 89))⟩, [6, 7, 8], false, 0, 1⟩,
 ⟨⟨some 91, none, .call (.func 112) [(.tmp 86), (.tmp 90)]⟩, [0, 1, 2, 3, 4, 5, 6, 7, 8, 9], true, 0, 0⟩,
 ⟨⟨some 0, none, .prim (.mov (.tmp 91))⟩, [0, 1, 2, 3, 4, 5, 6, 7, 8, 9, 10], false, 2, 2⟩])
 (.ops [⟨some 92, none, .prim (.mov (.tmp 0))⟩,
 ⟨some 93, none, .prim (.mov (.tmp 5))⟩,
 ⟨some 94, none, .prim (.mov (.tmp 0))⟩,
 ⟨some 95, none, .prim (.lenv (.tmp 94))⟩,
 ⟨some 96, none, .prim (.iadrs 7 (.tmp 92) (.tmp 93))⟩,
 ⟨some 97, none, .prim (.fadr 6 (.tmp 96))⟩,
 ⟨none, none, .prim (.store 1 (.tmp 97) (.tmp 95))⟩]))
 .skip))))))))))))))
 (.seq (.ops [⟨some 98, none, .prim (.mov (.tmp 0))⟩,
 ⟨some 4, none, .prim (.mov (.tmp 98))⟩])
 .ret))))
def o112 : List Tmp := []
def r112 : List RV := [.tmp 4]
theorem t112 : Text Try.prog 112 o112 c112 r112 99 := ⟨⟨Try.f112, _, by kernel_rfl, by kernel_rfl, rfl, by kernel_rfl, by kernel_rfl, rfl⟩, by kernel_rfl⟩
def c113 : ACode :=
 (.seq (.ops [⟨some 4, none, .prim (.mov (.const (.bool false)))⟩])
 (.seq (.ops [⟨some 5, none, .prim (.mov (.tmp 0))⟩,
 ⟨some 6, none, .prim (.mov (.tmp 1))⟩,
 ⟨some 7, none, .call (.func 130) [(.tmp 5), (.tmp 6)]⟩,
 ⟨some 8, none, .prim (.bin false .geq (.tmp 7) (.const (.int .i64 0)))⟩,
 ⟨some 4, none, .prim (.mov (.tmp 8))⟩])
 .ret))
def o113 : List Tmp := []
def r113 : List RV := [.tmp 4]
theorem t113 : Text Try.prog 113 o113 c113 r113 9 := ⟨⟨Try.f113, _, by kernel_rfl, by kernel_rfl, rfl, by kernel_rfl, by kernel_rfl, rfl⟩, by kernel_rfl⟩
def c114 : ACode :=
 (.seq (.ops [⟨some 2, none, .prim (.boxr (.tmp 0))⟩,
 ⟨some 3, none, .prim (.mov (.const (.bool false)))⟩])
 (.seq (.ops [⟨some 4, none, .prim (.load 7 true (.tmp 2))⟩,
 ⟨some 5, none, .prim (.load 1 false (.tmp 1))⟩,
 ⟨some 6, none, .prim (.lenv (.tmp 5))⟩,
 ⟨some 7, none, .call (.func 115) [(.tmp 4), (.tmp 6), (.const (.bool false))]⟩,
 ⟨some 8, none, .prim (.un .not (.tmp 7))⟩,
 ⟨some 3, none, .prim (.mov (.tmp 8))⟩])
 .ret))
def o114 : List Tmp := []
def r114 : List RV := [.tmp 3]
theorem t114 : Text Try.prog 114 o114 c114 r114 9 := ⟨⟨Try.f114, _, by kernel_rfl, by kernel_rfl, rfl, by kernel_rfl, by kernel_rfl, rfl⟩, by kernel_rfl⟩
def c115 : ACode :=
 (.seq (.ops [⟨some 3, none, .prim (.boxr (.tmp 0))⟩,
 ⟨some 4, none, .prim (.boxr (.tmp 1))⟩,
 ⟨some 6, none, .prim (.mov (.const (.bool false)))⟩])
 (.seq (.ops [⟨some 8, none, .prim (.mkfn 131 [] [(.tmp 4)])⟩,
 ⟨some 7, none, .prim (.mov (.tmp 8))⟩])
 (.seq (.seq (.ops [⟨some 9, none, .prim (.fadr 0 (.tmp 3))⟩,
 ⟨some 10, none, .prim (.load 1 false (.tmp 9))⟩,
 ⟨some 11, none, .prim (.bin false .neq (.tmp 10) (.const (.int .i64 1)))⟩,
 ⟨some 12, none, .prim (.mov (.tmp 11))⟩,
 ⟨some 13, (some (12, true)), .prim (.fadr 1 (.tmp 3))⟩,
 ⟨some 14, (some (12, true)), .prim (.load 4 true (.tmp 13))⟩,
 ⟨some 15, (some (12, true)), .prim (.build [.pl (.int .u64 0), .pl (.int .u64 0), .pl (.int .u64 0), .pl (.int .u64 0)] [])⟩,
 ⟨some 16, (some (12, true)), .prim (.eqa true [.int, .int, .int, .int] (.tmp 14) (.tmp 15))⟩,
 ⟨some 17, none, .prim (.pick (.tmp 12) (.tmp 16) (.const (.bool false)))⟩])
 (.cond (.tmp 17)
 (.seq (.ops [⟨some 6, none, .prim (.mov (.const (.bool false)))⟩])
 .ret)
 .skip))
 (.seq (.seq (.ops [⟨some 18, none, .prim (.fadr 0 (.tmp 3))⟩,
 ⟨some 19, none, .prim (.load 1 false (.tmp 18))⟩])
 (.block 0 (.seq (.ops [⟨some 21, none, .prim (.bin false .eql (.tmp 19) (.const (.int .i64 1)))⟩,
 ⟨some 20, none, .prim (.mov (.tmp 21))⟩])
 (.cond (.tmp 20)
 (.seq (.ops [⟨some 22, none, .prim (.fadr 5 (.tmp 3))⟩,
 ⟨some 23, none, .prim (.load 1 false (.tmp 22))⟩,
 ⟨some 24, none, .prim (.bin false .eql (.tmp 23) (.const (.int .i64 0)))⟩,
 ⟨some 25, none, .prim (.mov (.tmp 24))⟩,
 ⟨some 26, (some (25, true)), .prim (.fadr 6 (.tmp 3))⟩,
 ⟨some 27, (some (25, true)), .prim (.load 1 false (.tmp 26))⟩,
 ⟨some 28, (some (25, true)), .prim (.bin false .eql (.tmp 27) (.const (.int .i64 0)))⟩,
 ⟨some 29, none, .prim (.pick (.tmp 25) (.tmp 28) (.const (.bool false)))⟩,
 ⟨some 30, none, .prim (.mov (.tmp 29))⟩,
 ⟨some 31, (some (30, true)), .prim (.mov (.tmp 2))⟩,
 ⟨some 32, (some (30, true)), .prim (.un .not (.tmp 31))⟩,
 ⟨some 33, none, .prim (.pick (.tmp 30) (.tmp 32) (.const (.bool false)))⟩,
 ⟨some 6, none, .prim (.mov (.tmp 33))⟩])
 .ret)
 (.seq (.ops [⟨some 35, none, .prim (.bin false .eql (.tmp 19) (.const (.int .i64 2)))⟩,
 ⟨some 34, none, .prim (.mov (.tmp 35))⟩])
 (.cond (.tmp 34)
 (.seq (.ops [⟨some 36, none, .prim (.mov (.tmp 7))⟩,
 ⟨some 37, none, .prim (.fadr 5 (.tmp 3))⟩,
 ⟨some 38, none, .prim (.load 1 false (.tmp 37))⟩,
 ⟨some 39, none, .call (.tmp 36) [(.tmp 38)]⟩,
 ⟨some 40, none, .prim (.mov (.tmp 39))⟩,
 ⟨some 41, (some (40, true)), .prim (.mov (.tmp 7))⟩,
 ⟨some 42, (some (40, true)), .prim (.fadr 6 (.tmp 3))⟩,
 ⟨some 43, (some (40, true)), .prim (.load 1 false (.tmp 42))⟩,
 ⟨some 44, (some (40, true)), .call (.tmp 41) [(.tmp 43)]⟩,
 ⟨some 45, none, .prim (.pick (.tmp 40) (.tmp 44) (.const (.bool false)))⟩,
 ⟨some 6, none, .prim (.mov (.tmp 45))⟩])
 .ret)
 (.seq (.ops [⟨some 47, none, .prim (.bin false .eql (.tmp 19) (.const (.int .i64 3)))⟩,
 ⟨some 46, none, .prim (.mov (.tmp 47))⟩])
 (.cond (.tmp 46)
 (.seq (.ops [⟨some 48, none, .prim (.mov (.tmp 7))⟩,
 ⟨some 49, none, .prim (.fadr 5 (.tmp 3))⟩,
 ⟨some 50, none, .prim (.load 1 false (.tmp 49))⟩,
 ⟨some 51, none, .call (.tmp 48) [(.tmp 50)]⟩,
 ⟨some 52, none, .prim (.mov (.tmp 51))⟩,
 ⟨some 53, (some (52, true)), .prim (.fadr 6 (.tmp 3))⟩,
 ⟨some 54, (some (52, true)), .prim (.load 1 false (.tmp 53))⟩,
 ⟨some 55, (some (52, true)), .prim (.bin false .eql (.tmp 54) (.const (.int .i64 0)))⟩,
 ⟨some 56, none, .prim (.pick (.tmp 52) (.tmp 55) (.const (.bool false)))⟩,
 ⟨some 6, none, .prim (.mov (.tmp 56))⟩])
 .ret)
 .skip))))))))
 (.seq (.ops [⟨some 57, none, .prim (.fadr 0 (.tmp 3))⟩,
 ⟨some 58, none, .prim (.load 1 false (.tmp 57))⟩,
 ⟨some 59, none, .prim (.bin false .eql (.tmp 58) (.const (.int .i64 4)))⟩,
 ⟨some 60, none, .prim (.mov (.tmp 59))⟩,
 ⟨some 61, (some (60, true)), .prim (.fadr 5 (.tmp 3))⟩,
 ⟨some 62, (some (60, true)), .prim (.load 1 false (.tmp 61))⟩,
 ⟨some 63, (some (60, true)), .prim (.bin false .eql (.tmp 62) (.const (.int .i64 0)))⟩,
 ⟨some 64, none, .prim (.pick (.tmp 60) (.tmp 63) (.const (.bool false)))⟩,
 ⟨some 65, none, .prim (.mov (.tmp 64))⟩,
 ⟨some 66, (some (65, true)), .prim (.fadr 6 (.tmp 3))⟩,
 ⟨some 67, (some (65, true)), .prim (.load 1 false (.tmp 66))⟩,
 ⟨some 68, (some (65, true)), .prim (.bin false .eql (.tmp 67) (.const (.int .i64 0)))⟩,
 ⟨some 69, none, .prim (.pick (.tmp 65) (.tmp 68) (.const (.bool false)))⟩,
 ⟨some 6, none, .prim (.mov (.tmp 69))⟩])
 .ret)))))
def o115 : List Tmp := []
def r115 : List RV := [.tmp 6]
theorem t115 : Text Try.prog 115 o115 c115 r115 70 := ⟨⟨Try.f115, _, by kernel_rfl, by kernel_rfl, rfl, by kernel_rfl, by kernel_rfl, rfl⟩, by kernel_rfl⟩
def c116 : ACode :=
 (.seq (.ops [⟨some 6, none, .prim (.mov (.const (.int .u64 0)))⟩])
 (.seq (.seq (.ops [⟨some 8, none, .prim (.mov (.tmp 2))⟩,
 ⟨some 9, none, .prim (.nilc (.tmp 8))⟩,
 ⟨some 10, none, .prim (.load 1 false (.tmp 9))⟩,
 ⟨some 11, none, .prim (.mov (.tmp 1))⟩,
 ⟨some 12, none, .prim (.bin false .shr (.tmp 10) (.tmp 11))⟩,
 ⟨some 13, none, .prim (.bin false .and (.tmp 12) (.const (.int .u64 1)))⟩,
 ⟨some 14, none, .prim (.bin false .eql (.tmp 13) (.const (.int .u64 1)))⟩])
 (.cond (.tmp 14)
 (.seq (.ops [⟨some 6, none, .prim (.mov (.const (.int .u64 0)))⟩])
 .ret)
 .skip))
 (.seq (.draw [⟨⟨some 15, none, .prim (.mov (.tmp 2))⟩, [], false, 0, 0⟩,
 ⟨⟨some 16, none, .prim (.nilc (.tmp 15))⟩, [0], false, 0, 0⟩,
 ⟨⟨some 17, none, .prim (.load 1 false (.tmp 16))⟩, [0, 1], false, 0, 0⟩,
 ⟨⟨some 18, none, .prim (.mov (.tmp 1))⟩, [], false, 0, 0⟩,
 ⟨⟨some 19, none, .prim (.bin false .shl (.const (.int .u64 1)) (.tmp 18))⟩, [3], false, 0, 0⟩,
 ⟨⟨some 20, none, .prim (.bin false .or (.tmp 17) (.tmp 19))⟩, [0, 1, 2, 3, 4], false, 0, 0⟩,
 ⟨⟨some 21, none, .prim (.nilc (.tmp 15))⟩, [0, 1, 2, 3, 4, 5], false, 0, 0⟩,
 ⟨⟨none, none, .prim (.store 1 (.tmp 21) (.tmp 20))⟩, [0, 1, 2, 3, 4, 5, 6], true, 0, 0⟩])
 (.seq (.seq (.ops [⟨some 22, none, .prim (.mov (.tmp 0))⟩,
 ⟨some 23, none, .prim (.mov (.tmp 1))⟩,
 ⟨some 24, none, .prim (.iadrs 7 (.tmp 22) (.tmp 23))⟩,
 ⟨some 25, none, .prim (.load 7 true (.tmp 24))⟩,
 ⟨some 7, none, .prim (.allocm [.pl (.int .i64 0), .pl (.int .u64 0), .pl (.int .u64 0), .pl (.int .u64 0), .pl (.int .u64 0), .pl (.int .i64 0), .pl (.int .i64 0)])⟩,
 ⟨none, none, .prim (.store 7 (.tmp 7) (.tmp 25))⟩])
 (.seq (.ops [⟨some 26, none, .prim (.fadr 0 (.tmp 7))⟩,
 ⟨some 27, none, .prim (.load 1 false (.tmp 26))⟩])
 (.block 0 (.seq (.ops [⟨some 29, none, .prim (.bin false .eql (.tmp 27) (.const (.int .i64 2)))⟩,
 ⟨some 28, none, .prim (.mov (.tmp 29))⟩])
 (.cond (.tmp 28)
 (.seq (.draw [⟨⟨some 30, none, .prim (.mov (.tmp 0))⟩, [], false, 0, 0⟩,
 ⟨⟨some 31, none, .prim (.fadr 5 (.tmp 7))⟩, [], false, 0, 0⟩,
 ⟨⟨some 32, none, .prim (.load 1 false (.tmp 31))⟩, [1], false, 0, 0⟩,
 ⟨⟨some 33, none, .prim (.mov (.tmp 2))⟩, [], false, 0, 0⟩,
 ⟨⟨some 34, none, .call (.func 116) [(.tmp 30), (.tmp 32), (.tmp 33)]⟩, [0, 1, 2, 3], true, 0, 0⟩,
 ⟨⟨some 35, none, .prim (.mov (.tmp 0))⟩, [], false, 0, 1⟩,
 ⟨⟨some 36, none, .prim (.fadr 6 (.tmp 7))⟩, [], false, 0, 1⟩,
 ⟨⟨some 37, none, .prim (.load 1 false (.tmp 36))⟩, [6], false, 0, 1⟩,
 ⟨⟨some 38, none, .prim (.mov (.tmp 2))⟩, [], false, 0, 1⟩,
 ⟨⟨some 39, none, .call (.func 116) [(.tmp 35), (.tmp 37), (.tmp 38)]⟩, [0, 1, 2, 3, 4, 5, 6, 7, 8], true, 0, 0⟩,
 ⟨⟨some 40, none, .prim (.bin false .or (.tmp 34) (.tmp 39))⟩, [0, 1, 2, 3, 4, 5, 6, 7, 8, 9], false, 2, 2⟩,
 ⟨⟨some 6, none, .prim (.mov (.tmp 40))⟩, [0, 1, 2, 3, 4, 5, 6, 7, 8, 9, 10], false, 2, 2⟩])
 .ret)
 (.seq (.ops [⟨some 42, none, .prim (.bin false .eql (.tmp 27) (.const (.int .i64 3)))⟩,
 ⟨some 41, none, .prim (.mov (.tmp 42))⟩])
 (.cond (.tmp 41)
 (.seq (.ops [⟨some 43, none, .prim (.mov (.tmp 0))⟩,
 ⟨some 44, none, .prim (.fadr 5 (.tmp 7))⟩,
 ⟨some 45, none, .prim (.load 1 false (.tmp 44))⟩,
 ⟨some 46, none, .prim (.mov (.tmp 2))⟩,
 ⟨some 47, none, .call (.func 116) [(.tmp 43), (.tmp 45), (.tmp 46)]⟩,
 ⟨some 6, none, .prim (.mov (.tmp 47))⟩])
 .ret)
 .skip)))))))
 (.seq (.ops [⟨some 48, none, .prim (.mov (.tmp 1))⟩,
 ⟨some 49, none, .prim (.bin false .shl (.const (.int .u64 1)) (.tmp 48))⟩,
 ⟨some 6, none, .prim (.mov (.tmp 49))⟩])
 .ret)))))
def o116 : List Tmp := [7]
def r116 : List RV := [.tmp 6]
theorem t116 : Text Try.prog 116 o116 c116 r116 50 := ⟨⟨Try.f116, _, by kernel_rfl, by kernel_rfl, rfl, by kernel_rfl, by kernel_rfl, rfl⟩, by kernel_rfl⟩
def c117 : ACode :=
 (.seq (.ops [⟨some 4, none, .prim (.allocm [.pl (.int .i64 0), .pl (.int .u64 0), .pl (.int .u64 0), .pl (.int .u64 0), .pl (.int .u64 0), .nils])⟩])
 (.seq (.ops [⟨some 5, none, .prim (.mov (.const (.slice none 0 0)))⟩])
 (.seq (.block 0 (.loop [2, 3, 6, 7, 8, 9, 10, 11, 12, 13, 14, 15, 16, 17, 18, 19, 20, 21, 22, 23, 24, 25, 26, 27, 28, 29, 30, 31, 32] (.seq (.seq (.ops [⟨some 6, none, .prim (.mov (.tmp 0))⟩,
 ⟨some 7, none, .call (.func 132) [(.tmp 6)]⟩,
 ⟨some 8, none, .prim (.un .not (.tmp 7))⟩,
 ⟨some 9, none, .prim (.mov (.tmp 8))⟩,
 ⟨some 10, (some (9, true)), .prim (.mov (.tmp 0))⟩,
 ⟨some 11, (some (9, true)), .call (.func 133) [(.tmp 10), (.const (.int .u8 124))]⟩,
 ⟨some 12, (some (9, true)), .prim (.un .not (.tmp 11))⟩,
 ⟨some 13, none, .prim (.pick (.tmp 9) (.tmp 12) (.const (.bool false)))⟩,
 ⟨some 14, none, .prim (.mov (.tmp 13))⟩,
 ⟨some 15, (some (14, true)), .prim (.mov (.tmp 0))⟩,
 ⟨some 16, (some (14, true)), .call (.func 133) [(.tmp 15), (.const (.int .u8 41))]⟩,
 ⟨some 17, (some (14, true)), .prim (.un .not (.tmp 16))⟩,
 ⟨some 18, none, .prim (.pick (.tmp 14) (.tmp 17) (.const (.bool false)))⟩])
 (.cond (.tmp 18)
 .skip
 (.exit 0)))
 (.block 1 (.ops [⟨some 19, none, .prim (.mov (.tmp 5))⟩,
 ⟨some 20, none, .prim (.mov (.tmp 0))⟩,
 ⟨some 21, none, .prim (.mov (.tmp 1))⟩,
 ⟨some 22, none, .call (.func 134) [(.tmp 20), (.tmp 21)]⟩,
 ⟨some 23, none, .prim (.bsl false 6 true 1 [.pl (.int .i64 0), .pl (.int .u64 0), .pl (.int .u64 0), .pl (.int .u64 0), .pl (.int .u64 0), .nils] [(0, 6, (.tmp 22))])⟩,
 ⟨some 24, none, .prim (.app 6 (.tmp 19) (.tmp 23))⟩,
 ⟨some 5, none, .prim (.mov (.tmp 24))⟩])))))
 (.seq (.seq (.ops [⟨some 25, none, .prim (.mov (.tmp 5))⟩,
 ⟨some 26, none, .prim (.lenv (.tmp 25))⟩,
 ⟨some 27, none, .prim (.bin false .eql (.tmp 26) (.const (.int .i64 1)))⟩])
 (.cond (.tmp 27)
 (.seq (.ops [⟨some 28, none, .prim (.mov (.tmp 5))⟩,
 ⟨some 29, none, .prim (.iadrs 6 (.tmp 28) (.const (.int .i64 0)))⟩,
 ⟨some 30, none, .prim (.load 6 true (.tmp 29))⟩,
 ⟨none, none, .prim (.store 6 (.tmp 4) (.tmp 30))⟩])
 .ret)
 .skip))
 (.seq (.ghost (.shut 5) (.ops [⟨some 31, none, .prim (.mov (.tmp 5))⟩,
 ⟨some 32, none, .prim (.build [.pl (.int .i64 0), .pl (.int .u64 0), .pl (.int .u64 0), .pl (.int .u64 0), .pl (.int .u64 0), .nils] [(0, 1, (.const (.int .i64 2))), (5, 1, (.tmp 31))])⟩,
 ⟨none, none, .prim (.store 6 (.tmp 4) (.tmp 32))⟩]))
 .ret)))))
def o117 : List Tmp := [4]
def r117 : List RV := [.cell 4 6 true]
theorem t117 : Text Try.prog 117 o117 c117 r117 33 := ⟨⟨Try.f117, _, by kernel_rfl, by kernel_rfl, rfl, by kernel_rfl, by kernel_rfl, rfl⟩, by kernel_rfl⟩
def c118 : ACode :=
 (.seq (.ops [⟨some 4, none, .prim (.mov (.const (.bool false)))⟩])
 (.seq (.seq (.ops [⟨some 5, none, .prim (.mov (.tmp 0))⟩,
 ⟨some 6, none, .prim (.mov (.tmp 1))⟩,
 ⟨some 7, none, .call (.func 133) [(.tmp 5), (.tmp 6)]⟩,
 ⟨some 8, none, .prim (.un .not (.tmp 7))⟩])
 (.cond (.tmp 8)
 (.seq (.ops [⟨some 4, none, .prim (.mov (.const (.bool false)))⟩])
 .ret)
 .skip))
 (.seq (.ops [⟨some 9, none, .prim (.mov (.tmp 0))⟩,
 ⟨some 10, none, .prim (.nilc (.tmp 9))⟩,
 ⟨some 11, none, .prim (.fadr 1 (.tmp 10))⟩,
 ⟨some 12, none, .prim (.load 1 false (.tmp 11))⟩,
 ⟨some 13, none, .prim (.bin false .add (.tmp 12) (.const (.int .i64 1)))⟩,
 ⟨some 14, none, .prim (.nilc (.tmp 9))⟩,
 ⟨some 15, none, .prim (.fadr 1 (.tmp 14))⟩,
 ⟨none, none, .prim (.store 1 (.tmp 15) (.tmp 13))⟩])
 (.seq (.ops [⟨some 4, none, .prim (.mov (.const (.bool true)))⟩])
 .ret))))
def o118 : List Tmp := []
def r118 : List RV := [.tmp 4]
theorem t118 : Text Try.prog 118 o118 c118 r118 16 := ⟨⟨Try.f118, _, by kernel_rfl, by kernel_rfl, rfl, by kernel_rfl, by kernel_rfl, rfl⟩, by kernel_rfl⟩
def c122 : ACode :=
 (.seq (.ops [⟨some 2, none, .prim (.mov (.const (.bool false)))⟩])
 (.seq (.ops [⟨some 3, none, .prim (.mov (.tmp 0))⟩,
 ⟨some 4, none, .prim (.lens (.tmp 3))⟩,
 ⟨some 5, none, .prim (.bin false .geq (.tmp 4) (.const (.int .i64 1)))⟩,
 ⟨some 6, none, .prim (.mov (.tmp 5))⟩,
 ⟨some 7, (some (6, true)), .prim (.mov (.tmp 0))⟩,
 ⟨some 8, (some (6, true)), .prim (.lens (.tmp 7))⟩,
 ⟨some 9, (some (6, true)), .prim (.bin false .leq (.tmp 8) (.const (.int .i64 24)))⟩,
 ⟨some 10, none, .prim (.pick (.tmp 6) (.tmp 9) (.const (.bool false)))⟩,
 ⟨some 2, none, .prim (.mov (.tmp 10))⟩])
 .ret))
def o122 : List Tmp := []
def r122 : List RV := [.tmp 2]
theorem t122 : Text Try.prog 122 o122 c122 r122 11 := ⟨⟨Try.f122, _, by kernel_rfl, by kernel_rfl, rfl, by kernel_rfl, by kernel_rfl, rfl⟩, by kernel_rfl⟩
def c123 : ACode :=
 (.seq (.ops [⟨some 4, none, .prim (.mov (.const (.int .i64 0)))⟩])
 (.seq (.ops [⟨some 5, none, .prim (.mov (.tmp 0))⟩,
 ⟨some 6, none, .prim (.mov (.tmp 1))⟩,
 ⟨some 7, none, .call (.func 139) [(.tmp 5), (.tmp 6)]⟩,
 ⟨some 4, none, .prim (.mov (.tmp 7))⟩])
 .ret))
def o123 : List Tmp := []
def r123 : List RV := [.tmp 4]
theorem t123 : Text Try.prog 123 o123 c123 r123 8 := ⟨⟨Try.f123, _, by kernel_rfl, by kernel_rfl, rfl, by kernel_rfl, by kernel_rfl, rfl⟩, by kernel_rfl⟩
def c124 : ACode :=
 (.seq (.ops [⟨some 2, none, .prim (.mov (.const (.bool false)))⟩])
 (.seq (.ops [⟨some 3, none, .prim (.mov (.tmp 0))⟩,
 ⟨some 4, none, .prim (.mov (.tmp 0))⟩,
 ⟨some 5, none, .prim (.bin false .neq (.tmp 3) (.tmp 4))⟩,
 ⟨some 2, none, .prim (.mov (.tmp 5))⟩])
 .ret))
def o124 : List Tmp := []
def r124 : List RV := [.tmp 2]
theorem t124 : Text Try.prog 124 o124 c124 r124 6 := ⟨⟨Try.f124, _, by kernel_rfl, by kernel_rfl, rfl, by kernel_rfl, by kernel_rfl, rfl⟩, by kernel_rfl⟩
def c125 : ACode :=
 (.seq (.ops [⟨some 2, none, .prim (.mov (.const (.bool false)))⟩])
 (.seq (.ops [⟨some 3, none, .prim (.mov (.tmp 0))⟩,
 ⟨some 4, none, .prim (.mov (.tmp 0))⟩,
 ⟨some 5, none, .prim (.bin false .neq (.tmp 3) (.tmp 4))⟩,
 ⟨some 2, none, .prim (.mov (.tmp 5))⟩])
 .ret))
def o125 : List Tmp := []
def r125 : List RV := [.tmp 2]
theorem t125 : Text Try.prog 125 o125 c125 r125 6 := ⟨⟨Try.f125, _, by kernel_rfl, by kernel_rfl, rfl, by kernel_rfl, by kernel_rfl, rfl⟩, by kernel_rfl⟩
def c127 : ACode :=
 (.seq (.ops [⟨some 1, none, .prim (.boxr (.tmp 0))⟩,
 ⟨some 2, none, .prim (.mov (.const (.bool false)))⟩])
 (.seq (.ops [⟨some 4, none, .prim (.fadr 5 (.tmp 1))⟩,
 ⟨some 5, none, .prim (.load 1 false (.tmp 4))⟩,
 ⟨some 6, none, .prim (.lenv (.tmp 5))⟩,
 ⟨some 3, none, .prim (.mov (.tmp 6))⟩])
 (.seq (.seq (.ops [⟨some 7, none, .prim (.fadr 0 (.tmp 1))⟩,
 ⟨some 8, none, .prim (.load 1 false (.tmp 7))⟩])
 (.block 0 (.seq (.ops [⟨some 10, none, .prim (.bin false .eql (.tmp 8) (.const (.int .i64 1)))⟩,
 ⟨some 9, none, .prim (.mov (.tmp 10))⟩])
 (.cond (.tmp 9)
 (.seq (.ops [⟨some 11, none, .prim (.mov (.tmp 3))⟩,
 ⟨some 12, none, .prim (.bin false .eql (.tmp 11) (.const (.int .i64 0)))⟩,
 ⟨some 2, none, .prim (.mov (.tmp 12))⟩])
 .ret)
 (.seq (.ops [⟨some 14, none, .prim (.bin false .eql (.tmp 8) (.const (.int .i64 2)))⟩,
 ⟨some 13, none, .prim (.mov (.tmp 14))⟩])
 (.cond (.tmp 13)
 .skip
 (.seq (.ops [⟨some 16, none, .prim (.bin false .eql (.tmp 8) (.const (.int .i64 3)))⟩,
 ⟨some 15, none, .prim (.mov (.tmp 16))⟩])
 (.cond (.tmp 15)
 (.seq (.ops [⟨some 17, none, .prim (.mov (.tmp 3))⟩,
 ⟨some 18, none, .prim (.bin false .eql (.tmp 17) (.const (.int .i64 0)))⟩])
 (.cond (.tmp 18)
 (.seq (.ops [⟨some 2, none, .prim (.mov (.const (.bool false)))⟩])
 .ret)
 .skip))
 (.seq (.seq (.ops [⟨some 20, none, .prim (.bin false .eql (.tmp 8) (.const (.int .i64 4)))⟩,
 ⟨some 19, none, .prim (.mov (.tmp 20))⟩])
 (.cond (.tmp 19)
 .skip
 (.seq (.ops [⟨some 21, none, .prim (.bin false .eql (.tmp 8) (.const (.int .i64 5)))⟩,
 ⟨some 19, none, .prim (.mov (.tmp 21))⟩])
 (.cond (.tmp 19)
 .skip
 (.ops [⟨some 22, none, .prim (.bin false .eql (.tmp 8) (.const (.int .i64 6)))⟩,
 ⟨some 19, none, .prim (.mov (.tmp 22))⟩])))))
 (.cond (.tmp 19)
 (.seq (.ops [⟨some 23, none, .prim (.mov (.tmp 3))⟩,
 ⟨some 24, none, .prim (.bin false .neq (.tmp 23) (.const (.int .i64 1)))⟩])
 (.cond (.tmp 24)
 (.seq (.ops [⟨some 2, none, .prim (.mov (.const (.bool false)))⟩])
 .ret)
 .skip))
 (.seq (.ops [⟨some 2, none, .prim (.mov (.const (.bool false)))⟩])
 .ret)))))))))))
 (.seq (.ops [⟨some 25, none, .prim (.fadr 1 (.tmp 1))⟩,
 ⟨some 26, none, .prim (.load 4 true (.tmp 25))⟩,
 ⟨some 27, none, .prim (.build [.pl (.int .u64 0), .pl (.int .u64 0), .pl (.int .u64 0), .pl (.int .u64 0)] [])⟩,
 ⟨some 28, none, .prim (.eqa false [.int, .int, .int, .int] (.tmp 26) (.tmp 27))⟩,
 ⟨some 29, none, .prim (.mov (.tmp 28))⟩,
 ⟨some 30, (some (29, true)), .prim (.fadr 5 (.tmp 1))⟩,
 ⟨some 31, (some (29, true)), .prim (.load 1 false (.tmp 30))⟩,
 ⟨some 32, (some (29, true)), .call (.func 140) [(.tmp 31), (.func 141)]⟩,
 ⟨some 33, (some (29, true)), .prim (.un .not (.tmp 32))⟩,
 ⟨some 34, none, .prim (.pick (.tmp 29) (.tmp 33) (.const (.bool false)))⟩,
 ⟨some 2, none, .prim (.mov (.tmp 34))⟩])
 .ret))))
def o127 : List Tmp := []
def r127 : List RV := [.tmp 2]
theorem t127 : Text Try.prog 127 o127 c127 r127 35 := ⟨⟨Try.f127, _, by kernel_rfl, by kernel_rfl, rfl, by kernel_rfl, by kernel_rfl, rfl⟩, by kernel_rfl⟩
def c128 : ACode :=
 (.seq (.ops [⟨some 1, none, .prim (.boxr (.tmp 0))⟩,
 ⟨some 2, none, .prim (.mov (.const (.int .i64 0)))⟩])
 (.seq (.ops [⟨some 3, none, .prim (.mov (.const (.int .i64 0)))⟩])
 (.seq (.seq (.ops [⟨some 6, none, .prim (.fadr 5 (.tmp 1))⟩,
 ⟨some 7, none, .prim (.load 1 false (.tmp 6))⟩,
 ⟨some 8, none, .prim (.lenv (.tmp 7))⟩,
 ⟨some 9, none, .prim (.mov (.const (.int .i64 0)))⟩])
 (.block 0 (.loop [0, 2, 4, 5, 6, 10, 11, 12, 13, 14, 15, 16, 17, 18, 19, 20, 21, 22, 23, 24, 25, 26, 27, 28, 29, 30, 31, 32, 33, 34, 35, 36, 37, 38, 39, 40] (.seq (.ops [⟨some 10, none, .prim (.bin false .lss (.tmp 9) (.tmp 8))⟩])
 (.seq (.cond (.tmp 10)
 .skip
 (.exit 0))
 (.seq (.block 1 (.seq (.ops [⟨some 11, none, .prim (.iadrs 6 (.tmp 7) (.tmp 9))⟩,
 ⟨some 12, none, .prim (.load 6 true (.tmp 11))⟩,
 ⟨some 5, none, .fresh 6 5 (.tmp 12)⟩])
 (.ops [⟨some 13, none, .prim (.mov (.tmp 3))⟩,
 ⟨some 14, none, .prim (.load 6 true (.tmp 5))⟩,
 ⟨some 15, none, .call (.func 128) [(.tmp 14)]⟩,
 ⟨some 16, none, .prim (.bin false .add (.tmp 13) (.tmp 15))⟩,
 ⟨some 3, none, .prim (.mov (.tmp 16))⟩])))
 (.ops [⟨some 17, none, .prim (.bin false .add (.tmp 9) (.const (.int .i64 1)))⟩,
 ⟨some 9, none, .prim (.mov (.tmp 17))⟩])))))))
 (.seq (.seq (.ops [⟨some 18, none, .prim (.fadr 0 (.tmp 1))⟩,
 ⟨some 19, none, .prim (.load 1 false (.tmp 18))⟩])
 (.block 2 (.seq (.ops [⟨some 21, none, .prim (.bin false .eql (.tmp 19) (.const (.int .i64 1)))⟩,
 ⟨some 20, none, .prim (.mov (.tmp 21))⟩])
 (.cond (.tmp 20)
 (.seq (.ops [⟨some 2, none, .prim (.mov (.const (.int .i64 1)))⟩])
 .ret)
 (.seq (.ops [⟨some 23, none, .prim (.bin false .eql (.tmp 19) (.const (.int .i64 3)))⟩,
 ⟨some 22, none, .prim (.mov (.tmp 23))⟩])
 (.cond (.tmp 22)
 (.seq (.ops [⟨some 24, none, .prim (.mov (.tmp 3))⟩,
 ⟨some 25, none, .prim (.fadr 5 (.tmp 1))⟩,
 ⟨some 26, none, .prim (.load 1 false (.tmp 25))⟩,
 ⟨some 27, none, .prim (.lenv (.tmp 26))⟩,
 ⟨some 28, none, .prim (.bin false .sub (.tmp 27) (.const (.int .i64 1)))⟩,
 ⟨some 29, none, .prim (.bin false .mul (.const (.int .i64 2)) (.tmp 28))⟩,
 ⟨some 30, none, .prim (.bin false .add (.tmp 24) (.tmp 29))⟩,
 ⟨some 2, none, .prim (.mov (.tmp 30))⟩])
 .ret)
 (.seq (.ops [⟨some 32, none, .prim (.bin false .eql (.tmp 19) (.const (.int .i64 4)))⟩,
 ⟨some 31, none, .prim (.mov (.tmp 32))⟩])
 (.cond (.tmp 31)
 (.seq (.ops [⟨some 33, none, .prim (.mov (.tmp 3))⟩,
 ⟨some 34, none, .prim (.bin false .add (.tmp 33) (.const (.int .i64 2)))⟩,
 ⟨some 2, none, .prim (.mov (.tmp 34))⟩])
 .ret)
 (.seq (.seq (.ops [⟨some 36, none, .prim (.bin false .eql (.tmp 19) (.const (.int .i64 5)))⟩,
 ⟨some 35, none, .prim (.mov (.tmp 36))⟩])
 (.cond (.tmp 35)
 .skip
 (.ops [⟨some 37, none, .prim (.bin false .eql (.tmp 19) (.const (.int .i64 6)))⟩,
 ⟨some 35, none, .prim (.mov (.tmp 37))⟩])))
 (.cond (.tmp 35)
 (.seq (.ops [⟨some 38, none, .prim (.mov (.tmp 3))⟩,
 ⟨some 39, none, .prim (.bin false .add (.tmp 38) (.const (.int .i64 1)))⟩,
 ⟨some 2, none, .prim (.mov (.tmp 39))⟩])
 .ret)
 .skip))))))))))
 (.seq (.ops [⟨some 40, none, .prim (.mov (.tmp 3))⟩,
 ⟨some 2, none, .prim (.mov (.tmp 40))⟩])
 .ret)))))
def o128 : List Tmp := []
def r128 : List RV := [.tmp 2]
theorem t128 : Text Try.prog 128 o128 c128 r128 41 := ⟨⟨Try.f128, _, by kernel_rfl, by kernel_rfl, rfl, by kernel_rfl, by kernel_rfl, rfl⟩, by kernel_rfl⟩
def c129 : ACode :=
 (.seq (.ops [⟨some 4, none, .prim (.mov (.const (.slice none 0 0)))⟩])
 (.seq (.ops [⟨some 5, none, .prim (.mov (.const (.slice none 0 0)))⟩])
 (.seq (.ops [⟨some 12, none, .prim (.mov (.tmp 1))⟩,
 ⟨some 13, none, .prim (.lenv (.tmp 12))⟩,
 ⟨some 14, none, .prim (.bin false .sub (.tmp 13) (.const (.int .i64 1)))⟩,
 ⟨some 6, none, .prim (.mov (.tmp 14))⟩])
 (.seq (.seq (.ops [⟨some 15, none, .prim (.mov (.tmp 1))⟩,
 ⟨some 16, none, .prim (.mov (.tmp 6))⟩,
 ⟨some 17, none, .prim (.slcv 6 (.tmp 15) none (some (.tmp 16)))⟩,
 ⟨some 18, none, .prim (.lenv (.tmp 17))⟩,
 ⟨some 19, none, .prim (.mov (.const (.int .i64 0)))⟩])
 (.block 0 (.loop [2, 3, 4, 7, 8, 9, 10, 11, 12, 13, 14, 15, 16, 20, 21, 22, 23, 24, 25, 26, 27, 28, 29, 30, 31, 32, 33, 34, 35, 36, 37, 38, 39, 40, 41, 42, 43, 44, 45, 46, 47, 48, 49, 50, 51, 52, 53, 54, 55, 56, 57, 58, 59, 60, 61, 62, 63, 64, 65, 66, 67, 68] (.seq (.ops [⟨some 20, none, .prim (.bin false .lss (.tmp 19) (.tmp 18))⟩])
 (.seq (.cond (.tmp 20)
 .skip
 (.exit 0))
 (.seq (.block 1 (.seq (.ops [⟨some 21, none, .prim (.iadrs 6 (.tmp 17) (.tmp 19))⟩,
 ⟨some 22, none, .prim (.load 6 true (.tmp 21))⟩,
 ⟨some 8, none, .fresh 6 8 (.tmp 22)⟩])
 (.seq (.ops [⟨some 23, none, .prim (.mov (.tmp 0))⟩,
 ⟨some 24, none, .prim (.lenv (.tmp 23))⟩,
 ⟨some 9, none, .prim (.mov (.tmp 24))⟩])
 (.seq (.draw [⟨⟨some 25, none, .prim (.mov (.tmp 0))⟩, [], false, 0, 0⟩,
 ⟨⟨some 26, none, .prim (.mov (.tmp 9))⟩, [], false, 0, 0⟩,
 ⟨⟨some 27, none, .prim (.bin false .add (.tmp 26) (.const (.int .i64 1)))⟩, [1], false, 0, 0⟩,
 ⟨⟨some 28, none, .prim (.build [.pl (.int .i64 0), .pl (.int .u64 0), .pl (.int .u64 0), .pl (.int .u64 0), .pl (.int .u64 0), .pl (.int .i64 0), .pl (.int .i64 0)] [(0, 1, (.const (.int .i64 2))), (5, 1, (.tmp 27))])⟩, [1, 2], false, 0, 0⟩,
 ⟨⟨some 29, none, .prim (.bsl false 7 true 1 [.pl (.int .i64 0), .pl (.int .u64 0), .pl (.int .u64 0), .pl (.int .u64 0), .pl (.int .u64 0), .pl (.int .i64 0), .pl (.int .i64 0)] [(0, 7, (.tmp 28))])⟩, [1, 2, 3], false, 0, 0⟩,
 ⟨⟨some 30, none, .prim (.app 7 (.tmp 25) (.tmp 29))⟩, [0, 1, 2, 3, 4], true, 0, 0⟩,
 ⟨⟨some 31, none, .prim (.load 6 true (.tmp 8))⟩, [], false, 0, 1⟩,
 ⟨⟨some 32, none, .call (.func 112) [(.tmp 30), (.tmp 31)]⟩, [0, 1, 2, 3, 4, 5, 6], true, 0, 0⟩,
 ⟨⟨some 0, none, .prim (.mov (.tmp 32))⟩, [0, 1, 2, 3, 4, 5, 6, 7], false, 2, 2⟩])
 (.seq (.ops [⟨some 33, none, .prim (.mov (.tmp 5))⟩,
 ⟨some 34, none, .prim (.mov (.tmp 0))⟩,
 ⟨some 35, none, .prim (.lenv (.tmp 34))⟩,
 ⟨some 36, none, .prim (.bsl false 1 false 1 [.pl (.int .i64 0)] [(0, 1, (.tmp 35))])⟩,
 ⟨some 37, none, .prim (.app 1 (.tmp 33) (.tmp 36))⟩,
 ⟨some 5, none, .prim (.mov (.tmp 37))⟩])
 (.seq (.ops [⟨some 38, none, .prim (.mov (.tmp 0))⟩,
 ⟨some 39, none, .prim (.build [.pl (.int .i64 0), .pl (.int .u64 0), .pl (.int .u64 0), .pl (.int .u64 0), .pl (.int .u64 0), .pl (.int .i64 0), .pl (.int .i64 0)] [(0, 1, (.const (.int .i64 3)))])⟩,
 ⟨some 40, none, .prim (.bsl false 7 true 1 [.pl (.int .i64 0), .pl (.int .u64 0), .pl (.int .u64 0), .pl (.int .u64 0), .pl (.int .u64 0), .pl (.int .i64 0), .pl (.int .i64 0)] [(0, 7, (.tmp 39))])⟩,
 ⟨some 41, none, .prim (.app 7 (.tmp 38) (.tmp 40))⟩,
 ⟨some 0, none, .prim (.mov (.tmp 41))⟩])
 (.ops [⟨some 42, none, .prim (.mov (.tmp 0))⟩,
 ⟨some 43, none, .prim (.mov (.tmp 9))⟩,
 ⟨some 44, none, .prim (.mov (.tmp 0))⟩,
 ⟨some 45, none, .prim (.lenv (.tmp 44))⟩,
 ⟨some 46, none, .prim (.iadrs 7 (.tmp 42) (.tmp 43))⟩,
 ⟨some 47, none, .prim (.fadr 6 (.tmp 46))⟩,
 ⟨none, none, .prim (.store 1 (.tmp 47) (.tmp 45))⟩])))))))
 (.ops [⟨some 48, none, .prim (.bin false .add (.tmp 19) (.const (.int .i64 1)))⟩,
 ⟨some 19, none, .prim (.mov (.tmp 48))⟩])))))))
 (.seq (.ops [⟨some 49, none, .prim (.mov (.tmp 0))⟩,
 ⟨some 50, none, .prim (.mov (.tmp 1))⟩,
 ⟨some 51, none, .prim (.mov (.tmp 6))⟩,
 ⟨some 52, none, .prim (.iadrs 6 (.tmp 50) (.tmp 51))⟩,
 ⟨some 53, none, .prim (.load 6 true (.tmp 52))⟩,
 ⟨some 54, none, .call (.func 112) [(.tmp 49), (.tmp 53)]⟩,
 ⟨some 0, none, .prim (.mov (.tmp 54))⟩])
 (.seq (.seq (.ops [⟨some 55, none, .prim (.mov (.tmp 5))⟩,
 ⟨some 56, none, .prim (.lenv (.tmp 55))⟩,
 ⟨some 57, none, .prim (.mov (.const (.int .i64 0)))⟩])
 (.block 2 (.loop [1, 2, 3, 4, 5, 6, 7, 8, 9, 10, 11, 12, 13, 14, 15, 16, 17, 18, 19, 20, 21, 22, 23, 24, 25, 26, 27, 28, 29, 30, 31, 32, 33, 34, 35, 36, 37, 38, 39, 40, 41, 42, 43, 44, 45, 46, 47, 48, 49, 50, 51, 52, 53, 54, 58, 59, 60, 61, 62, 63, 64, 65, 66, 67, 68] (.seq (.ops [⟨some 58, none, .prim (.bin false .lss (.tmp 57) (.tmp 56))⟩])
 (.seq (.cond (.tmp 58)
 .skip
 (.exit 2))
 (.seq (.block 3 (.seq (.ops [⟨some 59, none, .prim (.iadrs 1 (.tmp 55) (.tmp 57))⟩,
 ⟨some 60, none, .prim (.load 1 false (.tmp 59))⟩,
 ⟨some 11, none, .prim (.mov (.tmp 60))⟩])
 (.ops [⟨some 61, none, .prim (.mov (.tmp 0))⟩,
 ⟨some 62, none, .prim (.mov (.tmp 11))⟩,
 ⟨some 63, none, .prim (.mov (.tmp 0))⟩,
 ⟨some 64, none, .prim (.lenv (.tmp 63))⟩,
 ⟨some 65, none, .prim (.iadrs 7 (.tmp 61) (.tmp 62))⟩,
 ⟨some 66, none, .prim (.fadr 5 (.tmp 65))⟩,
 ⟨none, none, .prim (.store 1 (.tmp 66) (.tmp 64))⟩])))
 (.ops [⟨some 67, none, .prim (.bin false .add (.tmp 57) (.const (.int .i64 1)))⟩,
 ⟨some 57, none, .prim (.mov (.tmp 67))⟩])))))))
 (.seq (.ops [⟨some 68, none, .prim (.mov (.tmp 0))⟩,
 ⟨some 4, none, .prim (.mov (.tmp 68))⟩])
 .ret)))))))
def o129 : List Tmp := []
def r129 : List RV := [.tmp 4]
theorem t129 : Text Try.prog 129 o129 c129 r129 69 := ⟨⟨Try.f129, _, by kernel_rfl, by kernel_rfl, rfl, by kernel_rfl, by kernel_rfl, rfl⟩, by kernel_rfl⟩
def c130 : ACode :=
 (.seq (.ops [⟨some 4, none, .prim (.mov (.const (.int .i64 0)))⟩])
 (.seq (.seq (.ops [⟨some 6, none, .prim (.mov (.tmp 0))⟩,
 ⟨some 7, none, .prim (.lenv (.tmp 6))⟩,
 ⟨some 8, none, .prim (.mov (.const (.int .i64 0)))⟩])
 (.block 0 (.loop [2, 3, 4, 5, 6, 9, 10, 11, 12, 13, 14, 15, 16, 17, 18] (.seq (.ops [⟨some 9, none, .prim (.bin false .lss (.tmp 8) (.tmp 7))⟩])
 (.seq (.cond (.tmp 9)
 .skip
 (.exit 0))
 (.seq (.block 1 (.seq (.ops [⟨some 10, none, .prim (.mov (.tmp 8))⟩,
 ⟨some 5, none, .prim (.mov (.tmp 10))⟩])
 (.seq (.ops [⟨some 11, none, .prim (.mov (.tmp 1))⟩,
 ⟨some 12, none, .prim (.mov (.tmp 0))⟩,
 ⟨some 13, none, .prim (.mov (.tmp 5))⟩,
 ⟨some 14, none, .prim (.iadrs 7 (.tmp 12) (.tmp 13))⟩,
 ⟨some 15, none, .prim (.load 7 true (.tmp 14))⟩,
 ⟨some 16, none, .call (.tmp 11) [(.tmp 15)]⟩])
 (.cond (.tmp 16)
 (.seq (.ops [⟨some 17, none, .prim (.mov (.tmp 5))⟩,
 ⟨some 4, none, .prim (.mov (.tmp 17))⟩])
 .ret)
 .skip))))
 (.ops [⟨some 18, none, .prim (.bin false .add (.tmp 8) (.const (.int .i64 1)))⟩,
 ⟨some 8, none, .prim (.mov (.tmp 18))⟩])))))))
 (.seq (.ops [⟨some 4, none, .prim (.mov (.const (.int .i64 (-1))))⟩])
 .ret)))
def o130 : List Tmp := []
def r130 : List RV := [.tmp 4]
theorem t130 : Text Try.prog 130 o130 c130 r130 19 := ⟨⟨Try.f130, _, by kernel_rfl, by kernel_rfl, rfl, by kernel_rfl, by kernel_rfl, rfl⟩, by kernel_rfl⟩
def c131 : ACode :=
 (.seq (.ops [⟨some 3, none, .prim (.mov (.const (.bool false)))⟩])
 (.seq (.ops [⟨some 4, none, .prim (.mov (.tmp 0))⟩,
 ⟨some 5, none, .prim (.bin false .geq (.tmp 4) (.const (.int .i64 0)))⟩,
 ⟨some 6, none, .prim (.mov (.tmp 5))⟩,
 ⟨some 7, (some (6, true)), .prim (.mov (.tmp 0))⟩,
 ⟨some 8, (some (6, true)), .prim (.load 1 false (.tmp 1))⟩,
 ⟨some 9, (some (6, true)), .prim (.bin false .lss (.tmp 7) (.tmp 8))⟩,
 ⟨some 10, none, .prim (.pick (.tmp 6) (.tmp 9) (.const (.bool false)))⟩,
 ⟨some 3, none, .prim (.mov (.tmp 10))⟩])
 .ret))
def o131 : List Tmp := []
def r131 : List RV := [.tmp 3]
theorem t131 : Text Try.prog 131 o131 c131 r131 11 := ⟨⟨Try.f131, _, by kernel_rfl, by kernel_rfl, rfl, by kernel_rfl, by kernel_rfl, rfl⟩, by kernel_rfl⟩
def c132 : ACode :=
 (.seq (.ops [⟨some 2, none, .prim (.mov (.const (.bool false)))⟩])
 (.seq (.draw [⟨⟨some 3, none, .prim (.mov (.tmp 0))⟩, [], false, 0, 0⟩,
 ⟨⟨some 4, none, .prim (.nilc (.tmp 3))⟩, [0], false, 0, 0⟩,
 ⟨⟨some 5, none, .prim (.fadr 2 (.tmp 4))⟩, [0, 1], false, 0, 0⟩,
 ⟨⟨some 6, none, .prim (.load 1 false (.tmp 5))⟩, [0, 1, 2], false, 0, 0⟩,
 ⟨⟨some 7, none, .prim (.mov (.tmp 6))⟩, [0, 1, 2, 3], false, 0, 0⟩,
 ⟨⟨some 8, (some (7, false)), .prim (.mov (.tmp 0))⟩, [0, 1, 2, 3, 4], false, 0, 0⟩,
 ⟨⟨some 9, (some (7, false)), .prim (.nilc (.tmp 8))⟩, [0, 1, 2, 3, 4, 5], false, 0, 0⟩,
 ⟨⟨some 10, (some (7, false)), .prim (.fadr 1 (.tmp 9))⟩, [0, 1, 2, 3, 4, 5, 6], false, 0, 0⟩,
 ⟨⟨some 11, (some (7, false)), .prim (.load 1 false (.tmp 10))⟩, [0, 1, 2, 3, 4, 5, 6, 7], false, 0, 0⟩,
 ⟨⟨some 12, (some (7, false)), .prim (.mov (.tmp 0))⟩, [0, 1, 2, 3, 4], false, 0, 0⟩,
 ⟨⟨some 13, (some (7, false)), .prim (.nilc (.tmp 12))⟩, [0, 1, 2, 3, 4, 9], false, 0, 0⟩,
 ⟨⟨some 14, (some (7, false)), .prim (.fadr 0 (.tmp 13))⟩, [0, 1, 2, 3, 4, 9, 10], false, 0, 0⟩,
 ⟨⟨some 15, (some (7, false)), .prim (.load 1 false (.tmp 14))⟩, [0, 1, 2, 3, 4, 9, 10, 11], false, 0, 0⟩,
 ⟨⟨some 16, (some (7, false)), .prim (.lens (.tmp 15))⟩, [0, 1, 2, 3, 4, 9, 10, 11, 12], false, 0, 0⟩,
 ⟨⟨some 17, (some (7, false)), .prim (.bin false .geq (.tmp 11) (.tmp 16))⟩, [0, 1, 2, 3, 4, 5, 6, 7, 8, 9, 10, 11, 12, 13], false, 0, 0⟩,
 ⟨⟨some 18, none, .prim (.pick (.tmp 7) (.const (.bool true)) (.tmp 17))⟩, [0, 1, 2, 3, 4, 5, 6, 7, 8, 9, 10, 11, 12, 13, 14], false, 0, 0⟩,
 ⟨⟨some 2, none, .prim (.mov (.tmp 18))⟩, [0, 1, 2, 3, 4, 5, 6, 7, 8, 9, 10, 11, 12, 13, 14, 15], false, 0, 0⟩])
 .ret))
def o132 : List Tmp := []
def r132 : List RV := [.tmp 2]
theorem t132 : Text Try.prog 132 o132 c132 r132 19 := ⟨⟨Try.f132, _, by kernel_rfl, by kernel_rfl, rfl, by kernel_rfl, by kernel_rfl, rfl⟩, by kernel_rfl⟩
def c133 : ACode :=
 (.seq (.ops [⟨some 4, none, .prim (.mov (.const (.bool false)))⟩])
 (.seq (.draw [⟨⟨some 5, none, .prim (.mov (.tmp 0))⟩, [], false, 0, 0⟩,
 ⟨⟨some 6, none, .call (.func 132) [(.tmp 5)]⟩, [0], true, 0, 0⟩,
 ⟨⟨some 7, none, .prim (.un .not (.tmp 6))⟩, [0, 1], false, 1, 1⟩,
 ⟨⟨some 8, none, .prim (.mov (.tmp 7))⟩, [0, 1, 2], false, 1, 1⟩,
 ⟨⟨some 9, (some (8, true)), .prim (.mov (.tmp 0))⟩, [0, 1, 2, 3], false, 1, 1⟩,
 ⟨⟨some 10, (some (8, true)), .prim (.nilc (.tmp 9))⟩, [0, 1, 2, 3, 4], false, 1, 1⟩,
 ⟨⟨some 11, (some (8, true)), .prim (.fadr 0 (.tmp 10))⟩, [0, 1, 2, 3, 4, 5], false, 1, 1⟩,
 ⟨⟨some 12, (some (8, true)), .prim (.load 1 false (.tmp 11))⟩, [0, 1, 2, 3, 4, 5, 6], false, 1, 1⟩,
 ⟨⟨some 13, (some (8, true)), .prim (.mov (.tmp 0))⟩, [0, 1, 2, 3], false, 1, 1⟩,
 ⟨⟨some 14, (some (8, true)), .prim (.nilc (.tmp 13))⟩, [0, 1, 2, 3, 8], false, 1, 1⟩,
 ⟨⟨some 15, (some (8, true)), .prim (.fadr 1 (.tmp 14))⟩, [0, 1, 2, 3, 8, 9], false, 1, 1⟩,
 ⟨⟨some 16, (some (8, true)), .prim (.load 1 false (.tmp 15))⟩, [0, 1, 2, 3, 8, 9, 10], false, 1, 1⟩,
 ⟨⟨some 17, (some (8, true)), .prim (.idxs (.tmp 12) (.tmp 16))⟩, [0, 1, 2, 3, 4, 5, 6, 7, 8, 9, 10, 11], false, 1, 1⟩,
 ⟨⟨some 18, (some (8, true)), .prim (.mov (.tmp 1))⟩, [0, 1, 2, 3], false, 1, 1⟩,
 ⟨⟨some 19, (some (8, true)), .prim (.bin false .eql (.tmp 17) (.tmp 18))⟩, [0, 1, 2, 3, 4, 5, 6, 7, 8, 9, 10, 11, 12, 13], false, 1, 1⟩,
 ⟨⟨some 20, none, .prim (.pick (.tmp 8) (.tmp 19) (.const (.bool false)))⟩, [0, 1, 2, 3, 4, 5, 6, 7, 8, 9, 10, 11, 12, 13, 14], false, 1, 1⟩,
 ⟨⟨some 4, none, .prim (.mov (.tmp 20))⟩, [0, 1, 2, 3, 4, 5, 6, 7, 8, 9, 10, 11, 12, 13, 14, 15], false, 1, 1⟩])
 .ret))
def o133 : List Tmp := []
def r133 : List RV := [.tmp 4]
theorem t133 : Text Try.prog 133 o133 c133 r133 21 := ⟨⟨Try.f133, _, by kernel_rfl, by kernel_rfl, rfl, by kernel_rfl, by kernel_rfl, rfl⟩, by kernel_rfl⟩
def c134 : ACode :=
 (.seq (.ops [⟨some 4, none, .prim (.allocm [.pl (.int .i64 0), .pl (.int .u64 0), .pl (.int .u64 0), .pl (.int .u64 0), .pl (.int .u64 0), .nils])⟩])
 (.seq (.ops [⟨some 6, none, .prim (.mov (.tmp 0))⟩,
 ⟨some 7, none, .prim (.mov (.tmp 1))⟩,
 ⟨some 8, none, .call (.func 142) [(.tmp 6), (.tmp 7)]⟩,
 ⟨some 5, none, .fresh 6 5 (.tmp 8)⟩])
 (.seq (.block 0 (.seq (.ops [⟨some 10, none, .prim (.mov (.tmp 0))⟩,
 ⟨some 11, none, .call (.func 118) [(.tmp 10), (.const (.int .u8 42))]⟩,
 ⟨some 9, none, .prim (.mov (.tmp 11))⟩])
 (.cond (.tmp 9)
 (.seq (.ops [⟨some 12, none, .prim (.load 6 true (.tmp 5))⟩,
 ⟨some 13, none, .prim (.bsl false 6 true 1 [.pl (.int .i64 0), .pl (.int .u64 0), .pl (.int .u64 0), .pl (.int .u64 0), .pl (.int .u64 0), .nils] [(0, 6, (.tmp 12))])⟩,
 ⟨some 14, none, .prim (.build [.pl (.int .i64 0), .pl (.int .u64 0), .pl (.int .u64 0), .pl (.int .u64 0), .pl (.int .u64 0), .nils] [(0, 1, (.const (.int .i64 4))), (5, 1, (.tmp 13))])⟩,
 ⟨none, none, .prim (.store 6 (.tmp 4) (.tmp 14))⟩])
 .ret)
 (.seq (.ops [⟨some 16, none, .prim (.mov (.tmp 0))⟩,
 ⟨some 17, none, .call (.func 118) [(.tmp 16), (.const (.int .u8 43))]⟩,
 ⟨some 15, none, .prim (.mov (.tmp 17))⟩])
 (.cond (.tmp 15)
 (.seq (.ops [⟨some 18, none, .prim (.load 6 true (.tmp 5))⟩,
 ⟨some 19, none, .prim (.bsl false 6 true 1 [.pl (.int .i64 0), .pl (.int .u64 0), .pl (.int .u64 0), .pl (.int .u64 0), .pl (.int .u64 0), .nils] [(0, 6, (.tmp 18))])⟩,
 ⟨some 20, none, .prim (.build [.pl (.int .i64 0), .pl (.int .u64 0), .pl (.int .u64 0), .pl (.int .u64 0), .pl (.int .u64 0), .nils] [(0, 1, (.const (.int .i64 5))), (5, 1, (.tmp 19))])⟩,
 ⟨none, none, .prim (.store 6 (.tmp 4) (.tmp 20))⟩])
 .ret)
 (.seq (.ops [⟨some 22, none, .prim (.mov (.tmp 0))⟩,
 ⟨some 23, none, .call (.func 118) [(.tmp 22), (.const (.int .u8 63))]⟩,
 ⟨some 21, none, .prim (.mov (.tmp 23))⟩])
 (.cond (.tmp 21)
 (.seq (.ops [⟨some 24, none, .prim (.load 6 true (.tmp 5))⟩,
 ⟨some 25, none, .prim (.bsl false 6 true 1 [.pl (.int .i64 0), .pl (.int .u64 0), .pl (.int .u64 0), .pl (.int .u64 0), .pl (.int .u64 0), .nils] [(0, 6, (.tmp 24))])⟩,
 ⟨some 26, none, .prim (.build [.pl (.int .i64 0), .pl (.int .u64 0), .pl (.int .u64 0), .pl (.int .u64 0), .pl (.int .u64 0), .nils] [(0, 1, (.const (.int .i64 6))), (5, 1, (.tmp 25))])⟩,
 ⟨none, none, .prim (.store 6 (.tmp 4) (.tmp 26))⟩])
 .ret)
 .skip)))))))
 (.seq (.ops [⟨some 27, none, .prim (.load 6 true (.tmp 5))⟩,
 ⟨none, none, .prim (.store 6 (.tmp 4) (.tmp 27))⟩])
 .ret))))
def o134 : List Tmp := [4]
def r134 : List RV := [.cell 4 6 true]
theorem t134 : Text Try.prog 134 o134 c134 r134 28 := ⟨⟨Try.f134, _, by kernel_rfl, by kernel_rfl, rfl, by kernel_rfl, by kernel_rfl, rfl⟩, by kernel_rfl⟩
def c140 : ACode :=
 (.seq (.ops [⟨some 4, none, .prim (.mov (.const (.bool false)))⟩])
 (.seq (.ops [⟨some 5, none, .prim (.mov (.tmp 0))⟩,
 ⟨some 6, none, .prim (.mov (.tmp 1))⟩,
 ⟨some 7, none, .call (.func 144) [(.tmp 5), (.tmp 6)]⟩,
 ⟨some 8, none, .prim (.bin false .geq (.tmp 7) (.const (.int .i64 0)))⟩,
 ⟨some 4, none, .prim (.mov (.tmp 8))⟩])
 .ret))
def o140 : List Tmp := []
def r140 : List RV := [.tmp 4]
theorem t140 : Text Try.prog 140 o140 c140 r140 9 := ⟨⟨Try.f140, _, by kernel_rfl, by kernel_rfl, rfl, by kernel_rfl, by kernel_rfl, rfl⟩, by kernel_rfl⟩
def c141 : ACode :=
 (.seq (.ops [⟨some 1, none, .prim (.boxr (.tmp 0))⟩,
 ⟨some 2, none, .prim (.mov (.const (.bool false)))⟩])
 (.seq (.ops [⟨some 3, none, .prim (.load 6 true (.tmp 1))⟩,
 ⟨some 4, none, .call (.func 127) [(.tmp 3)]⟩,
 ⟨some 5, none, .prim (.un .not (.tmp 4))⟩,
 ⟨some 2, none, .prim (.mov (.tmp 5))⟩])
 .ret))
def o141 : List Tmp := []
def r141 : List RV := [.tmp 2]
theorem t141 : Text Try.prog 141 o141 c141 r141 6 := ⟨⟨Try.f141, _, by kernel_rfl, by kernel_rfl, rfl, by kernel_rfl, by kernel_rfl, rfl⟩, by kernel_rfl⟩
def c142 : ACode :=
 (.seq (.ops [⟨some 4, none, .prim (.allocm [.pl (.int .i64 0), .pl (.int .u64 0), .pl (.int .u64 0), .pl (.int .u64 0), .pl (.int .u64 0), .nils])⟩])
 (.seq (.ops [⟨some 7, none, .prim (.build [.pl (.int .i64 0), .pl (.int .u64 0), .pl (.int .u64 0), .pl (.int .u64 0), .pl (.int .u64 0), .nils] [(0, 1, (.const (.int .i64 1)))])⟩,
 ⟨some 5, none, .prim (.allocm [.pl (.int .i64 0), .pl (.int .u64 0), .pl (.int .u64 0), .pl (.int .u64 0), .pl (.int .u64 0), .nils])⟩,
 ⟨none, none, .prim (.store 6 (.tmp 5) (.tmp 7))⟩])
 (.seq (.seq (.ops [⟨some 8, none, .prim (.mov (.tmp 0))⟩,
 ⟨some 9, none, .call (.func 145) [(.tmp 8)]⟩,
 ⟨some 6, none, .prim (.mov (.tmp 9))⟩])
 (.seq (.ops [⟨some 10, none, .prim (.mov (.tmp 6))⟩])
 (.block 0 (.seq (.ops [⟨some 27, none, .prim (.bin false .eql (.tmp 10) (.const (.int .u8 40)))⟩,
 ⟨some 26, none, .prim (.mov (.tmp 27))⟩])
 (.cond (.tmp 26)
 (.seq (.ops [⟨some 28, none, .prim (.mov (.tmp 0))⟩,
 ⟨some 29, none, .prim (.mov (.tmp 0))⟩,
 ⟨some 30, none, .prim (.nilc (.tmp 29))⟩,
 ⟨some 31, none, .prim (.fadr 2 (.tmp 30))⟩,
 ⟨some 32, none, .prim (.load 1 false (.tmp 31))⟩,
 ⟨some 33, none, .prim (.mov (.tmp 32))⟩,
 ⟨some 34, (some (33, false)), .prim (.mov (.tmp 1))⟩,
 ⟨some 35, (some (33, false)), .prim (.bin false .eql (.tmp 34) (.const (.int .i64 8)))⟩,
 ⟨some 36, none, .prim (.pick (.tmp 33) (.const (.bool true)) (.tmp 35))⟩,
 ⟨some 37, none, .prim (.nilc (.tmp 28))⟩,
 ⟨some 38, none, .prim (.fadr 2 (.tmp 37))⟩,
 ⟨none, none, .prim (.store 1 (.tmp 38) (.tmp 36))⟩])
 (.seq (.seq (.ops [⟨some 39, none, .prim (.mov (.tmp 0))⟩,
 ⟨some 40, none, .prim (.nilc (.tmp 39))⟩,
 ⟨some 41, none, .prim (.fadr 2 (.tmp 40))⟩,
 ⟨some 42, none, .prim (.load 1 false (.tmp 41))⟩,
 ⟨some 43, none, .prim (.un .not (.tmp 42))⟩])
 (.cond (.tmp 43)
 (.ops [⟨some 44, none, .prim (.mov (.tmp 0))⟩,
 ⟨some 45, none, .prim (.mov (.tmp 1))⟩,
 ⟨some 46, none, .prim (.bin false .add (.tmp 45) (.const (.int .i64 1)))⟩,
 ⟨some 47, none, .call (.func 95) [(.tmp 44), (.tmp 46)]⟩,
 ⟨none, none, .prim (.store 6 (.tmp 5) (.tmp 47))⟩])
 .skip))
 (.ops [⟨some 48, none, .prim (.mov (.tmp 0))⟩,
 ⟨some 49, none, .prim (.mov (.tmp 0))⟩,
 ⟨some 50, none, .call (.func 118) [(.tmp 49), (.const (.int .u8 41))]⟩,
 ⟨some 51, none, .prim (.un .not (.tmp 50))⟩,
 ⟨some 52, none, .prim (.mov (.tmp 51))⟩,
 ⟨some 53, (some (52, false)), .prim (.mov (.tmp 0))⟩,
 ⟨some 54, (some (52, false)), .prim (.nilc (.tmp 53))⟩,
 ⟨some 55, (some (52, false)), .prim (.fadr 2 (.tmp 54))⟩,
 ⟨some 56, (some (52, false)), .prim (.load 1 false (.tmp 55))⟩,
 ⟨some 57, none, .prim (.pick (.tmp 52) (.const (.bool true)) (.tmp 56))⟩,
 ⟨some 58, none, .prim (.nilc (.tmp 48))⟩,
 ⟨some 59, none, .prim (.fadr 2 (.tmp 58))⟩,
 ⟨none, none, .prim (.store 1 (.tmp 59) (.tmp 57))⟩])))
 (.seq (.ops [⟨some 61, none, .prim (.bin false .eql (.tmp 10) (.const (.int .u8 91)))⟩,
 ⟨some 60, none, .prim (.mov (.tmp 61))⟩])
 (.cond (.tmp 60)
 (.ops [⟨some 62, none, .prim (.mov (.tmp 0))⟩,
 ⟨some 63, none, .call (.func 146) [(.tmp 62)]⟩,
 ⟨some 64, none, .prim (.fadr 1 (.tmp 5))⟩,
 ⟨none, none, .prim (.store 4 (.tmp 64) (.tmp 63))⟩])
 (.seq (.ops [⟨some 66, none, .prim (.bin false .eql (.tmp 10) (.const (.int .u8 46)))⟩,
 ⟨some 65, none, .prim (.mov (.tmp 66))⟩])
 (.cond (.tmp 65)
 (.ops [⟨some 67, none, .prim (.fadr 1 (.tmp 5))⟩,
 ⟨some 68, none, .prim (.load 4 true (.tmp 67))⟩,
 ⟨some 69, none, .call (.func 147) [(.tmp 68)]⟩,
 ⟨some 70, none, .prim (.fadr 1 (.tmp 5))⟩,
 ⟨none, none, .prim (.store 4 (.tmp 70) (.tmp 69))⟩])
 (.seq (.ops [⟨some 72, none, .prim (.bin false .eql (.tmp 10) (.const (.int .u8 92)))⟩,
 ⟨some 71, none, .prim (.mov (.tmp 72))⟩])
 (.cond (.tmp 71)
 (.ops [⟨some 73, none, .prim (.fadr 1 (.tmp 5))⟩,
 ⟨some 74, none, .prim (.mov (.tmp 0))⟩,
 ⟨some 75, none, .call (.func 149) [(.tmp 74)]⟩,
 ⟨some 76, none, .call (.func 148) [(.tmp 73), (.tmp 75)]⟩])
 (.seq (.ops [⟨some 11, none, .prim (.mov (.tmp 0))⟩,
 ⟨some 12, none, .prim (.mov (.tmp 0))⟩,
 ⟨some 13, none, .prim (.nilc (.tmp 12))⟩,
 ⟨some 14, none, .prim (.fadr 2 (.tmp 13))⟩,
 ⟨some 15, none, .prim (.load 1 false (.tmp 14))⟩,
 ⟨some 16, none, .prim (.mov (.tmp 15))⟩,
 ⟨some 17, (some (16, false)), .prim (.mov (.tmp 6))⟩,
 ⟨some 18, (some (16, false)), .call (.func 150) [(.const (.string (ByteArray.mk #[42, 43, 63, 93]))), (.tmp 17)]⟩,
 ⟨some 19, (some (16, false)), .prim (.bin false .geq (.tmp 18) (.const (.int .i64 0)))⟩,
 ⟨some 20, none, .prim (.pick (.tmp 16) (.const (.bool true)) (.tmp 19))⟩,
 ⟨some 21, none, .prim (.nilc (.tmp 11))⟩,
 ⟨some 22, none, .prim (.fadr 2 (.tmp 21))⟩,
 ⟨none, none, .prim (.store 1 (.tmp 22) (.tmp 20))⟩])
 (.ops [⟨some 23, none, .prim (.fadr 1 (.tmp 5))⟩,
 ⟨some 24, none, .prim (.mov (.tmp 6))⟩,
 ⟨some 25, none, .call (.func 148) [(.tmp 23), (.tmp 24)]⟩])))))))))))))
 (.seq (.ops [⟨some 77, none, .prim (.load 6 true (.tmp 5))⟩,
 ⟨none, none, .prim (.store 6 (.tmp 4) (.tmp 77))⟩])
 .ret))))
def o142 : List Tmp := [4, 5]
def r142 : List RV := [.cell 4 6 true]
theorem t142 : Text Try.prog 142 o142 c142 r142 78 := ⟨⟨Try.f142, _, by kernel_rfl, by kernel_rfl, rfl, by kernel_rfl, by kernel_rfl, rfl⟩, by kernel_rfl⟩
def c144 : ACode :=
 (.seq (.ops [⟨some 4, none, .prim (.mov (.const (.int .i64 0)))⟩])
 (.seq (.seq (.ops [⟨some 6, none, .prim (.mov (.tmp 0))⟩,
 ⟨some 7, none, .prim (.lenv (.tmp 6))⟩,
 ⟨some 8, none, .prim (.mov (.const (.int .i64 0)))⟩])
 (.block 0 (.loop [2, 3, 4, 5, 6, 9, 10, 11, 12, 13, 14, 15, 16, 17, 18] (.seq (.ops [⟨some 9, none, .prim (.bin false .lss (.tmp 8) (.tmp 7))⟩])
 (.seq (.cond (.tmp 9)
 .skip
 (.exit 0))
 (.seq (.block 1 (.seq (.ops [⟨some 10, none, .prim (.mov (.tmp 8))⟩,
 ⟨some 5, none, .prim (.mov (.tmp 10))⟩])
 (.seq (.ops [⟨some 11, none, .prim (.mov (.tmp 1))⟩,
 ⟨some 12, none, .prim (.mov (.tmp 0))⟩,
 ⟨some 13, none, .prim (.mov (.tmp 5))⟩,
 ⟨some 14, none, .prim (.iadrs 6 (.tmp 12) (.tmp 13))⟩,
 ⟨some 15, none, .prim (.load 6 true (.tmp 14))⟩,
 ⟨some 16, none, .call (.tmp 11) [(.tmp 15)]⟩])
 (.cond (.tmp 16)
 (.seq (.ops [⟨some 17, none, .prim (.mov (.tmp 5))⟩,
 ⟨some 4, none, .prim (.mov (.tmp 17))⟩])
 .ret)
 .skip))))
 (.ops [⟨some 18, none, .prim (.bin false .add (.tmp 8) (.const (.int .i64 1)))⟩,
 ⟨some 8, none, .prim (.mov (.tmp 18))⟩])))))))
 (.seq (.ops [⟨some 4, none, .prim (.mov (.const (.int .i64 (-1))))⟩])
 .ret)))
def o144 : List Tmp := []
def r144 : List RV := [.tmp 4]
theorem t144 : Text Try.prog 144 o144 c144 r144 19 := ⟨⟨Try.f144, _, by kernel_rfl, by kernel_rfl, rfl, by kernel_rfl, by kernel_rfl, rfl⟩, by kernel_rfl⟩
def c145 : ACode :=
 (.seq (.ops [⟨some 2, none, .prim (.mov (.const (.int .u8 0)))⟩])
 (.seq (.seq (.ops [⟨some 3, none, .prim (.mov (.tmp 0))⟩,
 ⟨some 4, none, .call (.func 132) [(.tmp 3)]⟩])
 (.cond (.tmp 4)
 (.seq (.ops [⟨some 5, none, .prim (.mov (.tmp 0))⟩,
 ⟨some 6, none, .prim (.nilc (.tmp 5))⟩,
 ⟨some 7, none, .prim (.fadr 2 (.tmp 6))⟩,
 ⟨none, none, .prim (.store 1 (.tmp 7) (.const (.bool true)))⟩])
 (.seq (.ops [⟨some 2, none, .prim (.mov (.const (.int .u8 0)))⟩])
 .ret))
 .skip))
 (.seq (.ops [⟨some 8, none, .prim (.mov (.tmp 0))⟩,
 ⟨some 9, none, .prim (.nilc (.tmp 8))⟩,
 ⟨some 10, none, .prim (.fadr 1 (.tmp 9))⟩,
 ⟨some 11, none, .prim (.load 1 false (.tmp 10))⟩,
 ⟨some 12, none, .prim (.bin false .add (.tmp 11) (.const (.int .i64 1)))⟩,
 ⟨some 13, none, .prim (.nilc (.tmp 8))⟩,
 ⟨some 14, none, .prim (.fadr 1 (.tmp 13))⟩,
 ⟨none, none, .prim (.store 1 (.tmp 14) (.tmp 12))⟩])
 (.seq (.draw [⟨⟨some 15, none, .prim (.mov (.tmp 0))⟩, [], false, 0, 0⟩,
 ⟨⟨some 16, none, .prim (.nilc (.tmp 15))⟩, [0], false, 0, 0⟩,
 ⟨⟨some 17, none, .prim (.fadr 0 (.tmp 16))⟩, [0, 1], false, 0, 0⟩,
 ⟨⟨some 18, none, .prim (.load 1 false (.tmp 17))⟩, [0, 1, 2], false, 0, 0⟩,
 ⟨⟨some 19, none, .prim (.mov (.tmp 0))⟩, [], false, 0, 0⟩,
 ⟨⟨some 20, none, .prim (.nilc (.tmp 19))⟩, [4], false, 0, 0⟩,
 ⟨⟨some 21, none, .prim (.fadr 1 (.tmp 20))⟩, [4, 5], false, 0, 0⟩,
 ⟨⟨some 22, none, .prim (.load 1 false (.tmp 21))⟩, [4, 5, 6], false, 0, 0⟩,
 ⟨⟨some 23, none, .prim (.bin false .sub (.tmp 22) (.const (.int .i64 1)))⟩, [4, 5, 6, 7], false, 0, 0⟩,
 ⟨⟨some 24, none, .prim (.idxs (.tmp 18) (.tmp 23))⟩, [0, 1, 2, 3, 4, 5, 6, 7, 8], false, 0, 0⟩,
 ⟨⟨some 2, none, .prim (.mov (.tmp 24))⟩, [0, 1, 2, 3, 4, 5, 6, 7, 8, 9], false, 0, 0⟩])
 .ret))))
def o145 : List Tmp := []
def r145 : List RV := [.tmp 2]
theorem t145 : Text Try.prog 145 o145 c145 r145 25 := ⟨⟨Try.f145, _, by kernel_rfl, by kernel_rfl, rfl, by kernel_rfl, by kernel_rfl, rfl⟩, by kernel_rfl⟩
end Go.Proofs.Ytoadgajhkhejiaa
