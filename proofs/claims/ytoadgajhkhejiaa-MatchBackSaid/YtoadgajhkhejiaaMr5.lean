/- What the functions do, over abstract values: printed by a program, checked by the kernel. No condition. -/
import Derived.Test.YtoadgajhkhejiaaProg
import Derived.Test.YtoadgajhkhejiaaAbFast
import Derived.Test.YtoadgajhkhejiaaDc1
import Derived.Test.YtoadgajhkhejiaaPLay3
import Derived.Test.YtoadgajhkhejiaaRows
import Derived.Test.YtoadgajhkhejiaaAbArg
set_option linter.unusedSimpArgs false
set_option linter.unusedVariables false
namespace Go.Proofs.Ytoadgajhkhejiaa
open Go Go.Ab
set_option maxRecDepth 100000
def c3 : ACode :=
 (.seq (.ops [⟨some 2, none, .prim (.boxr (.tmp 0))⟩,
 ⟨some 4, none, .prim (.mov (.const (.bool false)))⟩])
 (.seq (.seq (.ops [⟨some 10, none, .prim (.load 3 true (.tmp 2))⟩,
 ⟨some 11, none, .prim (.bsl false 3 true 1 [.pl (.int .i64 0), .pl (.string .empty), .pl (.string .empty)] [(0, 3, (.tmp 10))])⟩,
 ⟨some 12, none, .prim (.mov (.tmp 1))⟩,
 ⟨some 13, none, .call (.func 13) [(.tmp 11), (.tmp 12)]⟩,
 ⟨some 14, none, .prim (.un .not (.tmp 13))⟩])
 (.cond (.tmp 14)
 (.seq (.ops [⟨some 15, none, .call (.func 14) []⟩,
 ⟨some 4, none, .prim (.mov (.tmp 15))⟩])
 .ret)
 .skip))
 (.seq (.after (.after (.ops [⟨some 5, none, .prim (.mov (.const (.slice none 0 0)))⟩,
 ⟨some 6, none, .prim (.mov (.const (.slice none 0 0)))⟩]) (.own 5 2)) (.own 6 2))
 (.seq (.seq (.ops [⟨some 7, none, .prim (.mov (.const (.int .i64 0)))⟩])
 (.block 0 (.loop [0, 3, 4, 8, 9, 10, 11, 12, 13, 14, 15, 16, 17, 18, 19, 20, 21, 22, 23, 24, 25, 26, 27, 28, 29, 30, 31, 32, 33, 34, 35, 36, 37, 38, 39, 40, 41, 42, 43, 44, 45, 46, 47, 48, 49, 50, 51, 52, 53, 54, 55, 56, 57, 58, 59, 60, 61, 62, 63, 64, 65, 66, 67, 68, 69, 70, 71, 72, 73, 74, 75, 76, 77, 78, 79, 80, 81, 82, 83, 84, 85, 86, 87, 88, 89, 90, 91, 92, 93, 94, 95, 96, 97, 98] (.seq (.seq (.ops [⟨some 16, none, .prim (.mov (.tmp 7))⟩,
 ⟨some 17, none, .prim (.mov (.tmp 1))⟩,
 ⟨some 18, none, .prim (.lenv (.tmp 17))⟩,
 ⟨some 19, none, .prim (.bin false .lss (.tmp 16) (.tmp 18))⟩])
 (.cond (.tmp 19)
 .skip
 (.exit 0)))
 (.seq (.block 1 (.seq (.seq (.ops [⟨some 22, none, .prim (.mov (.tmp 1))⟩,
 ⟨some 23, none, .prim (.mov (.tmp 7))⟩,
 ⟨some 24, none, .prim (.iadrs 2 (.tmp 22) (.tmp 23))⟩,
 ⟨some 25, none, .prim (.fadr 1 (.tmp 24))⟩,
 ⟨some 26, none, .prim (.load 1 false (.tmp 25))⟩,
 ⟨some 27, none, .prim (.lens (.tmp 26))⟩,
 ⟨some 28, none, .prim (.bin false .gtr (.tmp 27) (.const (.int .i64 30)))⟩])
 (.cond (.tmp 28)
 (.seq (.ops [⟨some 29, none, .call (.func 14) []⟩,
 ⟨some 4, none, .prim (.mov (.tmp 29))⟩])
 .ret)
 .skip))
 (.seq (.draw [⟨⟨some 30, none, .prim (.mov (.tmp 1))⟩, [], false, 0, 0⟩,
 ⟨⟨some 31, none, .prim (.mov (.tmp 7))⟩, [], false, 0, 0⟩,
 ⟨⟨some 32, none, .prim (.iadrs 2 (.tmp 30) (.tmp 31))⟩, [0, 1], false, 0, 0⟩,
 ⟨⟨some 33, none, .prim (.fadr 0 (.tmp 32))⟩, [0, 1, 2], false, 0, 0⟩,
 ⟨⟨some 34, none, .prim (.load 1 false (.tmp 33))⟩, [0, 1, 2, 3], false, 0, 0⟩,
 ⟨⟨some 35, none, .prim (.fadr 1 (.tmp 2))⟩, [], false, 0, 0⟩,
 ⟨⟨some 36, none, .prim (.load 1 false (.tmp 35))⟩, [5], false, 0, 0⟩,
 ⟨⟨some 37, none, .prim (.bin false .eql (.tmp 34) (.tmp 36))⟩, [0, 1, 2, 3, 4, 5, 6], false, 0, 0⟩])
 (.cond (.tmp 37)
 (.after (.after (.ops [⟨some 38, none, .prim (.mov (.tmp 6))⟩,
 ⟨some 39, none, .prim (.mov (.tmp 1))⟩,
 ⟨some 40, none, .prim (.mov (.tmp 7))⟩,
 ⟨some 41, none, .prim (.iadrs 2 (.tmp 39) (.tmp 40))⟩,
 ⟨some 42, none, .prim (.load 2 true (.tmp 41))⟩,
 ⟨some 43, none, .prim (.bsl false 2 true 1 [.pl (.string .empty), .pl (.string .empty)] [(0, 2, (.tmp 42))])⟩,
 ⟨some 44, none, .prim (.app 2 (.tmp 38) (.tmp 43))⟩,
 ⟨some 6, none, .prim (.mov (.tmp 44))⟩]) (.clear [38, 43, 44])) (.keep 2))
 (.after (.after (.ops [⟨some 45, none, .prim (.mov (.tmp 5))⟩,
 ⟨some 46, none, .prim (.mov (.tmp 1))⟩,
 ⟨some 47, none, .prim (.mov (.tmp 7))⟩,
 ⟨some 48, none, .prim (.iadrs 2 (.tmp 46) (.tmp 47))⟩,
 ⟨some 49, none, .prim (.load 2 true (.tmp 48))⟩,
 ⟨some 50, none, .prim (.bsl false 2 true 1 [.pl (.string .empty), .pl (.string .empty)] [(0, 2, (.tmp 49))])⟩,
 ⟨some 51, none, .prim (.app 2 (.tmp 45) (.tmp 50))⟩,
 ⟨some 5, none, .prim (.mov (.tmp 51))⟩]) (.clear [45, 50, 51])) (.keep 2))))))
 (.ops [⟨some 20, none, .prim (.mov (.tmp 7))⟩,
 ⟨some 21, none, .prim (.bin false .add (.tmp 20) (.const (.int .i64 1)))⟩,
 ⟨some 7, none, .prim (.mov (.tmp 21))⟩]))))))
 (.seq (.after (.after (.after (.ghost (.shut 5) (.ghost (.shut 6) (.ghost (.keep 0) (.draw [⟨⟨some 52, none, .prim (.mov (.tmp 5))⟩, [], false, 0, 0⟩,
 ⟨⟨some 53, none, .prim (.app 2 (.const (.slice none 0 0)) (.tmp 52))⟩, [0], true, 0, 0⟩,
 ⟨⟨some 54, none, .prim (.fadr 1 (.tmp 2))⟩, [], false, 0, 1⟩,
 ⟨⟨some 55, none, .prim (.load 1 false (.tmp 54))⟩, [2], false, 0, 1⟩,
 ⟨⟨some 56, none, .prim (.build [.pl (.string .empty), .pl (.string .empty)] [(0, 1, (.tmp 55))])⟩, [2, 3], false, 0, 1⟩,
 ⟨⟨some 57, none, .prim (.bsl false 2 true 1 [.pl (.string .empty), .pl (.string .empty)] [(0, 2, (.tmp 56))])⟩, [2, 3, 4], false, 0, 1⟩,
 ⟨⟨some 58, none, .prim (.app 2 (.tmp 53) (.tmp 57))⟩, [0, 1, 2, 3, 4, 5], true, 0, 0⟩,
 ⟨⟨some 8, none, .prim (.mov (.tmp 58))⟩, [0, 1, 2, 3, 4, 5, 6], false, 2, 2⟩])))) (.shut 8)) (.clear [53, 57, 58])) (.keep 0))
 (.seq (.after (.after (.after (.draw [⟨⟨some 59, none, .prim (.mov (.tmp 6))⟩, [], false, 0, 0⟩,
 ⟨⟨some 60, none, .prim (.app 2 (.const (.slice none 0 0)) (.tmp 59))⟩, [0], true, 0, 0⟩,
 ⟨⟨some 61, none, .prim (.fadr 1 (.tmp 2))⟩, [], false, 0, 1⟩,
 ⟨⟨some 62, none, .prim (.load 1 false (.tmp 61))⟩, [2], false, 0, 1⟩,
 ⟨⟨some 63, none, .prim (.build [.pl (.string .empty), .pl (.string .empty)] [(0, 1, (.tmp 62)), (1, 1, (.const (.string (ByteArray.mk #[122, 122]))))])⟩, [2, 3], false, 0, 1⟩,
 ⟨⟨some 64, none, .prim (.bsl false 2 true 1 [.pl (.string .empty), .pl (.string .empty)] [(0, 2, (.tmp 63))])⟩, [2, 3, 4], false, 0, 1⟩,
 ⟨⟨some 65, none, .prim (.app 2 (.tmp 60) (.tmp 64))⟩, [0, 1, 2, 3, 4, 5], true, 0, 0⟩,
 ⟨⟨some 9, none, .prim (.mov (.tmp 65))⟩, [0, 1, 2, 3, 4, 5, 6], false, 2, 2⟩]) (.shut 9)) (.clear [60, 64, 65])) (.keep 0))
 (.seq (.draw [⟨⟨some 66, none, .prim (.load 3 true (.tmp 2))⟩, [], false, 0, 0⟩,
 ⟨⟨some 67, none, .prim (.mov (.tmp 5))⟩, [], false, 0, 0⟩,
 ⟨⟨some 68, none, .call (.func 15) [(.tmp 66), (.tmp 67)]⟩, [0, 1], true, 0, 0⟩,
 ⟨⟨some 69, none, .prim (.load 3 true (.tmp 2))⟩, [], false, 0, 1⟩,
 ⟨⟨some 70, none, .prim (.mov (.tmp 8))⟩, [], false, 0, 1⟩,
 ⟨⟨some 71, none, .call (.func 15) [(.tmp 69), (.tmp 70)]⟩, [0, 1, 2, 3, 4], true, 0, 0⟩,
 ⟨⟨some 72, none, .prim (.bin true .eql (.tmp 68) (.tmp 71))⟩, [0, 1, 2, 3, 4, 5], false, 2, 2⟩,
 ⟨⟨some 73, none, .prim (.mov (.tmp 72))⟩, [0, 1, 2, 3, 4, 5, 6], false, 2, 2⟩,
 ⟨⟨some 74, (some (73, true)), .prim (.load 3 true (.tmp 2))⟩, [0, 1, 2, 3, 4, 5, 6, 7], false, 2, 2⟩,
 ⟨⟨some 75, (some (73, true)), .prim (.mov (.tmp 6))⟩, [0, 1, 2, 3, 4, 5, 6, 7], false, 2, 2⟩,
 ⟨⟨some 76, (some (73, true)), .call (.func 15) [(.tmp 74), (.tmp 75)]⟩, [0, 1, 2, 3, 4, 5, 6, 7, 8, 9], true, 0, 0⟩,
 ⟨⟨some 77, (some (73, true)), .prim (.load 3 true (.tmp 2))⟩, [0, 1, 2, 3, 4, 5, 6, 7], false, 2, 3⟩,
 ⟨⟨some 78, (some (73, true)), .prim (.mov (.tmp 1))⟩, [0, 1, 2, 3, 4, 5, 6, 7], false, 2, 3⟩,
 ⟨⟨some 79, (some (73, true)), .call (.func 15) [(.tmp 77), (.tmp 78)]⟩, [0, 1, 2, 3, 4, 5, 6, 7, 8, 9, 10, 11, 12], true, 0, 0⟩,
 ⟨⟨some 80, (some (73, true)), .prim (.bin true .eql (.tmp 76) (.tmp 79))⟩, [0, 1, 2, 3, 4, 5, 6, 7, 8, 9, 10, 11, 12, 13], false, 4, 4⟩,
 ⟨⟨some 81, none, .prim (.pick (.tmp 73) (.tmp 80) (.const (.bool false)))⟩, [0, 1, 2, 3, 4, 5, 6, 7, 8, 9, 10, 11, 12, 13, 14], false, 4, 4⟩,
 ⟨⟨some 82, none, .prim (.mov (.tmp 81))⟩, [0, 1, 2, 3, 4, 5, 6, 7, 8, 9, 10, 11, 12, 13, 14, 15], false, 4, 4⟩,
 ⟨⟨some 83, (some (82, true)), .prim (.mov (.tmp 6))⟩, [0, 1, 2, 3, 4, 5, 6, 7, 8, 9, 10, 11, 12, 13, 14, 15, 16], false, 4, 4⟩,
 ⟨⟨some 84, (some (82, true)), .prim (.lenv (.tmp 83))⟩, [0, 1, 2, 3, 4, 5, 6, 7, 8, 9, 10, 11, 12, 13, 14, 15, 16, 17], false, 4, 4⟩,
 ⟨⟨some 85, (some (82, true)), .prim (.bin false .eql (.tmp 84) (.const (.int .i64 0)))⟩, [0, 1, 2, 3, 4, 5, 6, 7, 8, 9, 10, 11, 12, 13, 14, 15, 16, 17, 18], false, 4, 4⟩,
 ⟨⟨some 86, (some (82, true)), .prim (.mov (.tmp 85))⟩, [0, 1, 2, 3, 4, 5, 6, 7, 8, 9, 10, 11, 12, 13, 14, 15, 16, 17, 18, 19], false, 4, 4⟩,
 ⟨⟨some 87, (some (86, false)), .prim (.load 3 true (.tmp 2))⟩, [0, 1, 2, 3, 4, 5, 6, 7, 8, 9, 10, 11, 12, 13, 14, 15, 16, 17, 18, 19, 20], false, 4, 4⟩,
 ⟨⟨some 88, (some (86, false)), .prim (.mov (.tmp 9))⟩, [0, 1, 2, 3, 4, 5, 6, 7, 8, 9, 10, 11, 12, 13, 14, 15, 16, 17, 18, 19, 20], false, 4, 4⟩,
 ⟨⟨some 89, (some (86, false)), .call (.func 15) [(.tmp 87), (.tmp 88)]⟩, [0, 1, 2, 3, 4, 5, 6, 7, 8, 9, 10, 11, 12, 13, 14, 15, 16, 17, 18, 19, 20, 21, 22], true, 0, 0⟩,
 ⟨⟨some 90, (some (86, false)), .prim (.load 3 true (.tmp 2))⟩, [0, 1, 2, 3, 4, 5, 6, 7, 8, 9, 10, 11, 12, 13, 14, 15, 16, 17, 18, 19, 20], false, 4, 5⟩,
 ⟨⟨some 91, (some (86, false)), .prim (.mov (.tmp 1))⟩, [0, 1, 2, 3, 4, 5, 6, 7, 8, 9, 10, 11, 12, 13, 14, 15, 16, 17, 18, 19, 20], false, 4, 5⟩,
 ⟨⟨some 92, (some (86, false)), .call (.func 15) [(.tmp 90), (.tmp 91)]⟩, [0, 1, 2, 3, 4, 5, 6, 7, 8, 9, 10, 11, 12, 13, 14, 15, 16, 17, 18, 19, 20, 21, 22, 23, 24, 25], true, 0, 0⟩,
 ⟨⟨some 93, (some (86, false)), .prim (.bin true .eql (.tmp 89) (.tmp 92))⟩, [0, 1, 2, 3, 4, 5, 6, 7, 8, 9, 10, 11, 12, 13, 14, 15, 16, 17, 18, 19, 20, 21, 22, 23, 24, 25, 26], false, 6, 6⟩,
 ⟨⟨some 94, (some (82, true)), .prim (.pick (.tmp 86) (.const (.bool true)) (.tmp 93))⟩, [0, 1, 2, 3, 4, 5, 6, 7, 8, 9, 10, 11, 12, 13, 14, 15, 16, 17, 18, 19, 20, 21, 22, 23, 24, 25, 26, 27], false, 6, 6⟩,
 ⟨⟨some 95, none, .prim (.pick (.tmp 82) (.tmp 94) (.const (.bool false)))⟩, [0, 1, 2, 3, 4, 5, 6, 7, 8, 9, 10, 11, 12, 13, 14, 15, 16, 17, 18, 19, 20, 21, 22, 23, 24, 25, 26, 27, 28], false, 6, 6⟩,
 ⟨⟨some 96, none, .prim (.mov (.tmp 95))⟩, [0, 1, 2, 3, 4, 5, 6, 7, 8, 9, 10, 11, 12, 13, 14, 15, 16, 17, 18, 19, 20, 21, 22, 23, 24, 25, 26, 27, 28, 29], false, 6, 6⟩,
 ⟨⟨some 97, (some (96, true)), .call (.func 14) []⟩, [0, 1, 2, 3, 4, 5, 6, 7, 8, 9, 10, 11, 12, 13, 14, 15, 16, 17, 18, 19, 20, 21, 22, 23, 24, 25, 26, 27, 28, 29, 30], true, 0, 0⟩,
 ⟨⟨some 98, none, .prim (.pick (.tmp 96) (.tmp 97) (.const (.bool false)))⟩, [0, 1, 2, 3, 4, 5, 6, 7, 8, 9, 10, 11, 12, 13, 14, 15, 16, 17, 18, 19, 20, 21, 22, 23, 24, 25, 26, 27, 28, 29, 30, 31], false, 7, 7⟩,
 ⟨⟨some 4, none, .prim (.mov (.tmp 98))⟩, [0, 1, 2, 3, 4, 5, 6, 7, 8, 9, 10, 11, 12, 13, 14, 15, 16, 17, 18, 19, 20, 21, 22, 23, 24, 25, 26, 27, 28, 29, 30, 31, 32], false, 7, 7⟩])
 .ret)))))))
def r3 : List RV := [.tmp 4]
def c4 : ACode :=
 (.seq (.ops [⟨some 2, none, .prim (.boxr (.tmp 0))⟩,
 ⟨some 4, none, .prim (.mov (.const (.bool false)))⟩])
 (.seq (.seq (.ops [⟨some 6, none, .prim (.load 3 true (.tmp 2))⟩,
 ⟨some 7, none, .prim (.bsl false 3 true 1 [.pl (.int .i64 0), .pl (.string .empty), .pl (.string .empty)] [(0, 3, (.tmp 6))])⟩,
 ⟨some 8, none, .prim (.mov (.tmp 1))⟩,
 ⟨some 9, none, .call (.func 13) [(.tmp 7), (.tmp 8)]⟩,
 ⟨some 10, none, .prim (.un .not (.tmp 9))⟩])
 (.cond (.tmp 10)
 (.seq (.ops [⟨some 11, none, .call (.func 14) []⟩,
 ⟨some 4, none, .prim (.mov (.tmp 11))⟩])
 .ret)
 .skip))
 (.seq (.seq (.ops [⟨some 5, none, .prim (.mov (.const (.int .i64 0)))⟩])
 (.block 0 (.loop [0, 3, 4, 6, 7, 8, 9, 10, 11, 12, 13, 14, 15, 16, 17, 18, 19, 20, 21, 22, 23, 24, 25, 26, 27, 28, 29, 30, 31, 32, 33, 34, 35, 36, 37, 38, 39, 40, 41, 42, 43, 44, 45, 46, 47, 48, 49] (.seq (.seq (.ops [⟨some 12, none, .prim (.mov (.tmp 5))⟩,
 ⟨some 13, none, .prim (.mov (.tmp 1))⟩,
 ⟨some 14, none, .prim (.lenv (.tmp 13))⟩,
 ⟨some 15, none, .prim (.bin false .lss (.tmp 12) (.tmp 14))⟩])
 (.cond (.tmp 15)
 .skip
 (.exit 0)))
 (.seq (.block 1 (.seq (.ops [⟨some 18, none, .prim (.mov (.tmp 1))⟩,
 ⟨some 19, none, .prim (.mov (.tmp 5))⟩,
 ⟨some 20, none, .prim (.iadrs 2 (.tmp 18) (.tmp 19))⟩,
 ⟨some 21, none, .prim (.fadr 1 (.tmp 20))⟩,
 ⟨some 22, none, .prim (.load 1 false (.tmp 21))⟩,
 ⟨some 23, none, .prim (.lens (.tmp 22))⟩,
 ⟨some 24, none, .prim (.bin false .gtr (.tmp 23) (.const (.int .i64 30)))⟩])
 (.cond (.tmp 24)
 (.seq (.ops [⟨some 25, none, .call (.func 14) []⟩,
 ⟨some 4, none, .prim (.mov (.tmp 25))⟩])
 .ret)
 .skip)))
 (.ops [⟨some 16, none, .prim (.mov (.tmp 5))⟩,
 ⟨some 17, none, .prim (.bin false .add (.tmp 16) (.const (.int .i64 1)))⟩,
 ⟨some 5, none, .prim (.mov (.tmp 17))⟩]))))))
 (.seq (.draw [⟨⟨some 26, none, .prim (.load 3 true (.tmp 2))⟩, [], false, 0, 0⟩,
 ⟨⟨some 27, none, .call (.func 16) [(.tmp 26)]⟩, [0], true, 0, 0⟩,
 ⟨⟨some 28, none, .prim (.load 3 true (.tmp 2))⟩, [], false, 0, 1⟩,
 ⟨⟨some 29, none, .call (.func 17) [(.tmp 28)]⟩, [0, 1, 2], true, 0, 0⟩,
 ⟨⟨some 30, none, .prim (.bin true .eql (.tmp 27) (.tmp 29))⟩, [0, 1, 2, 3], false, 2, 2⟩,
 ⟨⟨some 31, none, .prim (.mov (.tmp 30))⟩, [0, 1, 2, 3, 4], false, 2, 2⟩,
 ⟨⟨some 32, (some (31, true)), .prim (.load 3 true (.tmp 2))⟩, [0, 1, 2, 3, 4, 5], false, 2, 2⟩,
 ⟨⟨some 33, (some (31, true)), .call (.func 18) [(.tmp 32)]⟩, [0, 1, 2, 3, 4, 5, 6], true, 0, 0⟩,
 ⟨⟨some 34, (some (31, true)), .prim (.load 3 true (.tmp 2))⟩, [0, 1, 2, 3, 4, 5], false, 2, 3⟩,
 ⟨⟨some 35, (some (31, true)), .call (.func 19) [(.tmp 34)]⟩, [0, 1, 2, 3, 4, 5, 6, 7, 8], true, 0, 0⟩,
 ⟨⟨some 36, (some (31, true)), .prim (.bin true .eql (.tmp 33) (.tmp 35))⟩, [0, 1, 2, 3, 4, 5, 6, 7, 8, 9], false, 4, 4⟩,
 ⟨⟨some 37, none, .prim (.pick (.tmp 31) (.tmp 36) (.const (.bool false)))⟩, [0, 1, 2, 3, 4, 5, 6, 7, 8, 9, 10], false, 4, 4⟩,
 ⟨⟨some 38, none, .prim (.mov (.tmp 37))⟩, [0, 1, 2, 3, 4, 5, 6, 7, 8, 9, 10, 11], false, 4, 4⟩,
 ⟨⟨some 39, (some (38, true)), .prim (.load 3 true (.tmp 2))⟩, [0, 1, 2, 3, 4, 5, 6, 7, 8, 9, 10, 11, 12], false, 4, 4⟩,
 ⟨⟨some 40, (some (38, true)), .prim (.mov (.tmp 1))⟩, [0, 1, 2, 3, 4, 5, 6, 7, 8, 9, 10, 11, 12], false, 4, 4⟩,
 ⟨⟨some 41, (some (38, true)), .call (.func 15) [(.tmp 39), (.tmp 40)]⟩, [0, 1, 2, 3, 4, 5, 6, 7, 8, 9, 10, 11, 12, 13, 14], true, 0, 0⟩,
 ⟨⟨some 42, (some (38, true)), .prim (.load 3 true (.tmp 2))⟩, [0, 1, 2, 3, 4, 5, 6, 7, 8, 9, 10, 11, 12], false, 4, 5⟩,
 ⟨⟨some 43, (some (38, true)), .prim (.mov (.tmp 1))⟩, [0, 1, 2, 3, 4, 5, 6, 7, 8, 9, 10, 11, 12], false, 4, 5⟩,
 ⟨⟨some 44, (some (38, true)), .call (.func 20) [(.tmp 42), (.tmp 43)]⟩, [0, 1, 2, 3, 4, 5, 6, 7, 8, 9, 10, 11, 12, 13, 14, 15, 16, 17], true, 0, 0⟩,
 ⟨⟨some 45, (some (38, true)), .prim (.bin true .eql (.tmp 41) (.tmp 44))⟩, [0, 1, 2, 3, 4, 5, 6, 7, 8, 9, 10, 11, 12, 13, 14, 15, 16, 17, 18], false, 6, 6⟩,
 ⟨⟨some 46, none, .prim (.pick (.tmp 38) (.tmp 45) (.const (.bool false)))⟩, [0, 1, 2, 3, 4, 5, 6, 7, 8, 9, 10, 11, 12, 13, 14, 15, 16, 17, 18, 19], false, 6, 6⟩,
 ⟨⟨some 47, none, .prim (.mov (.tmp 46))⟩, [0, 1, 2, 3, 4, 5, 6, 7, 8, 9, 10, 11, 12, 13, 14, 15, 16, 17, 18, 19, 20], false, 6, 6⟩,
 ⟨⟨some 48, (some (47, true)), .call (.func 14) []⟩, [0, 1, 2, 3, 4, 5, 6, 7, 8, 9, 10, 11, 12, 13, 14, 15, 16, 17, 18, 19, 20, 21], true, 0, 0⟩,
 ⟨⟨some 49, none, .prim (.pick (.tmp 47) (.tmp 48) (.const (.bool false)))⟩, [0, 1, 2, 3, 4, 5, 6, 7, 8, 9, 10, 11, 12, 13, 14, 15, 16, 17, 18, 19, 20, 21, 22], false, 7, 7⟩,
 ⟨⟨some 4, none, .prim (.mov (.tmp 49))⟩, [0, 1, 2, 3, 4, 5, 6, 7, 8, 9, 10, 11, 12, 13, 14, 15, 16, 17, 18, 19, 20, 21, 22, 23], false, 7, 7⟩])
 .ret))))
def c12 : ACode :=
 (.seq (.ops [⟨some 6, none, .prim (.mov (.const (.bool false)))⟩])
 (.seq (.seq (.ops [⟨some 15, none, .prim (.mov (.tmp 1))⟩,
 ⟨some 16, none, .prim (.lenv (.tmp 15))⟩,
 ⟨some 17, none, .prim (.bin false .gtr (.tmp 16) (.const (.int .i64 300)))⟩])
 (.cond (.tmp 17)
 (.seq (.ops [⟨some 18, none, .call (.func 14) []⟩,
 ⟨some 6, none, .prim (.mov (.tmp 18))⟩])
 .ret)
 .skip))
 (.seq (.ops [⟨some 19, none, .prim (.mov (.tmp 0))⟩,
 ⟨some 20, none, .call (.func 23) [(.tmp 19), (.const (.bool false))]⟩,
 ⟨some 7, none, .prim (.mov (.tmp 20))⟩])
 (.seq (.ops [⟨some 21, none, .prim (.mov (.tmp 7))⟩,
 ⟨some 22, none, .call (.func 43) [(.tmp 21)]⟩,
 ⟨some 8, none, .prim (.mov (.tmp 22))⟩])
 (.seq (.ops [⟨some 24, none, .prim (.mov (.tmp 8))⟩,
 ⟨some 25, none, .prim (.app 1 (.const (.slice none 0 0)) (.tmp 24))⟩,
 ⟨some 26, none, .prim (.mov (.tmp 1))⟩,
 ⟨some 27, none, .prim (.app 1 (.tmp 25) (.tmp 26))⟩,
 ⟨some 28, none, .call (.func 41) [(.tmp 27)]⟩,
 ⟨some 23, none, .prim (.mov (.tmp 28))⟩,
 ⟨some 29, none, .prim (.extr 0 (.tmp 23))⟩,
 ⟨some 30, none, .prim (.extr 1 (.tmp 23))⟩,
 ⟨some 31, none, .prim (.extr 2 (.tmp 23))⟩,
 ⟨some 9, none, .prim (.mov (.tmp 29))⟩,
 ⟨some 10, none, .prim (.mov (.tmp 30))⟩,
 ⟨some 11, none, .prim (.mov (.tmp 31))⟩])
 (.seq (.seq (.ops [⟨some 32, none, .prim (.mov (.tmp 8))⟩,
 ⟨some 33, none, .prim (.lenv (.tmp 32))⟩,
 ⟨some 34, none, .prim (.bin false .lss (.tmp 33) (.const (.int .i64 1)))⟩,
 ⟨some 35, none, .prim (.mov (.tmp 34))⟩,
 ⟨some 36, (some (35, false)), .prim (.mov (.tmp 11))⟩,
 ⟨some 37, (some (35, false)), .prim (.un .not (.tmp 36))⟩,
 ⟨some 38, none, .prim (.pick (.tmp 35) (.const (.bool true)) (.tmp 37))⟩,
 ⟨some 39, none, .prim (.mov (.tmp 38))⟩,
 ⟨some 40, (some (39, false)), .prim (.mov (.tmp 10))⟩,
 ⟨some 41, (some (39, false)), .prim (.mov (.tmp 8))⟩,
 ⟨some 42, (some (39, false)), .prim (.lenv (.tmp 41))⟩,
 ⟨some 43, (some (39, false)), .prim (.bin false .neq (.tmp 40) (.tmp 42))⟩,
 ⟨some 44, none, .prim (.pick (.tmp 39) (.const (.bool true)) (.tmp 43))⟩,
 ⟨some 45, none, .prim (.mov (.tmp 44))⟩,
 ⟨some 46, (some (45, false)), .prim (.mov (.tmp 9))⟩,
 ⟨some 47, (some (45, false)), .prim (.mov (.tmp 7))⟩,
 ⟨some 48, (some (45, false)), .call (.func 45) [(.tmp 46), (.tmp 47)]⟩,
 ⟨some 49, (some (45, false)), .prim (.un .not (.tmp 48))⟩,
 ⟨some 50, none, .prim (.pick (.tmp 45) (.const (.bool true)) (.tmp 49))⟩])
 (.cond (.tmp 50)
 (.seq (.ops [⟨some 6, none, .prim (.mov (.const (.bool false)))⟩])
 .ret)
 .skip))
 (.seq (.seq (.ops [⟨some 51, none, .prim (.mov (.tmp 2))⟩,
 ⟨some 52, none, .prim (.bin false .lss (.tmp 51) (.const (.int .i64 0)))⟩])
 (.cond (.tmp 52)
 (.ops [⟨some 2, none, .prim (.mov (.const (.int .i64 0)))⟩])
 .skip))
 (.seq (.ops [⟨some 54, none, .prim (.mov (.tmp 8))⟩,
 ⟨some 55, none, .prim (.mov (.tmp 2))⟩,
 ⟨some 56, none, .prim (.mov (.tmp 8))⟩,
 ⟨some 57, none, .prim (.lenv (.tmp 56))⟩,
 ⟨some 58, none, .prim (.bin false .rem (.tmp 55) (.tmp 57))⟩,
 ⟨some 59, none, .prim (.slcv 1 (.tmp 54) none (some (.tmp 58)))⟩,
 ⟨some 60, none, .call (.func 41) [(.tmp 59)]⟩,
 ⟨some 53, none, .prim (.mov (.tmp 60))⟩,
 ⟨some 61, none, .prim (.extr 0 (.tmp 53))⟩,
 ⟨some 62, none, .prim (.extr 1 (.tmp 53))⟩,
 ⟨some 63, none, .prim (.extr 2 (.tmp 53))⟩,
 ⟨some 12, none, .prim (.mov (.tmp 61))⟩,
 ⟨some 13, none, .prim (.mov (.tmp 62))⟩,
 ⟨some 14, none, .prim (.mov (.tmp 63))⟩])
 (.seq (.ops [⟨some 64, none, .prim (.mov (.tmp 14))⟩,
 ⟨some 65, none, .prim (.un .not (.tmp 64))⟩,
 ⟨some 66, none, .prim (.mov (.tmp 65))⟩,
 ⟨some 67, (some (66, true)), .call (.func 14) []⟩,
 ⟨some 68, none, .prim (.pick (.tmp 66) (.tmp 67) (.const (.bool false)))⟩,
 ⟨some 6, none, .prim (.mov (.tmp 68))⟩])
 .ret)))))))))
def o12 : List Tmp := []
def r12 : List RV := [.tmp 6]
theorem t12 : Text Try.prog 12 o12 c12 r12 69 := ⟨⟨Try.f12, _, by kernel_rfl, by kernel_rfl, rfl, by kernel_rfl, by kernel_rfl, rfl⟩, by kernel_rfl⟩
end Go.Proofs.Ytoadgajhkhejiaa
namespace Go.Proofs.Ytoadgajhkhejiaa
open Go Go.Ab Rex
set_option maxRecDepth 100000
def After (w : ByteArray) (x : Rex) : Prop := ∀ (σ : St) (S : List Bool), S.length = w.size + 1 → Ans Try.prog 121 [x.av, Sx w, bv S] σ (bv (daft w x S)) σ
end Go.Proofs.Ytoadgajhkhejiaa
namespace Go.Proofs.Ytoadgajhkhejiaa
open Go Go.Ab
set_option maxRecDepth 100000
open Rex
abbrev dob (s : ByteArray) (a d : Nat) (b : Bool) : Ob := .box [Sx s, I a, I d, Bo b]
section
variable (σ : St) (p : Nat) (s : ByteArray) (a d : Nat)
end
end Go.Proofs.Ytoadgajhkhejiaa
namespace Go.Proofs.Ytoadgajhkhejiaa
open Go Go.Ab
set_option maxRecDepth 100000
open Rex
abbrev DF := Nat → Rex × Nat × Nat × Bool
def DAns (f : FuncId) (g : Bool) (s : ByteArray) (d : Nat) (F : DF) : Prop :=
  ∀ (σ : St) (p a : Nat), p < σ.length → s.size ≤ 40 → (g = true → a < s.size) →
    Ans Try.prog f [.ptr p 0] (σ.set p (dob s a d false)) (F a).1.rv (σ.set p (dob s (F a).2.1 (F a).2.2.1 (F a).2.2.2))
section
variable {σ : St} {p : Nat} {s : ByteArray}
theorem DAns.ex {f : FuncId} {g : Bool} {d : Nat} {F : DF} (h : DAns f g s d F) (hp : p < σ.length) (a : Nat) (hs : s.size ≤ 40) (hg : g = true → a < s.size) (ex : St) :
    Ans Try.prog f [.ptr p 0] (σ.set p (dob s a d false) ++ ex) (F a).1.rv (σ.set p (dob s (F a).2.1 (F a).2.2.1 (F a).2.2.2) ++ ex) := by
  have := h (σ.set p (dob s a d false) ++ ex) p a (by simp; omega) hs hg
  rwa [sA hp, sA hp] at this
end
section
variable (s : ByteArray)
end
end Go.Proofs.Ytoadgajhkhejiaa
namespace Go.Proofs.Ytoadgajhkhejiaa
open Go Go.Ab
set_option maxRecDepth 100000
theorem mvs3_get (M : List Mtr) (i : Nat) (h : i < M.length) : (mvs3 M)[i]? = some (mv3 M[i]) := by simp [mvs3, h]
theorem mvs3_len (M : List Mtr) : (mvs3 M).length = M.length := List.length_map ..
abbrev noM3 : Mtr := (0, ⟨#[]⟩, ⟨#[]⟩)
def isM (x : Mtr) : Bool := isB x.1 x.2.1 x.2.2
def okL (M : List Mtr) (i : Nat) : Bool := isM (M.getD i noM3) && (i == 0 || aheadD (M.getD (i - 1) noM3) (M.getD i noM3))
def listB (M : List Mtr) : Bool := decide (M.length ≤ 5) && (List.range M.length).all (okL M)
theorem mget_D (M : List Mtr) (i : Nat) (h : i < M.length) : (mvs3 M)[i]? = some (mv3 (M.getD i noM3)) := by
  rw [mvs3_get M i h, List.getD_eq_getElem?_getD, List.getElem?_eq_getElem h]; rfl
end Go.Proofs.Ytoadgajhkhejiaa
namespace Go.Proofs.Ytoadgajhkhejiaa
open Go Go.Ab
set_option maxRecDepth 100000
theorem bel_mvs3 (n : Nat) (M : List Mtr) : Bel n (.sl 3 (mvs3 M)) := by
  refine .sl 3 _ fun i hi => ?_
  have : ∀ y ∈ mvs3 M, Bel n y := by
    intro y hy
    simp only [mvs3, List.mem_map] at hy
    obtain ⟨x, _, rfl⟩ := hy
    refine .agg _ fun i hi => ?_
    have : ∀ y ∈ ([I x.1, Sx x.2.1, Sx x.2.2] : List AV), Bel n y := by
      intro y hy
      simp only [List.mem_cons, List.not_mem_nil, or_false] at hy
      rcases hy with rfl | rfl | rfl <;> exact .pl _
    exact this _ (List.getElem_mem hi)
  exact this _ (List.getElem_mem hi)
theorem BL_mvs (n : Nat) (M : List Mtr) : Bel n (.sl 3 (mvs3 M)) = True := eq_true (bel_mvs3 n M)
theorem memM (n : Nat) (k : Int) (a b : ByteArray) : ∀ y ∈ ([I k, Sx a, Sx b] : List AV), Bel n y := by
  intro y hy
  simp only [List.mem_cons, List.not_mem_nil, or_false] at hy
  rcases hy with rfl | rfl | rfl <;> exact .pl _
theorem BL_mat (n : Nat) (k : Int) (a b : ByteArray) : Bel n (.agg [I k, Sx a, Sx b]) = True := eq_true (.agg _ fun i hi => memM n k a b _ (List.getElem_mem hi))
theorem BL_rp (n : Nat) (k : Int) (a b : ByteArray) : Bel n (.rp [I k, Sx a, Sx b]) = True := eq_true (.rp _ fun i hi => memM n k a b _ (List.getElem_mem hi))
theorem list_any (σ : St) (M : List Mtr) : Ans Try.prog 24 [.sl 3 (mvs3 M)] σ (Bo (listB M)) σ := by
  refine Ans.of_run' t24 (fun hbel _ => ?_)
  have d5 : decide ((5 : Int) < M.length) = decide (5 < M.length) := decN 5 _
  have hb0 : (∀ o ∈ σ, BelO σ.length o) = True := eq_true hbel
  unfold listB
  simp -implicitDefEqProofs only [c24, r24, go_sem, List.reduceReplicate, Nat.reduceAdd, Nat.reduceSub, Nat.reduceLT, Nat.reduceLeDiff, Nat.reduceMul, Nat.reduceEqDiff, reduceCtorEq, Int.reduceLE, Int.reduceLT, Int.reduceEq, Int.reduceNe, Int.reduceBEq, Int.reduceBNe, Int.reduceAdd, Int.reduceSub, mvs3_len, d5]
  by_cases hl : M.length ≤ 5
  · rw [decide_eq_true hl, Bool.true_and]
    have h5 : decide (5 < M.length) = false := decide_eq_false (by omega)
    simp -implicitDefEqProofs only [go_sem, List.reduceReplicate, Nat.reduceAdd, Nat.reduceSub, Nat.reduceLT, Nat.reduceLeDiff, Nat.reduceMul, Nat.reduceEqDiff, reduceCtorEq, Int.reduceLE, Int.reduceLT, Int.reduceEq, Int.reduceNe, Int.reduceBEq, Int.reduceBNe, Int.reduceAdd, Int.reduceSub, h5, mvs3_len]
    refine Go.Ab.L.scan M.length (okL M) (fun i => mkE 33 [(0, .sl 3 (mvs3 M)), (8, .sl 3 (mvs3 M)), (9, I M.length), (10, I i)]) (fun _ => σ) ?_ ?_ rfl rfl
    · intro i hi hp J hJ
      have htk : ∀ x : Ob, (σ ++ [x]).take σ.length = σ := fun x => List.take_left' rfl
      have hF : okL M i = false → (List.range M.length).all (okL M) = false := fun h => List.all_eq_false.2 ⟨i, List.mem_range.2 hi, by simp [h]⟩
      have hx := mget_D M i hi
      have hin := wrap_nat (n := i) (by omega)
      have hI := fun σ => is_any σ (M.getD i noM3).1 (M.getD i noM3).2.1 (M.getD i noM3).2.2
      have hO : okL M i = (isB (M.getD i noM3).1 (M.getD i noM3).2.1 (M.getD i noM3).2.2 && (i == 0 || aheadD (M.getD (i - 1) noM3) (M.getD i noM3))) := rfl
      have d0 : decide ((0 : Int) < i) = decide (0 < i) := decN 0 i
      rw [hO] at hJ hF
      simp -implicitDefEqProofs only [mkE, List.foldl_cons, List.foldl_nil, go_sem, List.reduceReplicate, Nat.reduceAdd, Nat.reduceSub, Nat.reduceLT, Nat.reduceLeDiff, Nat.reduceMul, Nat.reduceEqDiff, reduceCtorEq, Int.reduceLE, Int.reduceLT, Int.reduceEq, Int.reduceNe, Int.reduceBEq, Int.reduceBNe, Int.reduceAdd, Int.reduceSub, mvs3_len, nat_lt hi, dec_lt hi, hx, mv3, D_callS, g0, s0, List.drop_nil]
      first | refine CD.intro (hI _) ?_ | refine CS.intro hI ?_
      generalize isB (M.getD i noM3).1 (M.getD i noM3).2.1 (M.getD i noM3).2.2 = b1 at hJ hF
      cases b1 with
      | false =>
        simp -implicitDefEqProofs only [go_sem, List.reduceReplicate, Nat.reduceAdd, Nat.reduceSub, Nat.reduceLT, Nat.reduceLeDiff, Nat.reduceMul, Nat.reduceEqDiff, reduceCtorEq, Int.reduceLE, Int.reduceLT, Int.reduceEq, Int.reduceNe, Int.reduceBEq, Int.reduceBNe, Int.reduceAdd, Int.reduceSub, D_callS, g0, s0]
        rw [hF rfl]
        exact Fini.trim2 (σ' := σ) rfl rfl (Nat.le_refl _) (.pl _) hbel
      | true =>
        by_cases hz : i = 0
        · subst hz
          have hgo := hJ rfl
          simp -implicitDefEqProofs only [go_sem, List.reduceReplicate, Nat.reduceAdd, Nat.reduceSub, Nat.reduceLT, Nat.reduceLeDiff, Nat.reduceMul, Nat.reduceEqDiff, reduceCtorEq, Int.reduceLE, Int.reduceLT, Int.reduceEq, Int.reduceNe, Int.reduceBEq, Int.reduceBNe, Int.reduceAdd, Int.reduceSub, hin, D_callS, g0, s0, Int.natCast_zero, B_pl, B_any, B_nils, B_tup, B_osl, B_ptr, B_sl0, BL_mvs, BL_mat, BL_rp, htk, Nat.add_zero, hb0, List.length_append]
          exact ⟨by omega, hgo⟩
        · have hpos : decide (0 < i) = true := by simp; omega
          have hx1 := mget_D M (i - 1) (by omega)
          have hB := fun σ => compare_ans σ (M.getD (i - 1) noM3) (M.getD i noM3)
          have hc := cmp3_aheadD (M.getD (i - 1) noM3) (M.getD i noM3)
          have w1 : IntKind.i64.wrap ((i : Int) - 1) = ((i - 1 : Nat) : Int) := by rw [wrapN (by omega) (by omega)]; omega
          have hlt1 : (((i - 1 : Nat) : Int) < M.length) = True := by simp; omega
          have hz' : (i == 0) = false := by simpa using hz
          rw [hz'] at hJ hF
          simp -implicitDefEqProofs only [go_sem, List.reduceReplicate, Nat.reduceAdd, Nat.reduceSub, Nat.reduceLT, Nat.reduceLeDiff, Nat.reduceMul, Nat.reduceEqDiff, reduceCtorEq, Int.reduceLE, Int.reduceLT, Int.reduceEq, Int.reduceNe, Int.reduceBEq, Int.reduceBNe, Int.reduceAdd, Int.reduceSub, d0, hpos, w1, mvs3_len, nat_lt hi, dec_lt hi, hlt1, hx, hx1, D_callS, mv3, g0, s0]
          first | refine CD.intro (hB _) ?_ | refine CS.intro hB ?_
          generalize aheadD (M.getD (i - 1) noM3) (M.getD i noM3) = b2 at hJ hF hc
          generalize cmp3 (M.getD (i - 1) noM3) (M.getD i noM3) = cc at hc
          cases b2 with
          | true =>
            have hgo := hJ rfl
            simp -implicitDefEqProofs only [go_sem, List.reduceReplicate, Nat.reduceAdd, Nat.reduceSub, Nat.reduceLT, Nat.reduceLeDiff, Nat.reduceMul, Nat.reduceEqDiff, reduceCtorEq, Int.reduceLE, Int.reduceLT, Int.reduceEq, Int.reduceNe, Int.reduceBEq, Int.reduceBNe, Int.reduceAdd, Int.reduceSub, hc, hin, g0, s0, B_pl, B_any, B_nils, B_tup, B_osl, B_ptr, B_sl0, BL_mvs, BL_mat, BL_rp, htk, Nat.add_zero, hb0, List.length_append, Bool.not_true]
            exact ⟨by omega, hgo⟩
          | false =>
            simp -implicitDefEqProofs only [go_sem, List.reduceReplicate, Nat.reduceAdd, Nat.reduceSub, Nat.reduceLT, Nat.reduceLeDiff, Nat.reduceMul, Nat.reduceEqDiff, reduceCtorEq, Int.reduceLE, Int.reduceLT, Int.reduceEq, Int.reduceNe, Int.reduceBEq, Int.reduceBNe, Int.reduceAdd, Int.reduceSub, hc, Bool.not_false, g0, s0]
            rw [hF rfl]
            exact Fini.trim2 (σ' := σ) rfl rfl (Nat.le_refl _) (.pl _) hbel
    · intro hp J
      have hd : decide ((M.length : Int) < M.length) = false := by simp
      simp -implicitDefEqProofs only [mkE, List.foldl_cons, List.foldl_nil, go_sem, List.reduceReplicate, Nat.reduceAdd, Nat.reduceSub, Nat.reduceLT, Nat.reduceLeDiff, Nat.reduceMul, Nat.reduceEqDiff, reduceCtorEq, Int.reduceLE, Int.reduceLT, Int.reduceEq, Int.reduceNe, Int.reduceBEq, Int.reduceBNe, Int.reduceAdd, Int.reduceSub, mvs3_len, hd]
      refine Fini.ret' rfl (bo_congr ?_)
      exact (List.all_eq_true.2 fun i hi => hp i (List.mem_range.1 hi)).symm
  · rw [decide_eq_false hl, Bool.false_and]
    have h5 : decide (5 < M.length) = true := decide_eq_true (by omega)
    simp -implicitDefEqProofs only [go_sem, List.reduceReplicate, Nat.reduceAdd, Nat.reduceSub, Nat.reduceLT, Nat.reduceLeDiff, Nat.reduceMul, Nat.reduceEqDiff, reduceCtorEq, Int.reduceLE, Int.reduceLT, Int.reduceEq, Int.reduceNe, Int.reduceBEq, Int.reduceBNe, Int.reduceAdd, Int.reduceSub, h5]
    exact Fini.ret rfl
end Go.Proofs.Ytoadgajhkhejiaa
namespace Go.Proofs.Ytoadgajhkhejiaa
open Go Go.Ab Go.Cod
set_option maxRecDepth 100000
def mkM (x : UInt8 × ByteArray × ByteArray) : Mtr := ((x.1.toNat : Int), x.2.1, x.2.2)
def mtrR : Rd Mtr := dressR (seqR byteR (seqR (textR 12) (textR 40))) mkM
def listR : Rd (List Mtr) := onlyR (rowR 5 mtrR) listB
def putM (x : Mtr) : Byt := x.1.toNat.toUInt8 :: (txtB x.2.1 ++ txtB x.2.2)
def putL (M : List Mtr) : Byt := laidRow putM M
theorem ends_mtr : EndsR mtrR := ends_dress (ends_seq ends_byte (ends_seq (ends_text 12) (ends_text 40))) _
theorem mtr_fits : Fits mtrR putM (fun x => 0 ≤ x.1 ∧ x.1 < 256 ∧ x.2.1.size ≤ 12 ∧ x.2.2.size ≤ 40) := by
  refine dress_fits (seq_fits byte_fits (seq_fits (text_fits (by decide)) (text_fits (by decide)))) (g := fun x => (x.1.toNat.toUInt8, x.2.1, x.2.2)) ?_ ?_
  · rintro ⟨c, n, v⟩ ⟨_, h1, h2⟩
    have := c.toNat_lt
    refine ⟨⟨by simp only [mkM]; omega, by simp only [mkM]; omega, h1, h2⟩, ?_⟩
    simp only [putM, mkM, Int.toNat_natCast, toUInt8_toNat]
    rfl
  · rintro ⟨k, n, v⟩ ⟨h0, h1, h2, h3⟩
    refine ⟨⟨trivial, h2, h3⟩, ?_⟩
    simp only at h0 h1
    have : (k.toNat.toUInt8.toNat : Int) = k := by rw [toNat_toUInt8 (by omega)]; omega
    simp only [mkM, this]
theorem pparse_size {s : ByteArray} (h : (pparse s).2 = true) : s.size ≤ 40 := by
  unfold pparse at h
  rcases Nat.lt_or_ge 40 s.size with h40 | h40
  · exfalso
    have := (fwd_PW s 8 0 true).2 rfl
    simp [h40, this] at h
  · exact h40
theorem isB_kind {k : Int} {nm v : ByteArray} (h : isB k nm v = true) : (1 ≤ k ∧ k ≤ 4) ∧ nm.size ≤ 12 ∧ v.size ≤ 40 := by
  unfold isB nameB at h
  simp only [Bool.and_eq_true, decide_eq_true_eq] at h
  obtain ⟨⟨⟨⟨_, hn⟩, _⟩, _⟩, h2⟩ := h
  split at h2
  · rename_i hl
    unfold likeB at hl
    simp only [Bool.or_eq_true, beq_iff_eq] at hl
    exact ⟨by omega, hn, pparse_size h2⟩
  · simp only [Bool.and_eq_true, Bool.or_eq_true, beq_iff_eq, decide_eq_true_eq] at h2
    exact ⟨by omega, hn, by omega⟩
theorem listB_fits : Fits listR putL (fun M => listB M = true) := by
  refine (only_fits (row_fits (by decide) mtr_fits) listB).weaken fun M => ⟨fun h => h.2, fun h => ⟨?_, h⟩⟩
  unfold listB at h
  simp only [Bool.and_eq_true, decide_eq_true_eq] at h
  refine ⟨h.1, fun x hx => ?_⟩
  obtain ⟨i, hi, rfl⟩ := List.getElem_of_mem hx
  have h2 := List.all_eq_true.1 h.2 i (List.mem_range.2 hi)
  unfold okL isM at h2
  simp only [Bool.and_eq_true] at h2
  have e : M.getD i noM3 = M[i] := by rw [List.getD_eq_getElem?_getD, List.getElem?_eq_getElem hi]; rfl
  rw [e] at h2
  have := isB_kind h2.1
  omega
def mtrS (b : Byt) (q : Nat × Bool) : Mtr × (Nat × Bool) := dressSt (seqSt (runR byteR 0 b) (seqSt (runR (textR 12) ⟨#[]⟩ b) (runR (textR 40) ⟨#[]⟩ b))) mkM q
theorem steps_mtr (b : Byt) : StepsR b mtrR (mtrS b) := steps_dress (steps_seq (steps_run b byteR 0) (steps_seq (steps_run b _ _) (steps_run b _ _) (ends_text 12)) ends_byte) _
def listS (b : Byt) : Nat × Bool → List Mtr × (Nat × Bool) := onlySt (rowSt 5 b (mtrS b)) listB
theorem steps_list (b : Byt) : StepsR b listR (listS b) := steps_only (steps_row (steps_mtr b) ends_mtr 5) _
def readV {α : Type} (r : Option (α × Byt)) (b : Byt) (enc : α → AV) (none_ : AV) : AV := match r with
  | some p => .tup [enc p.1, I (b.length - p.2.length : Nat), Bo true]
  | none => .tup [none_, I 0, Bo false]
theorem runR_le {most : Nat} (b : Byt) (q : Nat × Bool) : (runR (numR most) 0 b q).1 ≤ most := by
  unfold runR
  split
  · exact Nat.zero_le _
  · split
    · exact Nat.zero_le _
    · rename_i p h
      simp only [numR] at h
      cases hg : getN 0 (b.drop q.1) with
      | none => simp [hg] at h
      | some x =>
        simp only [hg, Option.bind_some] at h
        split at h
        · simp only [Option.some.injEq] at h; rw [← h]; assumption
        · cases h
theorem mvs3_snoc (M : List Mtr) (x : Mtr) : mvs3 M ++ [mv3 x] = mvs3 (M ++ [x]) := by simp [mvs3]
theorem bel_tup3 {n : Nat} {x : AV} {i : Int} {c : Bool} (h : Bel n x) : Bel n (.tup [x, I i, Bo c]) := .tup _ fun j hj => by
  have : ∀ y ∈ ([x, I i, Bo c] : List AV), Bel n y := by
    intro y hy
    simp only [List.mem_cons, List.not_mem_nil, or_false] at hy
    rcases hy with rfl | rfl | rfl
    · exact h
    · exact .pl _
    · exact .pl _
  exact this _ (List.getElem_mem hj)
theorem mread_ans0 (σ : St) (b : Byt) (hb : b.length ≤ 50000) : Ans Try.prog 41 [.sl 1 (byv b)] σ (readV (listR b) b (fun M => .sl 3 (mvs3 M)) .nils) σ := by
  have hS := (steps_list b).top
  refine Ans.of_run' t41 (fun hbel _ => ?_)
  simp -implicitDefEqProofs only [c41, r41, go_sem, List.reduceReplicate, Nat.reduceAdd, Nat.reduceSub, Nat.reduceLT, Nat.reduceLeDiff, Nat.reduceMul, Nat.reduceEqDiff, reduceCtorEq, Int.reduceLE, Int.reduceLT, Int.reduceEq, Int.reduceNe, Int.reduceBEq, Int.reduceBNe, Int.reduceAdd, Int.reduceSub]
  refine CO.intro (new_ans σ b) ?_
  simp -implicitDefEqProofs only [go_sem, List.reduceReplicate, Nat.reduceAdd, Nat.reduceSub, Nat.reduceLT, Nat.reduceLeDiff, Nat.reduceMul, Nat.reduceEqDiff, reduceCtorEq, Int.reduceLE, Int.reduceLT, Int.reduceEq, Int.reduceNe, Int.reduceBEq, Int.reduceBNe, Int.reduceAdd, Int.reduceSub, List.append_assoc, List.length_append]
  generalize hq1 : runR (numR 5) 0 b (0, false) = q1
  have hin0 : Inb b (0, false) := Nat.zero_le _
  have hn := num_ans (σ ++ [rob b (0, false), .row 3 []]) σ.length b (0, false) 5 (by decide) (g0 _ _ _) hin0 hb
  rw [hq1, s0] at hn
  refine CO.intro hn ?_
  have hn5 : q1.1 ≤ 5 := by rw [← hq1]; exact runR_le b _
  have hin1 : Inb b q1.2 := by rw [← hq1]; exact run_inb _ _ _ _ hin0
  simp -implicitDefEqProofs only [go_sem, List.reduceReplicate, Nat.reduceAdd, Nat.reduceSub, Nat.reduceLT, Nat.reduceLeDiff, Nat.reduceMul, Nat.reduceEqDiff, reduceCtorEq, Int.reduceLE, Int.reduceLT, Int.reduceEq, Int.reduceNe, Int.reduceBEq, Int.reduceBNe, Int.reduceAdd, Int.reduceSub]
  refine Go.Ab.L.count q1.1 (fun i => mkE 40 [(5, .ptr σ.length 0), (6, .osl (σ.length + 1) i), (12, UN q1.1), (13, UN i)]) (fun i => σ ++ [rob b (itSt (mtrS b) q1.2 i).2, .row 3 (mvs3 (itSt (mtrS b) q1.2 i).1)]) ?_ ?_ rfl rfl
  · intro i hi J hJ
    have hitI := itSt_inb (steps_mtr b).inb q1.2 hin1 i
    have hlen := itSt_len (mtrS b) q1.2 i
    simp only [itSt] at hJ
    generalize itSt (mtrS b) q1.2 i = c at hJ hitI hlen ⊢
    obtain ⟨l, q⟩ := c
    simp only at hJ hitI hlen ⊢
    have d0 : decide ((i : Int) < q1.1) = true := dec_lt hi
    have w0 := wrapUN (n := i + 1) (by omega)
    have e0 : ((i : Int) + 1) = ((i + 1 : Nat) : Int) := rfl
    unfold mtrS dressSt seqSt at hJ
    simp only at hJ
    simp -implicitDefEqProofs only [mkE, List.foldl_cons, List.foldl_nil, go_sem, List.reduceReplicate, Nat.reduceAdd, Nat.reduceSub, Nat.reduceLT, Nat.reduceLeDiff, Nat.reduceMul, Nat.reduceEqDiff, reduceCtorEq, Int.reduceLE, Int.reduceLT, Int.reduceEq, Int.reduceNe, Int.reduceBEq, Int.reduceBNe, Int.reduceAdd, Int.reduceSub, d0]
    have h1 := byte_ans' (σ ++ [rob b q, .row 3 (mvs3 l)]) σ.length b q (g0 _ _ _) hitI hb
    have hi2 := run_inb byteR 0 b q hitI
    generalize runR byteR 0 b q = r1 at h1 hi2 hJ
    rw [s0] at h1
    refine CO.intro h1 ?_
    have h2 := text_ans (σ ++ [rob b r1.2, .row 3 (mvs3 l)]) σ.length b r1.2 12 (by decide) (g0 _ _ _) hi2 hb
    have hi3 := run_inb (textR 12) ⟨#[]⟩ b r1.2 hi2
    generalize runR (textR 12) ⟨#[]⟩ b r1.2 = r2 at h2 hi3 hJ
    rw [s0] at h2
    simp -implicitDefEqProofs only [go_sem, List.reduceReplicate, Nat.reduceAdd, Nat.reduceSub, Nat.reduceLT, Nat.reduceLeDiff, Nat.reduceMul, Nat.reduceEqDiff, reduceCtorEq, Int.reduceLE, Int.reduceLT, Int.reduceEq, Int.reduceNe, Int.reduceBEq, Int.reduceBNe, Int.reduceAdd, Int.reduceSub, bc]
    refine CO.intro h2 ?_
    have h3 := text_ans (σ ++ [rob b r2.2, .row 3 (mvs3 l)]) σ.length b r2.2 40 (by decide) (g0 _ _ _) hi3 hb
    generalize runR (textR 40) ⟨#[]⟩ b r2.2 = r3 at h3 hJ
    rw [s0] at h3
    simp -implicitDefEqProofs only [go_sem, List.reduceReplicate, Nat.reduceAdd, Nat.reduceSub, Nat.reduceLT, Nat.reduceLeDiff, Nat.reduceMul, Nat.reduceEqDiff, reduceCtorEq, Int.reduceLE, Int.reduceLT, Int.reduceEq, Int.reduceNe, Int.reduceBEq, Int.reduceBNe, Int.reduceAdd, Int.reduceSub]
    refine CO.intro h3 ?_
    have hl : (mvs3 l).length = i := by rw [mvs3_len, hlen]
    have hw : IntKind.i64.wrap (r1.1.toNat : Int) = (r1.1.toNat : Int) := wrapI (by have := r1.1.toNat_lt; omega)
    have hle : i + 1 ≤ 4294967296 := by omega
    have hsn := mvs3_snoc l (mkM (r1.1, r2.1, r3.1))
    simp -implicitDefEqProofs only [go_sem, List.reduceReplicate, Nat.reduceAdd, Nat.reduceSub, Nat.reduceLT, Nat.reduceLeDiff, Nat.reduceMul, Nat.reduceEqDiff, reduceCtorEq, Int.reduceLE, Int.reduceLT, Int.reduceEq, Int.reduceNe, Int.reduceBEq, Int.reduceBNe, Int.reduceAdd, Int.reduceSub, hw, g1, s1, hl, hle, List.length_singleton, e0, w0]
    rw [← hsn] at hJ
    exact hJ
  · intro J
    have hitI := itSt_inb (steps_mtr b).inb q1.2 hin1 q1.1
    have hlen := itSt_len (mtrS b) q1.2 q1.1
    have hL : listS b (0, false) = ((itSt (mtrS b) q1.2 q1.1).1, took (itSt (mtrS b) q1.2 q1.1).2 0 (listB (itSt (mtrS b) q1.2 q1.1).1)) := by
      unfold listS onlySt rowSt
      rw [hq1]
    rw [hL] at hS
    generalize itSt (mtrS b) q1.2 q1.1 = c at hS hitI hlen ⊢
    obtain ⟨l, q⟩ := c
    simp only at hS hitI hlen ⊢
    have hl : (mvs3 l).length = q1.1 := by rw [mvs3_len, hlen]
    have d0 : decide ((q1.1 : Int) < q1.1) = false := by simp
    simp -implicitDefEqProofs only [mkE, List.foldl_cons, List.foldl_nil, go_sem, List.reduceReplicate, Nat.reduceAdd, Nat.reduceSub, Nat.reduceLT, Nat.reduceLeDiff, Nat.reduceMul, Nat.reduceEqDiff, reduceCtorEq, Int.reduceLE, Int.reduceLT, Int.reduceEq, Int.reduceNe, Int.reduceBEq, Int.reduceBNe, Int.reduceAdd, Int.reduceSub, d0, g1, s1, hl]
    refine CO.intro (list_any _ l) ?_
    have h2 := refuse_ans (σ ++ [rob b q, .dead]) σ.length b q (listB l) (g0 _ _ _) hitI hb
    rw [s0] at h2
    simp -implicitDefEqProofs only [go_sem, List.reduceReplicate, Nat.reduceAdd, Nat.reduceSub, Nat.reduceLT, Nat.reduceLeDiff, Nat.reduceMul, Nat.reduceEqDiff, reduceCtorEq, Int.reduceLE, Int.reduceLT, Int.reduceEq, Int.reduceNe, Int.reduceBEq, Int.reduceBNe, Int.reduceAdd, Int.reduceSub]
    refine CO.intro h2 ?_
    have h3 := end_ans (σ ++ [rob b (took q 0 (listB l)), .dead]) σ.length b (took q 0 (listB l)) (g0 _ _ _)
    simp -implicitDefEqProofs only [go_sem, List.reduceReplicate, Nat.reduceAdd, Nat.reduceSub, Nat.reduceLT, Nat.reduceLeDiff, Nat.reduceMul, Nat.reduceEqDiff, reduceCtorEq, Int.reduceLE, Int.reduceLT, Int.reduceEq, Int.reduceNe, Int.reduceBEq, Int.reduceBNe, Int.reduceAdd, Int.reduceSub]
    refine CO.intro h3 ?_
    have hbm : Bel σ.length (.sl 3 (mvs3 l)) := bel_mvs3 _ _
    cases hr : listR b with
    | none =>
      have hb2 := hS.2 hr
      rw [hb2]
      simp -implicitDefEqProofs only [go_sem, List.reduceReplicate, Nat.reduceAdd, Nat.reduceSub, Nat.reduceLT, Nat.reduceLeDiff, Nat.reduceMul, Nat.reduceEqDiff, reduceCtorEq, Int.reduceLE, Int.reduceLT, Int.reduceEq, Int.reduceNe, Int.reduceBEq, Int.reduceBNe, Int.reduceAdd, Int.reduceSub]
      exact Fini.trim2 (σ' := σ) rfl rfl (Nat.le_refl _) (by unfold readV; exact bel_tup3 .nils) hbel
    | some p =>
      obtain ⟨M, t⟩ := p
      have hb2 := hS.1 M t hr
      simp only [Prod.mk.injEq] at hb2
      obtain ⟨rfl, hb2⟩ := hb2
      rw [hb2]
      simp -implicitDefEqProofs only [go_sem, List.reduceReplicate, Nat.reduceAdd, Nat.reduceSub, Nat.reduceLT, Nat.reduceLeDiff, Nat.reduceMul, Nat.reduceEqDiff, reduceCtorEq, Int.reduceLE, Int.reduceLT, Int.reduceEq, Int.reduceNe, Int.reduceBEq, Int.reduceBNe, Int.reduceAdd, Int.reduceSub]
      refine Fini.trim2 (σ' := σ) rfl rfl (Nat.le_refl _) ?_ hbel
      unfold readV
      exact bel_tup3 hbm
theorem mread_ans (σ : St) (b : Byt) (hb : b.length ≤ 50000) : Ans Try.prog 41 [.sl 1 (byv b)] σ (readV (listR b) b (fun M => .sl 3 (mvs3 M)) (.sl 3 [])) σ := by
  refine (mread_ans0 σ b hb).subR ?_
  unfold readV
  cases listR b with
  | none => exact .tup (.cons (.nils 3) (.refl _))
  | some p => exact .refl _
end Go.Proofs.Ytoadgajhkhejiaa
namespace Go.Proofs.Ytoadgajhkhejiaa
open Go Go.Ab Go.Cod
set_option maxRecDepth 100000
theorem txtB_len (s : ByteArray) (h : s.size ≤ 1000000) : (txtB s).length ≤ 10 + s.size := by
  have h10 := putN_len10 (n := s.size) (by omega)
  rw [txtB, List.length_append, size_list]
  omega
theorem listB_at {M : List Mtr} (h : listB M = true) : M.length ≤ 5 ∧ ∀ x ∈ M, (1 ≤ x.1 ∧ x.1 ≤ 4) ∧ x.2.1.size ≤ 12 ∧ x.2.2.size ≤ 40 := by
  unfold listB at h
  simp only [Bool.and_eq_true, decide_eq_true_eq] at h
  refine ⟨h.1, fun x hx => ?_⟩
  obtain ⟨i, hi, rfl⟩ := List.getElem_of_mem hx
  have h2 := List.all_eq_true.1 h.2 i (List.mem_range.2 hi)
  unfold okL isM at h2
  simp only [Bool.and_eq_true] at h2
  have e : M.getD i noM3 = M[i] := by rw [List.getD_eq_getElem?_getD, List.getElem?_eq_getElem hi]; rfl
  rw [e] at h2
  exact isB_kind h2.1
def preL (M : List Mtr) (i : Nat) : Byt := putN M.length ++ laidMany putM (M.take i)
theorem preL_succ (M : List Mtr) (i : Nat) (h : i < M.length) : preL M (i + 1) = preL M i ++ putM M[i] := by
  unfold preL laidMany
  rw [List.take_succ_eq_append_getElem h, List.flatMap_append, List.append_assoc]
  simp
theorem preL_all (M : List Mtr) : preL M M.length = putL M := by unfold preL putL laidRow; rw [List.take_length]
theorem preL_len {M : List Mtr} (h : listB M = true) : ∀ i, i ≤ M.length → (preL M i).length ≤ 10 + 100 * i
  | 0, _ => by
    have := (listB_at h).1
    unfold preL laidMany
    simp only [List.take_zero, List.flatMap_nil, List.append_nil]
    have := putN_len10 (n := M.length) (by omega)
    omega
  | i + 1, hi => by
    have ih := preL_len h i (by omega)
    have hx := (listB_at h).2 M[i] (List.getElem_mem (by omega))
    have h1 := txtB_len (M[i]).2.1 (by omega)
    have h2 := txtB_len (M[i]).2.2 (by omega)
    rw [preL_succ M i (by omega), List.length_append]
    unfold putM
    simp only [List.length_cons, List.length_append]
    omega
def bytesL (M : List Mtr) : Byt := if listB M then putL M else []
theorem kind_bc {k : Int} (h : 1 ≤ k ∧ k ≤ 4) : IntKind.u8.wrap k = ((k.toNat.toUInt8.toNat : Nat) : Int) := by
  obtain ⟨n, rfl⟩ := Int.eq_ofNat_of_zero_le (show 0 ≤ k by omega)
  have : n < 256 := by omega
  rw [wrap8N, Nat.mod_eq_of_lt this, Int.toNat_natCast, toNat_toUInt8 this]
section
variable (σ : St)
theorem mbytes_ans (M : List Mtr) : Ans Try.prog 43 [.sl 3 (mvs3 M)] σ (.sl 1 (byv (bytesL M))) σ := by
  unfold bytesL
  cases hL : listB M with
  | false =>
    have : Ans Try.prog 43 [.sl 3 (mvs3 M)] σ .nils σ := by
      refine Ans.of_run t43 ?_
      simp -implicitDefEqProofs only [c43, r43, go_sem, List.reduceReplicate, Nat.reduceAdd, Nat.reduceSub, Nat.reduceLT, Nat.reduceLeDiff, Nat.reduceMul, Nat.reduceEqDiff, reduceCtorEq, Int.reduceLE, Int.reduceLT, Int.reduceEq, Int.reduceNe, Int.reduceBEq, Int.reduceBNe, Int.reduceAdd, Int.reduceSub]
      refine CO.intro (list_any σ M) ?_
      rw [hL]
      simp -implicitDefEqProofs only [go_sem, List.reduceReplicate, Nat.reduceAdd, Nat.reduceSub, Nat.reduceLT, Nat.reduceLeDiff, Nat.reduceMul, Nat.reduceEqDiff, reduceCtorEq, Int.reduceLE, Int.reduceLT, Int.reduceEq, Int.reduceNe, Int.reduceBEq, Int.reduceBNe, Int.reduceAdd, Int.reduceSub]
      exact Fini.ret rfl
    exact this.subR (.nils 1)
  | true =>
    obtain ⟨h5, hM⟩ := listB_at hL
    have hpl := preL_len hL
    have hw := wrapUN (n := M.length) (by omega)
    have e00 : preL M 0 = putN M.length := by simp [preL, laidMany]
    refine Ans.of_run' t43 (fun hbel _ => ?_)
    simp -implicitDefEqProofs only [c43, r43, go_sem, List.reduceReplicate, Nat.reduceAdd, Nat.reduceSub, Nat.reduceLT, Nat.reduceLeDiff, Nat.reduceMul, Nat.reduceEqDiff, reduceCtorEq, Int.reduceLE, Int.reduceLT, Int.reduceEq, Int.reduceNe, Int.reduceBEq, Int.reduceBNe, Int.reduceAdd, Int.reduceSub]
    refine CO.intro (list_any σ M) ?_
    rw [hL]
    simp -implicitDefEqProofs only [go_sem, List.reduceReplicate, Nat.reduceAdd, Nat.reduceSub, Nat.reduceLT, Nat.reduceLeDiff, Nat.reduceMul, Nat.reduceEqDiff, reduceCtorEq, Int.reduceLE, Int.reduceLT, Int.reduceEq, Int.reduceNe, Int.reduceBEq, Int.reduceBNe, Int.reduceAdd, Int.reduceSub, mvs3_len, hw]
    refine CO.intro (put_ans σ M.length (by omega)) ?_
    simp -implicitDefEqProofs only [go_sem, List.reduceReplicate, Nat.reduceAdd, Nat.reduceSub, Nat.reduceLT, Nat.reduceLeDiff, Nat.reduceMul, Nat.reduceEqDiff, reduceCtorEq, Int.reduceLE, Int.reduceLT, Int.reduceEq, Int.reduceNe, Int.reduceBEq, Int.reduceBNe, Int.reduceAdd, Int.reduceSub, mvs3_len]
    refine Go.Ab.L.count M.length (fun i => mkE 37 [(3, .osl σ.length (preL M i).length), (13, .sl 3 (mvs3 M)), (14, I M.length), (15, I i)]) (fun i => σ ++ [.row 1 (byv (preL M i))]) ?_ ?_ (by rw [e00]; rfl) (by rw [e00])
    · intro i hi J hJ
      have hx := mvs3_get M i hi
      have hxm := hM M[i] (List.getElem_mem hi)
      have hp := hpl (i + 1) (by omega)
      rw [preL_succ M i hi] at hJ hp
      generalize M[i] = x at hx hxm hJ hp
      obtain ⟨k, nm, v⟩ := x
      simp only at hxm
      generalize preL M i = pre at hJ hp ⊢
      have hkb := kind_bc hxm.1
      have hin := wrap_succ (i := i) (by omega)
      have h1 := txtB_len nm (by omega)
      have h2 := txtB_len v (by omega)
      unfold putM at hJ hp
      simp only [List.length_append, List.length_cons] at hp
      have l1 : pre.length + 1 ≤ 4294967296 := by omega
      have l2 : pre.length + 1 + (txtB nm).length ≤ 4294967296 := by omega
      have l3 : pre.length + 1 + (txtB nm).length + (txtB v).length ≤ 4294967296 := by omega
      simp -implicitDefEqProofs only [mkE, List.foldl_cons, List.foldl_nil, go_sem, List.reduceReplicate, Nat.reduceAdd, Nat.reduceSub, Nat.reduceLT, Nat.reduceLeDiff, Nat.reduceMul, Nat.reduceEqDiff, reduceCtorEq, Int.reduceLE, Int.reduceLT, Int.reduceEq, Int.reduceNe, Int.reduceBEq, Int.reduceBNe, Int.reduceAdd, Int.reduceSub, mvs3_len, nat_lt hi, dec_lt hi, hx, mv3, hkb, g0, s0, byv_len, l1, List.length_singleton]
      refine CO.intro (puttext_ans _ nm (by omega)) ?_
      simp -implicitDefEqProofs only [go_sem, List.reduceReplicate, Nat.reduceAdd, Nat.reduceSub, Nat.reduceLT, Nat.reduceLeDiff, Nat.reduceMul, Nat.reduceEqDiff, reduceCtorEq, Int.reduceLE, Int.reduceLT, Int.reduceEq, Int.reduceNe, Int.reduceBEq, Int.reduceBNe, Int.reduceAdd, Int.reduceSub, g0, s0, byv_len, byv_all', bc, l1, l2, List.length_append, List.length_singleton]
      refine CO.intro (puttext_ans _ v (by omega)) ?_
      simp -implicitDefEqProofs only [go_sem, List.reduceReplicate, Nat.reduceAdd, Nat.reduceSub, Nat.reduceLT, Nat.reduceLeDiff, Nat.reduceMul, Nat.reduceEqDiff, reduceCtorEq, Int.reduceLE, Int.reduceLT, Int.reduceEq, Int.reduceNe, Int.reduceBEq, Int.reduceBNe, Int.reduceAdd, Int.reduceSub, g0, s0, byv_len, byv_all', bc, l1, l2, l3, List.length_append, List.length_singleton, hin]
      have e : pre ++ k.toNat.toUInt8 :: (txtB nm ++ txtB v) = pre ++ [k.toNat.toUInt8] ++ txtB nm ++ txtB v := by simp
      simp only at hJ
      rw [e] at hJ
      simp only [byv_append, List.length_append, List.length_singleton] at hJ
      exact hJ
    · intro J
      have d0 : decide ((M.length : Int) < M.length) = false := by simp
      simp -implicitDefEqProofs only [mkE, List.foldl_cons, List.foldl_nil, go_sem, List.reduceReplicate, Nat.reduceAdd, Nat.reduceSub, Nat.reduceLT, Nat.reduceLeDiff, Nat.reduceMul, Nat.reduceEqDiff, reduceCtorEq, Int.reduceLE, Int.reduceLT, Int.reduceEq, Int.reduceNe, Int.reduceBEq, Int.reduceBNe, Int.reduceAdd, Int.reduceSub, d0, g0, s0, byv_len]
      exact Fini.trim2 (σ' := σ) (by rw [preL_all]; rfl) rfl (Nat.le_refl _) (by first | exact bel_byv _ _ | (rw [preL_all]; exact bel_byv _ _)) hbel
end
end Go.Proofs.Ytoadgajhkhejiaa
namespace Go.Proofs.Ytoadgajhkhejiaa
open Go Go.Ab Go.Cod Go.ChangeShapes Go.WideShapes Go.ChangeAt Go.RowKit
set_option maxRecDepth 100000
def eqMt (x y : Mtr) : Bool := x.1 == y.1 && (x.2.1.toList == y.2.1.toList && (x.2.2.toList == y.2.2.toList && true))
def sameM (A B : List Mtr) : Bool := decide (A.length = B.length) && (List.range A.length).all fun i => eqMt (A.getD i noM3) (B.getD i noM3)
theorem eqMt_refl (x : Mtr) : eqMt x x = true := by simp [eqMt]
theorem sameM_refl (A : List Mtr) : sameM A A = true := by simp [sameM, eqMt_refl]
theorem samem_ans (σ : St) (A B : List Mtr) (hA : A.length ≤ 1000) : Ans Try.prog 45 [.sl 3 (mvs3 A), .sl 3 (mvs3 B)] σ (Bo (sameM A B)) σ := by
  refine Ans.of_run t45 ?_
  have e0 : ((A.length : Int) != B.length) = !decide (A.length = B.length) := by
    rw [Bool.eq_iff_iff]; simp only [bne_iff_ne, Bool.not_eq_true', decide_eq_false_iff_not]; omega
  unfold sameM
  by_cases hl : A.length = B.length
  · rw [decide_eq_true hl, Bool.true_and]
    rw [decide_eq_true hl] at e0
    simp -implicitDefEqProofs only [c45, r45, go_sem, List.reduceReplicate, Nat.reduceAdd, Nat.reduceSub, Nat.reduceLT, Nat.reduceLeDiff, Nat.reduceMul, Nat.reduceEqDiff, reduceCtorEq, Int.reduceLE, Int.reduceLT, Int.reduceEq, Int.reduceNe, Int.reduceBEq, Int.reduceBNe, Int.reduceAdd, Int.reduceSub, mvs3_len, e0]
    refine Go.Ab.L.scan A.length (fun i => eqMt (A.getD i noM3) (B.getD i noM3)) (fun i => mkE 26 [(0, .sl 3 (mvs3 A)), (1, .sl 3 (mvs3 B)), (5, I i)]) (fun _ => σ) ?_ ?_ rfl rfl
    · intro i hi hp J hJ
      have hx := mget_D A i hi
      have hy := mget_D B i (by omega)
      have hlB : ((i : Int) < B.length) = True := by simp; omega
      have hF : eqMt (A.getD i noM3) (B.getD i noM3) = false → ((List.range A.length).all fun i => eqMt (A.getD i noM3) (B.getD i noM3)) = false := fun h => List.all_eq_false.2 ⟨i, List.mem_range.2 hi, by rw [h]; decide⟩
      have hin := wrap_succ (i := i) (by omega)
      generalize A.getD i noM3 = x at hx hJ hF
      generalize B.getD i noM3 = y at hy hJ hF
      simp -implicitDefEqProofs only [mkE, List.foldl_cons, List.foldl_nil, go_sem, List.reduceReplicate, Nat.reduceAdd, Nat.reduceSub, Nat.reduceLT, Nat.reduceLeDiff, Nat.reduceMul, Nat.reduceEqDiff, reduceCtorEq, Int.reduceLE, Int.reduceLT, Int.reduceEq, Int.reduceNe, Int.reduceBEq, Int.reduceBNe, Int.reduceAdd, Int.reduceSub, mvs3_len, nat_lt hi, dec_lt hi, hlB, hx, hy, mv3, Bool.true_xor]
      cases hb : eqMt x y with
      | true =>
        have hgo := hJ hb
        have hb' : (x.1 == y.1 && (x.2.1.toList == y.2.1.toList && (x.2.2.toList == y.2.2.toList && true))) = true := hb
        simp only [Bool.and_true] at hb'
        simp -implicitDefEqProofs only [go_sem, List.reduceReplicate, Nat.reduceAdd, Nat.reduceSub, Nat.reduceLT, Nat.reduceLeDiff, Nat.reduceMul, Nat.reduceEqDiff, reduceCtorEq, Int.reduceLE, Int.reduceLT, Int.reduceEq, Int.reduceNe, Int.reduceBEq, Int.reduceBNe, Int.reduceAdd, Int.reduceSub, hb', hin]
        exact hgo
      | false =>
        have hb' : (x.1 == y.1 && (x.2.1.toList == y.2.1.toList && (x.2.2.toList == y.2.2.toList && true))) = false := hb
        simp only [Bool.and_true] at hb'
        rw [hF hb]
        simp -implicitDefEqProofs only [go_sem, List.reduceReplicate, Nat.reduceAdd, Nat.reduceSub, Nat.reduceLT, Nat.reduceLeDiff, Nat.reduceMul, Nat.reduceEqDiff, reduceCtorEq, Int.reduceLE, Int.reduceLT, Int.reduceEq, Int.reduceNe, Int.reduceBEq, Int.reduceBNe, Int.reduceAdd, Int.reduceSub, hb']
        exact Fini.ret rfl
    · intro hp J
      have hd : decide ((A.length : Int) < A.length) = false := by simp
      simp -implicitDefEqProofs only [mkE, List.foldl_cons, List.foldl_nil, go_sem, List.reduceReplicate, Nat.reduceAdd, Nat.reduceSub, Nat.reduceLT, Nat.reduceLeDiff, Nat.reduceMul, Nat.reduceEqDiff, reduceCtorEq, Int.reduceLE, Int.reduceLT, Int.reduceEq, Int.reduceNe, Int.reduceBEq, Int.reduceBNe, Int.reduceAdd, Int.reduceSub, mvs3_len, hd]
      refine Fini.ret' rfl (bo_congr ?_)
      exact (List.all_eq_true.2 fun i hi => hp i (List.mem_range.1 hi)).symm
  · rw [decide_eq_false hl, Bool.false_and]
    rw [decide_eq_false hl] at e0
    simp -implicitDefEqProofs only [c45, r45, go_sem, List.reduceReplicate, Nat.reduceAdd, Nat.reduceSub, Nat.reduceLT, Nat.reduceLeDiff, Nat.reduceMul, Nat.reduceEqDiff, reduceCtorEq, Int.reduceLE, Int.reduceLT, Int.reduceEq, Int.reduceNe, Int.reduceBEq, Int.reduceBNe, Int.reduceAdd, Int.reduceSub, mvs3_len, e0]
    exact Fini.ret rfl
theorem wf8 {n : Int} (h : (Lit.int .u8 n).wf = true) : 0 ≤ n ∧ n < 256 := by
  simp [Lit.wf, IntKind.min, IntKind.max, IntKind.bits, IntKind.signed] at h
  omega
theorem byts_of : ∀ {ys : List (List AV)}, (∀ y ∈ ys, QInt .u8 y) → ∃ b : Byt, ys.map (wrapC false) = byv b
  | [], _ => ⟨[], rfl⟩
  | y :: ys, h => by
    obtain ⟨m, hm, rfl⟩ := h y List.mem_cons_self
    obtain ⟨b, hb⟩ := byts_of (ys := ys) (fun z hz => h z (List.mem_cons_of_mem _ hz))
    obtain ⟨h0, h1⟩ := wf8 hm
    obtain ⟨n, rfl⟩ := Int.eq_ofNat_of_zero_le h0
    refine ⟨n.toUInt8 :: b, ?_⟩
    rw [List.map_cons, hb, byv_cons, ← bc_of (show n < 256 by omega)]
    rfl
theorem byts_arg {H : Type} {enc : TypeId × Value → H} {W : World} {base : Nat} {v : Value} {d : DataW H} {ps : List MemPlace} (hv : Value.okWide Try.prog W .any base 69 v)
    (h : DataW.Trod enc Try.prog W 0 (fun _ => true) true 69 v d ps) : ∃ b : Byt, Rep noM noR W (.sl 1 (byv b)) v := by
  obtain ⟨sa, len, cap, rfl⟩ := okWide_slice Try.underlying69 hv
  obtain ⟨x, hx, hq⟩ := Reads.arg (P := Try.prog) (t := 69) (Q := QSlice 1 false (QInt .u8)) (fun f => by
    cases f with
    | zero => exact Reads.zero
    | succ f => exact Reads.slice false Try.underlying69 (by kernel_rfl) (by decide) (Reads.int Try.underlying5 f) (fun y hy _ => by obtain ⟨n, _, rfl⟩ := hy; rfl)) rfl h
  rcases hq with hq | ⟨ys, hys, _, hq⟩
  · simp only [List.cons.injEq, and_true] at hq
    subst hq
    refine ⟨[], ?_⟩
    have := hx.nils_inv
    rw [this]
    exact .sl0 _ _ _
  · obtain ⟨b, hn⟩ := byts_of hys
    simp only [List.cons.injEq, and_true] at hq
    subst hq
    rw [hn] at hx
    exact ⟨b, hx⟩
end Go.Proofs.Ytoadgajhkhejiaa
namespace Go.Proofs.Ytoadgajhkhejiaa
open Go Go.Ab
set_option maxRecDepth 100000
def vals8 : List ByteArray := values ++ [⟨#[]⟩]
abbrev Mz := Int × ByteArray × ByteArray
abbrev mv (x : Mz) : AV := mat x.1 x.2.1 x.2.2
def mvs (M : List Mz) : List AV := M.map mv
abbrev noM' : Mz := (0, ⟨#[]⟩, ⟨#[]⟩)
theorem mvs_len (M : List Mz) : (mvs M).length = M.length := List.length_map ..
theorem mvs_get (M : List Mz) (i : Nat) (h : i < M.length) : (mvs M)[i]? = some (mv M[i]) := by simp [mvs, h]
theorem mvs_take (L : List Mz) (k : Nat) : (mvs L).take k = mvs (L.take k) := by simp [mvs]
theorem mvs_drop (L : List Mz) (k : Nat) : (mvs L).drop k = mvs (L.drop k) := by simp [mvs]
theorem mvs_all (L : List Mz) (f : AV → Bool) (h : ∀ x : Mz, f (mv x) = true) : (mvs L).all f = true := by
  simp only [mvs, List.all_map, List.all_eq_true]
  exact fun x _ => h x
theorem mvs_nil : mvs [] = [] := rfl
theorem mvs_empty (L : List Mz) : (mvs L).isEmpty = L.isEmpty := by simp [mvs]
theorem mvs_mid (A B : List Mz) (x : Mz) : mvs (A ++ [x] ++ B) = mvs A ++ mv x :: mvs B := by simp [mvs]
theorem bel_mvs (n : Nat) (L : List Mz) : Bel n (.sl 3 (mvs L)) := by
  refine .sl 3 _ fun i hi => ?_
  have : ∀ y ∈ mvs L, Bel n y := by
    intro y hy
    simp only [mvs, List.mem_map] at hy
    obtain ⟨x, _, rfl⟩ := hy
    exact bel_mat n _ _ _
  exact this _ (List.getElem_mem hi)
theorem B_mvs (n : Nat) (L : List Mz) : Bel n (.sl 3 (mvs L)) = True := eq_true (bel_mvs n L)
theorem B_mat (n : Nat) (k : Int) (a b : ByteArray) : Bel n (mat k a b) = True := eq_true (bel_mat n k a b)
theorem B_m1 (n : Nat) (k : Int) (a b : ByteArray) : Bel n (.sl 3 [mat k a b]) = True := eq_true (bel_mvs n [(k, a, b)])
theorem B_mcons (n : Nat) (L : List Mz) (k : Int) (a b : ByteArray) : Bel n (.sl 3 (mat k a b :: mvs L)) = True := eq_true (bel_mvs n ((k, a, b) :: L))
theorem B_mmid (n : Nat) (A B : List Mz) (k : Int) (a b : ByteArray) : Bel n (.sl 3 (mvs A ++ mat k a b :: mvs B)) = True := eq_true (by have := bel_mvs n (A ++ [(k, a, b)] ++ B); rwa [mvs_mid] at this)
theorem B_rp3 (n : Nat) (k : Int) (a b : ByteArray) : Bel n (.rp [I k, Sx a, Sx b]) = True := eq_true (.rp _ fun i hi => by
  have : ∀ y ∈ [I k, Sx a, Sx b], Bel n y := by
    intro y hy
    simp only [List.mem_cons, List.not_mem_nil, or_false] at hy
    rcases hy with rfl | rfl | rfl <;> exact .pl _
  exact this _ (List.getElem_mem hi))
abbrev dv (d : Int × Int × Int) : AV := .agg [I d.1, I d.2.1, I d.2.2]
theorem B_ds (n : Nat) (ds : List (Int × Int × Int)) : Bel n (.sl 3 (ds.map dv)) = True := eq_true (.sl 3 _ fun i hi => by
  have : ∀ y ∈ ds.map dv, Bel n y := by
    intro y hy
    simp only [List.mem_map] at hy
    obtain ⟨x, _, rfl⟩ := hy
    refine .agg _ fun i hi => ?_
    have : ∀ y ∈ [I x.1, I x.2.1, I x.2.2], Bel n y := by
      intro y hy
      simp only [List.mem_cons, List.not_mem_nil, or_false] at hy
      rcases hy with rfl | rfl | rfl <;> exact .pl _
    exact this _ (List.getElem_mem hi)
  exact this _ (List.getElem_mem hi))
theorem B_d3 (n : Nat) (a b c : Int) : Bel n (.agg [I a, I b, I c]) = True := eq_true (.agg _ fun i hi => by
  have : ∀ y ∈ [I a, I b, I c], Bel n y := by
    intro y hy
    simp only [List.mem_cons, List.not_mem_nil, or_false] at hy
    rcases hy with rfl | rfl | rfl <;> exact .pl _
  exact this _ (List.getElem_mem hi))
theorem B_rpd (n : Nat) (a b c : Int) : Bel n (.rp [I a, I b, I c]) = True := eq_true (.rp _ fun i hi => by
  have : ∀ y ∈ [I a, I b, I c], Bel n y := by
    intro y hy
    simp only [List.mem_cons, List.not_mem_nil, or_false] at hy
    rcases hy with rfl | rfl | rfl <;> exact .pl _
  exact this _ (List.getElem_mem hi))
def aheadP (x y : Mz) : Bool :=
  if !(x.2.1.toList == y.2.1.toList) then Op.bytesLess x.2.1.toList y.2.1.toList
  else if x.1 != y.1 then decide (x.1 < y.1) else Op.bytesLess x.2.2.toList y.2.2.toList
def eqM (x y : Mz) : Bool := x.1 == y.1 && (x.2.1.toList == y.2.1.toList && x.2.2.toList == y.2.2.toList)
def posM (out : List Mz) (x : Mz) : Nat → Nat
  | 0 => 0
  | n + 1 => if aheadP x (out.getD n noM') then posM out x n else n + 1
def insM (out : List Mz) (x : Mz) : List Mz :=
  let p := posM out x out.length
  if decide (0 < p) && eqM (out.getD (p - 1) noM') x then out else out.take p ++ [x] ++ out.drop p
def matOf (d : Int × Int × Int) : Mz := (inD d.1 1 4, nameOf d.2.1, matVal d.1 d.2.2)
def matsGo : List (Int × Int × Int) → List Mz → List Mz
  | [], out => out
  | d :: ds, out => if out.length < 5 then matsGo ds (insM out (matOf d)) else out
section
variable (σ : St)
theorem ahead_ans (x y : Mz) : Ans Try.prog 65 [mv x, mv y] σ (Bo (aheadP x y)) σ := by
  unfold aheadP
  refine Ans.of_run t65 ?_
  simp -implicitDefEqProofs only [c65, r65, go_sem, List.reduceReplicate, Nat.reduceAdd, Nat.reduceSub, Nat.reduceLT, Nat.reduceLeDiff, Nat.reduceMul, Nat.reduceEqDiff, reduceCtorEq, Int.reduceLE, Int.reduceLT, Int.reduceEq, Int.reduceNe, Int.reduceBEq, Int.reduceBNe, Int.reduceAdd, Int.reduceSub]
  cases h1 : x.2.1.toList == y.2.1.toList
  · simp -implicitDefEqProofs only [go_sem, List.reduceReplicate, Nat.reduceAdd, Nat.reduceSub, Nat.reduceLT, Nat.reduceLeDiff, Nat.reduceMul, Nat.reduceEqDiff, reduceCtorEq, Int.reduceLE, Int.reduceLT, Int.reduceEq, Int.reduceNe, Int.reduceBEq, Int.reduceBNe, Int.reduceAdd, Int.reduceSub]
    exact Fini.ret rfl
  · simp -implicitDefEqProofs only [go_sem, List.reduceReplicate, Nat.reduceAdd, Nat.reduceSub, Nat.reduceLT, Nat.reduceLeDiff, Nat.reduceMul, Nat.reduceEqDiff, reduceCtorEq, Int.reduceLE, Int.reduceLT, Int.reduceEq, Int.reduceNe, Int.reduceBEq, Int.reduceBNe, Int.reduceAdd, Int.reduceSub]
    cases h2 : x.1 != y.1
    · simp -implicitDefEqProofs only [go_sem, List.reduceReplicate, Nat.reduceAdd, Nat.reduceSub, Nat.reduceLT, Nat.reduceLeDiff, Nat.reduceMul, Nat.reduceEqDiff, reduceCtorEq, Int.reduceLE, Int.reduceLT, Int.reduceEq, Int.reduceNe, Int.reduceBEq, Int.reduceBNe, Int.reduceAdd, Int.reduceSub]
      exact Fini.ret rfl
    · simp -implicitDefEqProofs only [go_sem, List.reduceReplicate, Nat.reduceAdd, Nat.reduceSub, Nat.reduceLT, Nat.reduceLeDiff, Nat.reduceMul, Nat.reduceEqDiff, reduceCtorEq, Int.reduceLE, Int.reduceLT, Int.reduceEq, Int.reduceNe, Int.reduceBEq, Int.reduceBNe, Int.reduceAdd, Int.reduceSub]
      exact Fini.ret rfl
theorem mats_ans (ds : List (Int × Int × Int)) (hl : ds.length ≤ 9223372036854775807) : Ans Try.prog 23 [.sl 3 (ds.map dv), Bo false] σ (.sl 3 (mvs (matsGo ds []))) σ := by
  refine Ans.of_run' t23 (fun hbel _ => ?_)
  have hbel' : (∀ o ∈ σ, BelO σ.length o) = True := eq_true hbel
  simp -implicitDefEqProofs only [c23, r23, go_sem, List.reduceReplicate, Nat.reduceAdd, Nat.reduceSub, Nat.reduceLT, Nat.reduceLeDiff, Nat.reduceMul, Nat.reduceEqDiff, reduceCtorEq, Int.reduceLE, Int.reduceLT, Int.reduceEq, Int.reduceNe, Int.reduceBEq, Int.reduceBNe, Int.reduceAdd, Int.reduceSub, B_pl, B_any, B_nils, B_tup, B_osl, B_ptr, B_sl0, B_mvs, B_mat, B_m1, B_mcons, B_mmid, B_rp3, B_ds, B_d3, B_rpd, List.take_left, hbel', g0, s0, List.length_append, Nat.le_add_right]
  generalize hres : matsGo ds [] = res
  have hdl : (((ds.map dv).length : Nat) : Int) = (ds.length : Nat) := by simp
  refine Go.Ab.L.intro (α := { x : Nat × List Mz // x.1 ≤ ds.length ∧ x.2.length ≤ 5 ∧ matsGo (ds.drop x.1) x.2 = res }) (fun x => ds.length - x.1.1)
    (fun x => mkE 73 [(0, .sl 3 (ds.map dv)), (1, Bo false), (5, .sl 3 (mvs x.1.2)), (6, I x.1.1)]) (fun _ => σ)
    (fun x J hJ => ?_) ⟨(0, []), Nat.zero_le _, Nat.zero_le _, hres⟩ rfl rfl
  obtain ⟨⟨i, out⟩, hi, ho, hg⟩ := x
  simp only at hi ho hg hJ ⊢
  by_cases hlt : i < ds.length
  · have hget : (ds.map dv)[i]? = some (dv ds[i]) := by simp [hlt]
    have d5 : decide (((out.length : Nat) : Int) < 5) = decide (out.length < 5) := by rw [Bool.eq_iff_iff]; simp only [decide_eq_true_eq]; omega
    rw [List.drop_eq_getElem_cons hlt, matsGo] at hg
    simp -implicitDefEqProofs only [mkE, List.foldl_cons, List.foldl_nil, go_sem, List.reduceReplicate, Nat.reduceAdd, Nat.reduceSub, Nat.reduceLT, Nat.reduceLeDiff, Nat.reduceMul, Nat.reduceEqDiff, reduceCtorEq, Int.reduceLE, Int.reduceLT, Int.reduceEq, Int.reduceNe, Int.reduceBEq, Int.reduceBNe, Int.reduceAdd, Int.reduceSub, hdl, nat_lt hlt, dec_lt hlt, mvs_len, d5]
    by_cases h5 : out.length < 5
    · rw [if_pos h5] at hg
      have h5' : decide (out.length < 5) = true := by simpa using h5
      have hws : IntKind.i64.wrap ((i : Int) + 1) = ((i + 1 : Nat) : Int) := by rw [wrapN (by omega) (by omega)]; rfl
      have hJ' := hJ ⟨(i + 1, insM out (matOf ds[i])), hlt, by
        unfold insM; simp only; split
        · exact ho
        · simp; omega, hg⟩ (by simp only; omega)
      simp only at hJ'
      clear hJ hg
      simp -implicitDefEqProofs only [go_sem, List.reduceReplicate, Nat.reduceAdd, Nat.reduceSub, Nat.reduceLT, Nat.reduceLeDiff, Nat.reduceMul, Nat.reduceEqDiff, reduceCtorEq, Int.reduceLE, Int.reduceLT, Int.reduceEq, Int.reduceNe, Int.reduceBEq, Int.reduceBNe, Int.reduceAdd, Int.reduceSub, h5', hget, hdl, nat_lt hlt]
      refine CO.intro (matcher_ans σ _ _ _) ?_
      simp -implicitDefEqProofs only [go_sem, List.reduceReplicate, Nat.reduceAdd, Nat.reduceSub, Nat.reduceLT, Nat.reduceLeDiff, Nat.reduceMul, Nat.reduceEqDiff, reduceCtorEq, Int.reduceLE, Int.reduceLT, Int.reduceEq, Int.reduceNe, Int.reduceBEq, Int.reduceBNe, Int.reduceAdd, Int.reduceSub, mvs_len]
      have hx : mat (inD ds[i].1 1 4) (nameOf ds[i].2.1) (matVal ds[i].1 ds[i].2.2) = mv (matOf ds[i]) := rfl
      unfold insM at hJ'
      simp only at hJ'
      generalize hp : posM out (matOf ds[i]) out.length = p at hJ'
      have hxx : matOf ds[i] = (inD ds[i].1 1 4, nameOf ds[i].2.1, matVal ds[i].1 ds[i].2.2) := rfl
      rw [hxx] at hp hJ'
      generalize inD ds[i].1 1 4 = xk at hp hJ' ⊢
      generalize nameOf ds[i].2.1 = xn at hp hJ' ⊢
      generalize matVal ds[i].1 ds[i].2.2 = xv at hp hJ' ⊢
      refine Go.Ab.L.intro (α := { n : Nat // n ≤ out.length ∧ posM out (xk, xn, xv) n = p }) (fun x => x.1)
        (fun x => mkE 73 [(0, .sl 3 (ds.map dv)), (1, Bo false), (5, .sl 3 (mvs out)), (6, I i), (7, .rp [I xk, Sx xn, Sx xv]), (8, I x.1)]) (fun _ => σ)
        (fun x J2 hJ2 => ?_) ⟨out.length, Nat.le_refl _, hp⟩ rfl rfl
      obtain ⟨n, hn, hpn⟩ := x
      simp only at hJ2 ⊢
      cases n with
      | zero =>
        rw [posM] at hpn
        subst hpn
        have h1 : (1 ≤ 2 ^ 32) = True := by simp
        have d00 : decide ((0 : Int) < ((0 : Nat) : Int)) = false := by decide
        have hp32 : (1 + out.length ≤ 2 ^ 32) = True := by simp; omega
        have q1 : (1 + out.length = out.length + 1) = True := by simp; omega
        rw [show decide (0 < 0) = false from rfl, Bool.false_and, if_neg Bool.false_ne_true, mvs_mid] at hJ'
        simp -implicitDefEqProofs only [mkE, List.foldl_cons, List.foldl_nil, go_sem, List.reduceReplicate, Nat.reduceAdd, Nat.reduceSub, Nat.reduceLT, Nat.reduceLeDiff, Nat.reduceMul, Nat.reduceEqDiff, reduceCtorEq, Int.reduceLE, Int.reduceLT, Int.reduceEq, Int.reduceNe, Int.reduceBEq, Int.reduceBNe, Int.reduceAdd, Int.reduceSub, q1, d00, Int.natCast_zero, Int.le_refl, Int.toNat_zero, List.take_length, List.drop_zero, List.drop_nil, mvs_nil, mvs_take, mvs_drop, mvs_all, mvs_empty, mvs_len, g0, s0, B_pl, B_any, B_nils, B_tup, B_osl, B_ptr, B_sl0, B_mvs, B_mat, B_m1, B_mcons, B_mmid, B_rp3, B_ds, B_d3, B_rpd, hp32, h1, List.take_left, hbel', List.length_append, List.append_assoc, Nat.le_add_right, hws]
        exact hJ'
      | succ n =>
        have hy := mvs_get out n hn
        have hgd : out.getD n noM' = out[n] := by rw [List.getD_eq_getElem?_getD, List.getElem?_eq_getElem hn]; rfl
        have d0 : decide ((0 : Int) < ((n + 1 : Nat) : Int)) = true := by simp
        have e1 : IntKind.i64.wrap (((n + 1 : Nat) : Int) - 1) = (n : Int) := by rw [wrapN (by omega) (by omega)]; omega
        rw [posM, hgd] at hpn
        have ha := fun s => ahead_ans s (xk, xn, xv) out[n]
        have heq : ∀ y : Mz, eqM y (xk, xn, xv) = (y.1 == xk && (y.2.1.toList == xn.toList && y.2.2.toList == xv.toList)) := fun _ => rfl
        simp -implicitDefEqProofs only [mkE, List.foldl_cons, List.foldl_nil, go_sem, List.reduceReplicate, Nat.reduceAdd, Nat.reduceSub, Nat.reduceLT, Nat.reduceLeDiff, Nat.reduceMul, Nat.reduceEqDiff, reduceCtorEq, Int.reduceLE, Int.reduceLT, Int.reduceEq, Int.reduceNe, Int.reduceBEq, Int.reduceBNe, Int.reduceAdd, Int.reduceSub, D_callS, d0, e1, mvs_len, nat_lt hn, hy]
        first | refine CO.intro (ha _) ?_ | refine CD.intro (ha _) ?_ | refine CS.intro ha ?_
        cases hb : aheadP (xk, xn, xv) out[n]
        · rw [hb, if_neg Bool.false_ne_true] at hpn
          subst hpn
          rw [show decide (0 < n + 1) = true by simp, Bool.true_and, show n + 1 - 1 = n from rfl, hgd, heq] at hJ'
          have p1 : (((n + 1 : Nat) : Int) ≤ (out.length : Nat)) = True := by simp; omega
          have p2 : (out.take (n + 1)).isEmpty = false := by
            cases h : out.take (n + 1) with
            | nil =>
              have : (out.take (n + 1)).length = 0 := by rw [h]; rfl
              rw [List.length_take] at this; omega
            | cons _ _ => rfl
          have p3 : (out.take (n + 1)).length = n + 1 := by simp; omega
          have p4 : (out.drop (n + 1)).length = out.length - (n + 1) := by simp
          have p5 : (n + 1 ≤ 2 ^ 32) = True := by simp; omega
          have p6 : (n + 1 + 1 ≤ 2 ^ 32) = True := by simp; omega
          have p7 : (n + 1 + 1 + (out.length - (n + 1)) ≤ 2 ^ 32) = True := by simp; omega
          have q2 : (n + 1 + 1 + (out.length - (n + 1)) = n + 1 + (out.length - (n + 1) + 1)) = True := by simp; omega
          simp -implicitDefEqProofs only [go_sem, List.reduceReplicate, Nat.reduceAdd, Nat.reduceSub, Nat.reduceLT, Nat.reduceLeDiff, Nat.reduceMul, Nat.reduceEqDiff, reduceCtorEq, Int.reduceLE, Int.reduceLT, Int.reduceEq, Int.reduceNe, Int.reduceBEq, Int.reduceBNe, Int.reduceAdd, Int.reduceSub, D_callS, d0, e1, mvs_len, nat_lt hn, hy]
          cases he : (out[n].1 == xk && (out[n].2.1.toList == xn.toList && out[n].2.2.toList == xv.toList))
          · rw [he, if_neg Bool.false_ne_true, mvs_mid] at hJ'
            simp -implicitDefEqProofs only [go_sem, List.reduceReplicate, Nat.reduceAdd, Nat.reduceSub, Nat.reduceLT, Nat.reduceLeDiff, Nat.reduceMul, Nat.reduceEqDiff, reduceCtorEq, Int.reduceLE, Int.reduceLT, Int.reduceEq, Int.reduceNe, Int.reduceBEq, Int.reduceBNe, Int.reduceAdd, Int.reduceSub, he, q2, Int.natCast_zero, Int.le_refl, Int.toNat_zero, List.take_length, List.drop_zero, List.drop_nil, mvs_nil, mvs_take, mvs_drop, mvs_all, mvs_empty, mvs_len, g0, s0, B_pl, B_any, B_nils, B_tup, B_osl, B_ptr, B_sl0, B_mvs, B_mat, B_m1, B_mcons, B_mmid, B_rp3, B_ds, B_d3, B_rpd, List.take_left, hbel', List.length_append, List.append_assoc, Nat.le_add_right, hws, p1, p2, p3, p4, p5, p6, p7]
            exact hJ'
          · rw [he, if_pos rfl] at hJ'
            simp -implicitDefEqProofs only [go_sem, List.reduceReplicate, Nat.reduceAdd, Nat.reduceSub, Nat.reduceLT, Nat.reduceLeDiff, Nat.reduceMul, Nat.reduceEqDiff, reduceCtorEq, Int.reduceLE, Int.reduceLT, Int.reduceEq, Int.reduceNe, Int.reduceBEq, Int.reduceBNe, Int.reduceAdd, Int.reduceSub, he, hws]
            exact hJ'
        · rw [hb, if_pos rfl] at hpn
          have hJ2' := hJ2 ⟨n, by omega, hpn⟩ (Nat.lt_succ_self n)
          simp only at hJ2'
          simp -implicitDefEqProofs only [mkE, List.foldl_cons, List.foldl_nil, go_sem, List.reduceReplicate, Nat.reduceAdd, Nat.reduceSub, Nat.reduceLT, Nat.reduceLeDiff, Nat.reduceMul, Nat.reduceEqDiff, reduceCtorEq, Int.reduceLE, Int.reduceLT, Int.reduceEq, Int.reduceNe, Int.reduceBEq, Int.reduceBNe, Int.reduceAdd, Int.reduceSub, D_callS, d0, e1, mvs_len, nat_lt hn, hy]
          exact hJ2'
    · rw [if_neg h5] at hg
      have h5' : decide (out.length < 5) = false := by simpa using h5
      simp -implicitDefEqProofs only [go_sem, List.reduceReplicate, Nat.reduceAdd, Nat.reduceSub, Nat.reduceLT, Nat.reduceLeDiff, Nat.reduceMul, Nat.reduceEqDiff, reduceCtorEq, Int.reduceLE, Int.reduceLT, Int.reduceEq, Int.reduceNe, Int.reduceBEq, Int.reduceBNe, Int.reduceAdd, Int.reduceSub, h5', mvs_len]
      rw [← hg]
      exact Fini.ret rfl
  · have : i = ds.length := by omega
    subst this
    rw [List.drop_length, matsGo] at hg
    simp -implicitDefEqProofs only [mkE, List.foldl_cons, List.foldl_nil, go_sem, List.reduceReplicate, Nat.reduceAdd, Nat.reduceSub, Nat.reduceLT, Nat.reduceLeDiff, Nat.reduceMul, Nat.reduceEqDiff, reduceCtorEq, Int.reduceLE, Int.reduceLT, Int.reduceEq, Int.reduceNe, Int.reduceBEq, Int.reduceBNe, Int.reduceAdd, Int.reduceSub, hdl, nat_nlt hlt, dec_nlt hlt, mvs_len]
    rw [← hg]
    exact Fini.ret rfl
end
end Go.Proofs.Ytoadgajhkhejiaa
namespace Go.Proofs.Ytoadgajhkhejiaa
open Go Go.Ab
set_option maxRecDepth 100000
def allV : List ByteArray := vals8 ++ pats
instance : DecidableEq ByteArray := fun a b => decidable_of_iff (a.data = b.data) (by cases a; cases b; simp)
theorem names_tri : ∀ a ∈ names, ∀ b ∈ names, (a.toList == b.toList || (Op.bytesLess a.toList b.toList || Op.bytesLess b.toList a.toList)) = true := by decide +kernel
theorem allV_tri : ∀ a ∈ allV, ∀ b ∈ allV, (a.toList == b.toList || (Op.bytesLess a.toList b.toList || Op.bytesLess b.toList a.toList)) = true := by decide +kernel
structure MOK (x : Mz) : Prop where
  lo : 1 ≤ x.1
  hi : x.1 ≤ 4
  nm : x.2.1 ∈ names
  low : x.1 < 3 → x.2.2 ∈ vals8
  high : ¬ x.1 < 3 → x.2.2 ∈ pats
theorem MOK.val {x : Mz} (h : MOK x) : x.2.2 ∈ allV := by
  unfold allV
  by_cases h3 : x.1 < 3
  · exact List.mem_append_left _ (h.low h3)
  · exact List.mem_append_right _ (h.high h3)
theorem matVal_low (k v : Int) (h : inD k 1 4 < 3) : matVal k v ∈ vals8 := by
  unfold matVal
  rw [if_pos h]
  split
  · simp [vals8]
  · have := valueOf_mem v; simp [vals8, this]
theorem matVal_high (k v : Int) (h : ¬ inD k 1 4 < 3) : matVal k v ∈ pats := by
  unfold matVal
  rw [if_neg h]
  exact patOf_mem v
theorem matOf_ok (d : Int × Int × Int) : MOK (matOf d) :=
  ⟨(inD_in d.1 1 4 (by omega)).1, (inD_in d.1 1 4 (by omega)).2, nameOf_mem _, matVal_low _ _, matVal_high _ _⟩
theorem beq_comm' (a b : List UInt8) : (a == b) = (b == a) := by rw [Bool.eq_iff_iff, beq_iff_eq, beq_iff_eq]; exact eq_comm
theorem tri {x y : Mz} (hx : MOK x) (hy : MOK y) (h : aheadP x y = false) (he : eqM y x = false) : aheadP y x = true := by
  have h1 := names_tri _ hx.nm _ hy.nm
  have h2 := allV_tri _ hx.val _ hy.val
  unfold aheadP at h ⊢
  unfold eqM at he
  rw [beq_comm' y.2.1.toList] at he ⊢
  rw [beq_comm' y.2.2.toList] at he
  cases e1 : x.2.1.toList == y.2.1.toList
  · rw [e1] at h h1
    simp only [Bool.not_false, if_true, Bool.false_or] at h h1 ⊢
    rw [h] at h1
    simpa using h1
  · rw [e1] at h he
    simp only [Bool.not_true, Bool.false_eq_true, if_false, Bool.true_and] at h he ⊢
    by_cases e2 : x.1 = y.1
    · have n1 : (x.1 != y.1) = false := by simp [e2]
      have n2 : (y.1 != x.1) = false := by simp [e2]
      have n3 : (y.1 == x.1) = true := by simp [e2]
      rw [n1] at h
      rw [n3] at he
      rw [n2]
      simp only [Bool.false_eq_true, if_false, Bool.true_and] at h he ⊢
      rw [he, h] at h2
      simpa using h2
    · have n1 : (x.1 != y.1) = true := by simp [e2]
      have n2 : (y.1 != x.1) = true := by simp [Ne.symm e2]
      rw [n1] at h
      rw [n2]
      simp only [if_true, decide_eq_false_iff_not, decide_eq_true_eq] at h ⊢
      omega
def Adj (M : List Mz) : Prop := ∀ i a b, M[i]? = some a → M[i + 1]? = some b → aheadP a b = true
theorem posM_spec (out : List Mz) (x : Mz) : ∀ n, posM out x n ≤ n ∧ (0 < posM out x n → aheadP x (out.getD (posM out x n - 1) noM') = false) ∧ (posM out x n < n → aheadP x (out.getD (posM out x n) noM') = true)
  | 0 => ⟨Nat.le_refl _, fun h => absurd h (Nat.lt_irrefl _), fun h => absurd h (Nat.lt_irrefl _)⟩
  | n + 1 => by
    rw [posM]
    cases h : aheadP x (out.getD n noM')
    · simp only [Bool.false_eq_true, if_false]
      exact ⟨Nat.le_refl _, fun _ => h, fun h => absurd h (Nat.lt_irrefl _)⟩
    · simp only [if_true]
      obtain ⟨h1, h2, h3⟩ := posM_spec out x n
      refine ⟨Nat.le_succ_of_le h1, h2, fun hlt => ?_⟩
      rcases Nat.lt_or_ge (posM out x n) n with h4 | h4
      · exact h3 h4
      · have : posM out x n = n := by omega
        rw [this]; exact h
theorem ins_get (out : List Mz) (x : Mz) (p : Nat) (hp : p ≤ out.length) (j : Nat) : (out.take p ++ [x] ++ out.drop p)[j]? = if j < p then out[j]? else if j = p then some x else out[j - 1]? := by
  have hl : (out.take p).length = p := by simp; omega
  rw [List.append_assoc]
  split
  · rename_i h
    rw [List.getElem?_append_left (by omega), List.getElem?_take, if_pos h]
  · rename_i h
    rw [List.getElem?_append_right (by omega), hl]
    split
    · rename_i h2
      subst h2
      simp
    · rename_i h2
      rw [List.singleton_append, show j - p = (j - 1 - p) + 1 by omega, List.getElem?_cons_succ, List.getElem?_drop]
      congr 1
      omega
theorem getD_of {out : List Mz} {i : Nat} {a : Mz} (h : out[i]? = some a) : out.getD i noM' = a := by
  rw [List.getD_eq_getElem?_getD, h]; rfl
theorem insM_adj {out : List Mz} {x : Mz} (hx : MOK x) (ho : ∀ y ∈ out, MOK y) (ha : Adj out) : Adj (insM out x) := by
  obtain ⟨h1, h2, h3⟩ := posM_spec out x out.length
  unfold insM
  simp only
  generalize posM out x out.length = p at h1 h2 h3
  split
  · exact ha
  · rename_i hc
    intro i a b hia hib
    rw [ins_get out x p h1] at hia hib
    by_cases c1 : i + 1 < p
    · rw [if_pos (by omega)] at hia
      rw [if_pos c1] at hib
      exact ha i a b hia hib
    · by_cases c2 : i + 1 = p
      · rw [if_pos (by omega)] at hia
        rw [if_neg c1, if_pos c2] at hib
        simp only [Option.some.injEq] at hib
        subst hib
        have hp0 : 0 < p := by omega
        have hg := getD_of hia
        have h4 := h2 hp0
        rw [show p - 1 = i by omega, hg] at h4
        have he : eqM a x = false := by
          cases h : eqM a x
          · rfl
          · rw [show p - 1 = i by omega, hg, h] at hc
            simp [hp0] at hc
        exact tri hx (ho a (List.mem_of_getElem? hia)) h4 he
      · by_cases c3 : i = p
        · rw [if_neg (by omega), if_pos c3] at hia
          rw [if_neg c1, if_neg c2, show i + 1 - 1 = i by omega, c3] at hib
          simp only [Option.some.injEq] at hia
          subst hia
          have hlt : p < out.length := (List.getElem?_eq_some_iff.1 hib).1
          have h4 := h3 hlt
          rwa [getD_of hib] at h4
        · rw [if_neg (by omega), if_neg c3] at hia
          rw [if_neg c1, if_neg c2] at hib
          refine ha (i - 1) a b hia ?_
          rw [show i - 1 + 1 = i + 1 - 1 by omega]
          exact hib
theorem insM_ok {out : List Mz} {x : Mz} (hx : MOK x) (ho : ∀ y ∈ out, MOK y) : ∀ y ∈ insM out x, MOK y := by
  unfold insM
  simp only
  split
  · exact ho
  · intro y hy
    rcases List.mem_append.1 hy with hy | hy
    · rcases List.mem_append.1 hy with hy | hy
      · exact ho y (List.mem_of_mem_take hy)
      · simp only [List.mem_cons, List.not_mem_nil, or_false] at hy
        subst hy; exact hx
    · exact ho y (List.mem_of_mem_drop hy)
theorem insM_len (out : List Mz) (x : Mz) : (insM out x).length ≤ out.length + 1 := by
  unfold insM; simp only; split
  · omega
  · simp; omega
theorem matsGo_ok (ds : List (Int × Int × Int)) : ∀ out, out.length ≤ 5 → (∀ y ∈ out, MOK y) → Adj out → (matsGo ds out).length ≤ 5 ∧ (∀ y ∈ matsGo ds out, MOK y) ∧ Adj (matsGo ds out) := by
  induction ds with
  | nil => intro out h1 h2 h3; exact ⟨h1, h2, h3⟩
  | cons d ds ih =>
    intro out h1 h2 h3
    rw [matsGo]
    split
    · have := insM_len out (matOf d)
      exact ih _ (by omega) (insM_ok (matOf_ok d) h2) (insM_adj (matOf_ok d) h2 h3)
    · exact ⟨h1, h2, h3⟩
theorem mats_ok (ds : List (Int × Int × Int)) : (matsGo ds []).length ≤ 5 ∧ (∀ y ∈ matsGo ds [], MOK y) ∧ Adj (matsGo ds []) :=
  matsGo_ok ds [] (Nat.zero_le _) (fun y hy => by cases hy) (fun i a b h => by simp at h)
end Go.Proofs.Ytoadgajhkhejiaa
namespace Go.Proofs.Ytoadgajhkhejiaa
open Go Go.Ab Go.Cod
set_option maxRecDepth 100000
theorem names_ok : ∀ n ∈ names, nameB n = true := by decide +kernel
theorem pats_ok : ∀ p ∈ pats, (pparse p).2 = true := by decide +kernel
theorem vals8_ok : ∀ p ∈ vals8, p.size ≤ 24 := by decide +kernel
theorem mok_isB {x : Mz} (h : MOK x) : isB x.1 x.2.1 x.2.2 = true := by
  unfold isB
  rw [names_ok _ h.nm, Bool.true_and]
  have h1 := h.lo
  have h4 := h.hi
  by_cases h3 : x.1 < 3
  · have hl : likeB x.1 = false := by unfold likeB; rw [Bool.or_eq_false_iff]; exact ⟨by simp; omega, by simp; omega⟩
    rw [hl]
    simp only [Bool.false_eq_true, if_false, Bool.and_eq_true, Bool.or_eq_true, beq_iff_eq, decide_eq_true_eq]
    exact ⟨by omega, vals8_ok _ (h.low h3)⟩
  · have hl : likeB x.1 = true := by unfold likeB; rw [Bool.or_eq_true]; simp only [beq_iff_eq]; omega
    rw [hl]
    simp only [if_true]
    exact pats_ok _ (h.high h3)
theorem aheadPD (x y : Mz) : aheadP x y = aheadD x y := by
  unfold aheadP aheadD
  have : (x.1 != y.1) = !(x.1 == y.1) := rfl
  rw [this]
theorem listB_ok {M : List Mz} (h5 : M.length ≤ 5) (ho : ∀ y ∈ M, MOK y) (ha : Adj M) : listB M = true := by
  unfold listB
  rw [decide_eq_true h5, Bool.true_and]
  refine List.all_eq_true.2 fun i hi => ?_
  have hi := List.mem_range.1 hi
  have e : M.getD i noM3 = M[i] := by rw [List.getD_eq_getElem?_getD, List.getElem?_eq_getElem hi]; rfl
  unfold okL isM
  rw [e, mok_isB (ho _ (List.getElem_mem hi)), Bool.true_and]
  cases i with
  | zero => rfl
  | succ i =>
    have e2 : M.getD (i + 1 - 1) noM3 = M[i] := by rw [List.getD_eq_getElem?_getD, Nat.add_sub_cancel, List.getElem?_eq_getElem (by omega)]; rfl
    rw [e2]
    have := ha i M[i] M[i + 1] (by simp) (by simp [hi])
    rw [aheadPD] at this
    rw [this]; simp
theorem listB_mats (ds : List (Int × Int × Int)) : listB (matsGo ds []) = true := by
  obtain ⟨h1, h2, h3⟩ := mats_ok ds
  exact listB_ok h1 h2 h3
end Go.Proofs.Ytoadgajhkhejiaa
