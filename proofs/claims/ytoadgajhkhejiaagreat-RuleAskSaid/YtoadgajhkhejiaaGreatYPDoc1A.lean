/- What the functions do, over abstract values: printed by a program, checked by the kernel. No condition. -/
import Derived.Test.YtoadgajhkhejiaaGreatProg
import Derived.Test.YtoadgajhkhejiaaGreatAbStepA
import Derived.Test.YtoadgajhkhejiaaGreatYDc2A
import Derived.Test.YtoadgajhkhejiaaGreatYScan4A
import Derived.Test.YtoadgajhkhejiaaGreatYMArgA
set_option linter.unusedSimpArgs false
set_option linter.unusedVariables false
namespace Go.Proofs.YtoadgajhkhejiaaGreat
open Go Go.Ab
set_option maxRecDepth 100000
def c3 : ACode :=
 (.seq (.ops [⟨some 2, none, .prim (.boxr (.tmp 0))⟩,
 ⟨some 3, none, .prim (.boxr (.tmp 1))⟩,
 ⟨some 4, none, .prim (.mov (.const (.bool false)))⟩])
 (.seq (.seq (.ops [⟨some 6, none, .prim (.load 6 true (.tmp 2))⟩,
 ⟨some 7, none, .call (.func 5) [(.tmp 6), (.const (.int .i64 300))]⟩,
 ⟨some 8, none, .prim (.bin false .gtr (.tmp 7) (.const (.int .i64 300)))⟩])
 (.cond (.tmp 8)
 (.seq (.ops [⟨some 9, none, .call (.func 6) []⟩,
 ⟨some 4, none, .prim (.mov (.tmp 9))⟩])
 .ret)
 .skip))
 (.seq (.ops [⟨some 10, none, .prim (.load 2 true (.tmp 3))⟩,
 ⟨some 11, none, .call (.func 7) [(.tmp 10)]⟩,
 ⟨some 5, none, .fresh 3 5 (.tmp 11)⟩])
 (.seq (.draw [⟨⟨some 12, none, .prim (.load 6 true (.tmp 2))⟩, [], false, 0, 0⟩,
 ⟨⟨some 13, none, .call (.func 8) [(.tmp 12)]⟩, [0], true, 0, 0⟩,
 ⟨⟨some 14, none, .prim (.load 6 true (.tmp 2))⟩, [], false, 0, 1⟩,
 ⟨⟨some 15, none, .call (.func 9) [(.tmp 14)]⟩, [0, 1, 2], true, 0, 0⟩,
 ⟨⟨some 16, none, .prim (.bin true .eql (.tmp 13) (.tmp 15))⟩, [0, 1, 2, 3], false, 2, 2⟩,
 ⟨⟨some 17, none, .prim (.mov (.tmp 16))⟩, [0, 1, 2, 3, 4], false, 2, 2⟩,
 ⟨⟨some 18, (some (17, true)), .prim (.load 6 true (.tmp 2))⟩, (List.range 6), false, 2, 2⟩,
 ⟨⟨some 19, (some (17, true)), .call (.func 10) [(.tmp 18)]⟩, (List.range 7), true, 0, 0⟩,
 ⟨⟨some 20, (some (17, true)), .prim (.load 6 true (.tmp 2))⟩, (List.range 6), false, 2, 3⟩,
 ⟨⟨some 21, (some (17, true)), .call (.func 11) [(.tmp 20)]⟩, (List.range 9), true, 0, 0⟩,
 ⟨⟨some 22, (some (17, true)), .prim (.bin true .eql (.tmp 19) (.tmp 21))⟩, (List.range 10), false, 4, 4⟩,
 ⟨⟨some 23, none, .prim (.pick (.tmp 17) (.tmp 22) (.const (.bool false)))⟩, (List.range 11), false, 4, 4⟩,
 ⟨⟨some 24, none, .prim (.mov (.tmp 23))⟩, (List.range 12), false, 4, 4⟩,
 ⟨⟨some 25, (some (24, true)), .prim (.load 6 true (.tmp 2))⟩, (List.range 13), false, 4, 4⟩,
 ⟨⟨some 26, (some (24, true)), .prim (.load 3 true (.tmp 5))⟩, (List.range 13), false, 4, 4⟩,
 ⟨⟨some 27, (some (24, true)), .call (.func 12) [(.tmp 25), (.tmp 26)]⟩, (List.range 15), true, 0, 0⟩,
 ⟨⟨some 28, (some (24, true)), .prim (.load 6 true (.tmp 2))⟩, (List.range 13), false, 4, 5⟩,
 ⟨⟨some 29, (some (24, true)), .prim (.load 3 true (.tmp 5))⟩, (List.range 13), false, 4, 5⟩,
 ⟨⟨some 30, (some (24, true)), .call (.func 13) [(.tmp 28), (.tmp 29)]⟩, (List.range 18), true, 0, 0⟩,
 ⟨⟨some 31, (some (24, true)), .prim (.bin true .eql (.tmp 27) (.tmp 30))⟩, (List.range 19), false, 6, 6⟩,
 ⟨⟨some 32, none, .prim (.pick (.tmp 24) (.tmp 31) (.const (.bool false)))⟩, (List.range 20), false, 6, 6⟩,
 ⟨⟨some 33, none, .prim (.mov (.tmp 32))⟩, (List.range 21), false, 6, 6⟩,
 ⟨⟨some 34, (some (33, true)), .prim (.load 6 true (.tmp 2))⟩, (List.range 22), false, 6, 6⟩,
 ⟨⟨some 35, (some (33, true)), .prim (.load 3 true (.tmp 5))⟩, (List.range 22), false, 6, 6⟩,
 ⟨⟨some 36, (some (33, true)), .call (.func 14) [(.tmp 34), (.tmp 35)]⟩, (List.range 24), true, 0, 0⟩,
 ⟨⟨some 37, (some (33, true)), .prim (.load 6 true (.tmp 2))⟩, (List.range 22), false, 6, 7⟩,
 ⟨⟨some 38, (some (33, true)), .prim (.load 3 true (.tmp 5))⟩, (List.range 22), false, 6, 7⟩,
 ⟨⟨some 39, (some (33, true)), .call (.func 15) [(.tmp 37), (.tmp 38)]⟩, (List.range 27), true, 0, 0⟩,
 ⟨⟨some 40, (some (33, true)), .prim (.bin true .eql (.tmp 36) (.tmp 39))⟩, (List.range 28), false, 8, 8⟩,
 ⟨⟨some 41, none, .prim (.pick (.tmp 33) (.tmp 40) (.const (.bool false)))⟩, (List.range 29), false, 8, 8⟩,
 ⟨⟨some 42, none, .prim (.mov (.tmp 41))⟩, (List.range 30), false, 8, 8⟩,
 ⟨⟨some 43, (some (42, true)), .prim (.load 6 true (.tmp 2))⟩, (List.range 31), false, 8, 8⟩,
 ⟨⟨some 44, (some (42, true)), .prim (.load 3 true (.tmp 5))⟩, (List.range 31), false, 8, 8⟩,
 ⟨⟨some 45, (some (42, true)), .call (.func 16) [(.tmp 43), (.tmp 44)]⟩, (List.range 33), true, 0, 0⟩,
 ⟨⟨some 46, (some (42, true)), .prim (.fadr 1 (.tmp 5))⟩, (List.range 31), false, 8, 9⟩,
 ⟨⟨some 47, (some (42, true)), .prim (.load 1 false (.tmp 46))⟩, [0, 1, 2, 3, 4, 5, 6, 7, 8, 9, 10, 11, 12, 13, 14, 15, 16, 17, 18, 19, 20, 21, 22, 23, 24, 25, 26, 27, 28, 29, 30, 34], false, 8, 9⟩,
 ⟨⟨some 48, (some (42, true)), .prim (.fadr 5 (.tmp 2))⟩, (List.range 31), false, 8, 9⟩,
 ⟨⟨some 49, (some (42, true)), .prim (.load 1 false (.tmp 48))⟩, [0, 1, 2, 3, 4, 5, 6, 7, 8, 9, 10, 11, 12, 13, 14, 15, 16, 17, 18, 19, 20, 21, 22, 23, 24, 25, 26, 27, 28, 29, 30, 36], false, 8, 9⟩,
 ⟨⟨some 50, (some (42, true)), .call (.func 17) [(.tmp 47), (.tmp 49)]⟩, (List.range 38), true, 0, 0⟩,
 ⟨⟨some 51, (some (42, true)), .prim (.bin false .eql (.tmp 45) (.tmp 50))⟩, (List.range 39), false, 10, 10⟩,
 ⟨⟨some 52, none, .prim (.pick (.tmp 42) (.tmp 51) (.const (.bool false)))⟩, (List.range 40), false, 10, 10⟩,
 ⟨⟨some 53, none, .prim (.mov (.tmp 52))⟩, (List.range 41), false, 10, 10⟩,
 ⟨⟨some 54, (some (53, true)), .call (.func 6) []⟩, (List.range 42), true, 0, 0⟩,
 ⟨⟨some 55, none, .prim (.pick (.tmp 53) (.tmp 54) (.const (.bool false)))⟩, (List.range 43), false, 11, 11⟩,
 ⟨⟨some 4, none, .prim (.mov (.tmp 55))⟩, (List.range 44), false, 11, 11⟩])
 .ret))))
def o3 : List Tmp := []
def r3 : List RV := [.tmp 4]
theorem t3 : Text Tryz.prog 3 o3 c3 r3 56 := ⟨⟨Tryz.f3, _, by kernel_rfl, by kernel_rfl, rfl, by kernel_rfl, by kernel_rfl, rfl⟩, by kernel_rfl⟩
def c4 : ACode :=
 (.seq (.ops [⟨some 3, none, .prim (.boxr (.tmp 0))⟩,
 ⟨some 4, none, .prim (.boxr (.tmp 1))⟩,
 ⟨some 5, none, .prim (.boxr (.tmp 2))⟩,
 ⟨some 6, none, .prim (.mov (.const (.bool false)))⟩])
 (.seq (.draw [⟨⟨some 10, none, .prim (.load 6 true (.tmp 3))⟩, [], false, 0, 0⟩,
 ⟨⟨some 11, none, .call (.func 18) [(.tmp 10)]⟩, [0], true, 0, 0⟩,
 ⟨⟨some 12, none, .prim (.load 2 true (.tmp 4))⟩, [], false, 0, 1⟩,
 ⟨⟨some 13, none, .call (.func 7) [(.tmp 12)]⟩, [0, 1, 2], true, 0, 0⟩,
 ⟨⟨some 14, none, .prim (.load 2 true (.tmp 5))⟩, [], false, 0, 2⟩,
 ⟨⟨some 15, none, .call (.func 7) [(.tmp 14)]⟩, [0, 1, 2, 3, 4], true, 0, 0⟩,
 ⟨⟨some 7, none, .flo 6⟩, [], false, 0, 3⟩,
 ⟨⟨some 8, none, .flo 3⟩, [], false, 0, 3⟩,
 ⟨⟨some 9, none, .flo 3⟩, [], false, 0, 3⟩,
 ⟨⟨some 7, none, .adopt false 7 6 (.tmp 11)⟩, (List.range 9), true, 0, 0⟩,
 ⟨⟨some 8, none, .adopt false 8 3 (.tmp 13)⟩, (List.range 10), true, 0, 0⟩,
 ⟨⟨some 9, none, .adopt false 9 3 (.tmp 15)⟩, (List.range 11), true, 0, 0⟩])
 (.seq (.draw [⟨⟨some 16, none, .prim (.load 6 true (.tmp 7))⟩, [], false, 0, 0⟩,
 ⟨⟨some 17, none, .call (.func 8) [(.tmp 16)]⟩, [0], true, 0, 0⟩,
 ⟨⟨some 18, none, .prim (.mov (.tmp 17))⟩, [0, 1], false, 1, 1⟩,
 ⟨⟨some 19, (some (18, true)), .prim (.load 6 true (.tmp 7))⟩, [0, 1, 2], false, 1, 1⟩,
 ⟨⟨some 20, (some (18, true)), .call (.func 10) [(.tmp 19)]⟩, [0, 1, 2, 3], true, 0, 0⟩,
 ⟨⟨some 21, (some (18, true)), .prim (.load 6 true (.tmp 7))⟩, [0, 1, 2], false, 1, 2⟩,
 ⟨⟨some 22, (some (18, true)), .call (.func 11) [(.tmp 21)]⟩, (List.range 6), true, 0, 0⟩,
 ⟨⟨some 23, (some (18, true)), .prim (.bin true .eql (.tmp 20) (.tmp 22))⟩, (List.range 7), false, 3, 3⟩,
 ⟨⟨some 24, none, .prim (.pick (.tmp 18) (.tmp 23) (.const (.bool false)))⟩, (List.range 8), false, 3, 3⟩,
 ⟨⟨some 25, none, .prim (.mov (.tmp 24))⟩, (List.range 9), false, 3, 3⟩,
 ⟨⟨some 26, (some (25, true)), .prim (.load 6 true (.tmp 7))⟩, (List.range 10), false, 3, 3⟩,
 ⟨⟨some 27, (some (25, true)), .prim (.load 3 true (.tmp 8))⟩, (List.range 10), false, 3, 3⟩,
 ⟨⟨some 28, (some (25, true)), .call (.func 12) [(.tmp 26), (.tmp 27)]⟩, (List.range 12), true, 0, 0⟩,
 ⟨⟨some 29, (some (25, true)), .prim (.load 6 true (.tmp 7))⟩, (List.range 10), false, 3, 4⟩,
 ⟨⟨some 30, (some (25, true)), .prim (.load 3 true (.tmp 8))⟩, (List.range 10), false, 3, 4⟩,
 ⟨⟨some 31, (some (25, true)), .call (.func 13) [(.tmp 29), (.tmp 30)]⟩, (List.range 15), true, 0, 0⟩,
 ⟨⟨some 32, (some (25, true)), .prim (.bin true .eql (.tmp 28) (.tmp 31))⟩, (List.range 16), false, 5, 5⟩,
 ⟨⟨some 33, none, .prim (.pick (.tmp 25) (.tmp 32) (.const (.bool false)))⟩, (List.range 17), false, 5, 5⟩,
 ⟨⟨some 34, none, .prim (.mov (.tmp 33))⟩, (List.range 18), false, 5, 5⟩,
 ⟨⟨some 35, (some (34, true)), .prim (.load 6 true (.tmp 7))⟩, (List.range 19), false, 5, 5⟩,
 ⟨⟨some 36, (some (34, true)), .prim (.load 3 true (.tmp 8))⟩, (List.range 19), false, 5, 5⟩,
 ⟨⟨some 37, (some (34, true)), .call (.func 14) [(.tmp 35), (.tmp 36)]⟩, (List.range 21), true, 0, 0⟩,
 ⟨⟨some 38, (some (34, true)), .prim (.load 6 true (.tmp 7))⟩, (List.range 19), false, 5, 6⟩,
 ⟨⟨some 39, (some (34, true)), .prim (.load 3 true (.tmp 8))⟩, (List.range 19), false, 5, 6⟩,
 ⟨⟨some 40, (some (34, true)), .call (.func 15) [(.tmp 38), (.tmp 39)]⟩, (List.range 24), true, 0, 0⟩,
 ⟨⟨some 41, (some (34, true)), .prim (.bin true .eql (.tmp 37) (.tmp 40))⟩, (List.range 25), false, 7, 7⟩,
 ⟨⟨some 42, none, .prim (.pick (.tmp 34) (.tmp 41) (.const (.bool false)))⟩, (List.range 26), false, 7, 7⟩,
 ⟨⟨some 43, none, .prim (.mov (.tmp 42))⟩, (List.range 27), false, 7, 7⟩,
 ⟨⟨some 44, (some (43, true)), .prim (.load 6 true (.tmp 7))⟩, (List.range 28), false, 7, 7⟩,
 ⟨⟨some 45, (some (43, true)), .prim (.load 3 true (.tmp 8))⟩, (List.range 28), false, 7, 7⟩,
 ⟨⟨some 46, (some (43, true)), .prim (.load 3 true (.tmp 9))⟩, (List.range 28), false, 7, 7⟩,
 ⟨⟨some 47, (some (43, true)), .call (.func 19) [(.tmp 44), (.tmp 45), (.tmp 46)]⟩, (List.range 31), true, 0, 0⟩,
 ⟨⟨some 48, (some (43, true)), .prim (.load 6 true (.tmp 7))⟩, (List.range 28), false, 7, 8⟩,
 ⟨⟨some 49, (some (43, true)), .prim (.load 3 true (.tmp 8))⟩, (List.range 28), false, 7, 8⟩,
 ⟨⟨some 50, (some (43, true)), .prim (.load 3 true (.tmp 9))⟩, (List.range 28), false, 7, 8⟩,
 ⟨⟨some 51, (some (43, true)), .call (.func 20) [(.tmp 48), (.tmp 49), (.tmp 50)]⟩, (List.range 35), true, 0, 0⟩,
 ⟨⟨some 52, (some (43, true)), .prim (.bin true .eql (.tmp 47) (.tmp 51))⟩, (List.range 36), false, 9, 9⟩,
 ⟨⟨some 53, none, .prim (.pick (.tmp 43) (.tmp 52) (.const (.bool false)))⟩, (List.range 37), false, 9, 9⟩,
 ⟨⟨some 54, none, .prim (.mov (.tmp 53))⟩, (List.range 38), false, 9, 9⟩,
 ⟨⟨some 55, (some (54, true)), .prim (.load 6 true (.tmp 7))⟩, (List.range 39), false, 9, 9⟩,
 ⟨⟨some 56, (some (54, true)), .prim (.load 3 true (.tmp 9))⟩, (List.range 39), false, 9, 9⟩,
 ⟨⟨some 57, (some (54, true)), .prim (.load 3 true (.tmp 8))⟩, (List.range 39), false, 9, 9⟩,
 ⟨⟨some 58, (some (54, true)), .call (.func 19) [(.tmp 55), (.tmp 56), (.tmp 57)]⟩, (List.range 42), true, 0, 0⟩,
 ⟨⟨some 59, (some (54, true)), .prim (.load 6 true (.tmp 7))⟩, (List.range 39), false, 9, 10⟩,
 ⟨⟨some 60, (some (54, true)), .prim (.load 3 true (.tmp 9))⟩, (List.range 39), false, 9, 10⟩,
 ⟨⟨some 61, (some (54, true)), .prim (.load 3 true (.tmp 8))⟩, (List.range 39), false, 9, 10⟩,
 ⟨⟨some 62, (some (54, true)), .call (.func 20) [(.tmp 59), (.tmp 60), (.tmp 61)]⟩, (List.range 46), true, 0, 0⟩,
 ⟨⟨some 63, (some (54, true)), .prim (.bin true .eql (.tmp 58) (.tmp 62))⟩, (List.range 47), false, 11, 11⟩,
 ⟨⟨some 64, none, .prim (.pick (.tmp 54) (.tmp 63) (.const (.bool false)))⟩, (List.range 48), false, 11, 11⟩,
 ⟨⟨some 65, none, .prim (.mov (.tmp 64))⟩, (List.range 49), false, 11, 11⟩,
 ⟨⟨some 66, (some (65, true)), .call (.func 6) []⟩, (List.range 50), true, 0, 0⟩,
 ⟨⟨some 67, none, .prim (.pick (.tmp 65) (.tmp 66) (.const (.bool false)))⟩, (List.range 51), false, 12, 12⟩,
 ⟨⟨some 6, none, .prim (.mov (.tmp 67))⟩, (List.range 52), false, 12, 12⟩])
 .ret)))
def r4 : List RV := [.tmp 6]
def c59 : ACode :=
 (.seq (.ops [⟨some 2, none, .prim (.boxr (.tmp 0))⟩,
 ⟨some 4, none, .prim (.mov (.const (.bool false)))⟩])
 (.seq (.seq (.ops [⟨some 8, none, .prim (.load 3 true (.tmp 2))⟩,
 ⟨some 9, none, .call (.func 51) [(.tmp 8)]⟩,
 ⟨some 10, none, .prim (.un .not (.tmp 9))⟩,
 ⟨some 11, none, .prim (.mov (.tmp 10))⟩,
 ⟨some 12, (some (11, false)), .prim (.load 3 true (.tmp 2))⟩,
 ⟨some 13, (some (11, false)), .call (.func 56) [(.tmp 12)]⟩,
 ⟨some 14, none, .prim (.pick (.tmp 11) (.const (.bool true)) (.tmp 13))⟩])
 (.cond (.tmp 14)
 (.seq (.ops [⟨some 4, none, .prim (.mov (.const (.bool false)))⟩])
 .ret)
 .skip))
 (.seq (.ops [⟨some 15, none, .prim (.mov (.tmp 1))⟩,
 ⟨some 16, none, .prim (.fadr 1 (.tmp 2))⟩,
 ⟨some 17, none, .prim (.load 1 false (.tmp 16))⟩,
 ⟨some 18, none, .call (.func 40) [(.tmp 15), (.tmp 17)]⟩,
 ⟨some 5, none, .prim (.mov (.tmp 18))⟩])
 (.seq (.seq (.ops [⟨some 19, none, .prim (.fadr 0 (.tmp 2))⟩,
 ⟨some 20, none, .prim (.load 1 false (.tmp 19))⟩])
 (.block 0 (.seq (.ops [⟨some 22, none, .prim (.bin false .eql (.tmp 20) (.const (.int .i64 1)))⟩,
 ⟨some 21, none, .prim (.mov (.tmp 22))⟩])
 (.cond (.tmp 21)
 (.seq (.ops [⟨some 23, none, .prim (.mov (.tmp 5))⟩,
 ⟨some 24, none, .prim (.fadr 2 (.tmp 2))⟩,
 ⟨some 25, none, .prim (.load 1 false (.tmp 24))⟩,
 ⟨some 26, none, .prim (.bin false .eql (.tmp 23) (.tmp 25))⟩,
 ⟨some 4, none, .prim (.mov (.tmp 26))⟩])
 .ret)
 (.seq (.ops [⟨some 28, none, .prim (.bin false .eql (.tmp 20) (.const (.int .i64 2)))⟩,
 ⟨some 27, none, .prim (.mov (.tmp 28))⟩])
 (.cond (.tmp 27)
 (.seq (.ops [⟨some 29, none, .prim (.mov (.tmp 5))⟩,
 ⟨some 30, none, .prim (.fadr 2 (.tmp 2))⟩,
 ⟨some 31, none, .prim (.load 1 false (.tmp 30))⟩,
 ⟨some 32, none, .prim (.bin false .neq (.tmp 29) (.tmp 31))⟩,
 ⟨some 4, none, .prim (.mov (.tmp 32))⟩])
 .ret)
 .skip))))))
 (.seq (.ops [⟨some 34, none, .prim (.fadr 2 (.tmp 2))⟩,
 ⟨some 35, none, .prim (.load 1 false (.tmp 34))⟩,
 ⟨some 36, none, .call (.func 75) [(.tmp 35)]⟩,
 ⟨some 33, none, .prim (.mov (.tmp 36))⟩,
 ⟨some 37, none, .prim (.extr 0 (.tmp 33))⟩,
 ⟨some 38, none, .prim (.extr 1 (.tmp 33))⟩,
 ⟨some 6, none, .fresh 6 6 (.tmp 37)⟩,
 ⟨some 7, none, .prim (.mov (.tmp 38))⟩])
 (.seq (.draw [⟨⟨some 39, none, .prim (.load 6 true (.tmp 6))⟩, [], false, 0, 0⟩,
 ⟨⟨some 40, none, .prim (.mov (.tmp 5))⟩, [], false, 0, 0⟩,
 ⟨⟨some 41, none, .call (.func 80) [(.tmp 39), (.tmp 40)]⟩, [0, 1], true, 0, 0⟩,
 ⟨⟨some 42, none, .prim (.fadr 0 (.tmp 2))⟩, [], false, 0, 1⟩,
 ⟨⟨some 43, none, .prim (.load 1 false (.tmp 42))⟩, [3], false, 0, 1⟩,
 ⟨⟨some 44, none, .prim (.bin false .eql (.tmp 43) (.const (.int .i64 3)))⟩, [3, 4], false, 0, 1⟩,
 ⟨⟨some 45, none, .prim (.bin true .eql (.tmp 41) (.tmp 44))⟩, (List.range 6), false, 1, 1⟩,
 ⟨⟨some 4, none, .prim (.mov (.tmp 45))⟩, (List.range 7), false, 1, 1⟩])
 .ret))))))
def o59 : List Tmp := []
def r59 : List RV := [.tmp 4]
theorem t59 : Text Tryz.prog 59 o59 c59 r59 46 := ⟨⟨Tryz.f59, _, by kernel_rfl, by kernel_rfl, rfl, by kernel_rfl, by kernel_rfl, rfl⟩, by kernel_rfl⟩
def c80 : ACode :=
 (.seq (.ops [⟨some 2, none, .prim (.boxr (.tmp 0))⟩,
 ⟨some 4, none, .prim (.mov (.const (.bool false)))⟩])
 (.seq (.ops [⟨some 6, none, .prim (.load 6 true (.tmp 2))⟩,
 ⟨some 7, none, .prim (.mov (.tmp 1))⟩,
 ⟨some 8, none, .call (.func 96) [(.tmp 6), (.tmp 7), (.const (.int .i64 0))]⟩,
 ⟨some 5, none, .prim (.mov (.tmp 8))⟩])
 (.seq (.ops [⟨some 9, none, .prim (.mov (.tmp 5))⟩,
 ⟨some 10, none, .prim (.lenv (.tmp 9))⟩,
 ⟨some 11, none, .prim (.bin false .gtr (.tmp 10) (.const (.int .i64 0)))⟩,
 ⟨some 12, none, .prim (.mov (.tmp 11))⟩,
 ⟨some 13, (some (12, true)), .prim (.mov (.tmp 5))⟩,
 ⟨some 14, (some (12, true)), .prim (.mov (.tmp 5))⟩,
 ⟨some 15, (some (12, true)), .prim (.lenv (.tmp 14))⟩,
 ⟨some 16, (some (12, true)), .prim (.bin false .sub (.tmp 15) (.const (.int .i64 1)))⟩,
 ⟨some 17, (some (12, true)), .prim (.iadrs 1 (.tmp 13) (.tmp 16))⟩,
 ⟨some 18, (some (12, true)), .prim (.load 1 false (.tmp 17))⟩,
 ⟨some 19, (some (12, true)), .prim (.mov (.tmp 1))⟩,
 ⟨some 20, (some (12, true)), .prim (.lens (.tmp 19))⟩,
 ⟨some 21, (some (12, true)), .prim (.bin false .eql (.tmp 18) (.tmp 20))⟩,
 ⟨some 22, none, .prim (.pick (.tmp 12) (.tmp 21) (.const (.bool false)))⟩,
 ⟨some 4, none, .prim (.mov (.tmp 22))⟩])
 .ret)))
def o80 : List Tmp := []
def r80 : List RV := [.tmp 4]
theorem t80 : Text Tryz.prog 80 o80 c80 r80 23 := ⟨⟨Tryz.f80, _, by kernel_rfl, by kernel_rfl, rfl, by kernel_rfl, by kernel_rfl, rfl⟩, by kernel_rfl⟩
def c96 : ACode :=
 (.seq (.ops [⟨some 3, none, .prim (.boxr (.tmp 0))⟩,
 ⟨some 6, none, .prim (.mov (.const (.slice none 0 0)))⟩])
 (.seq (.seq (.ops [⟨some 11, none, .prim (.load 6 true (.tmp 3))⟩,
 ⟨some 12, none, .call (.func 91) [(.tmp 11)]⟩,
 ⟨some 13, none, .prim (.un .not (.tmp 12))⟩,
 ⟨some 14, none, .prim (.mov (.tmp 13))⟩,
 ⟨some 15, (some (14, false)), .prim (.mov (.tmp 2))⟩,
 ⟨some 16, (some (14, false)), .prim (.bin false .lss (.tmp 15) (.const (.int .i64 0)))⟩,
 ⟨some 17, none, .prim (.pick (.tmp 14) (.const (.bool true)) (.tmp 16))⟩,
 ⟨some 18, none, .prim (.mov (.tmp 17))⟩,
 ⟨some 19, (some (18, false)), .prim (.mov (.tmp 2))⟩,
 ⟨some 20, (some (18, false)), .prim (.mov (.tmp 1))⟩,
 ⟨some 21, (some (18, false)), .prim (.lens (.tmp 20))⟩,
 ⟨some 22, (some (18, false)), .prim (.bin false .gtr (.tmp 19) (.tmp 21))⟩,
 ⟨some 23, none, .prim (.pick (.tmp 18) (.const (.bool true)) (.tmp 22))⟩])
 (.cond (.tmp 23)
 (.seq (.ops [⟨some 6, none, .prim (.mov (.const (.slice none 0 0)))⟩])
 (.ghost (.shut 6) .ret))
 .skip))
 (.seq (.ops [⟨some 24, none, .prim (.mov (.tmp 1))⟩,
 ⟨some 25, none, .prim (.lens (.tmp 24))⟩,
 ⟨some 26, none, .prim (.bin false .add (.tmp 25) (.const (.int .i64 1)))⟩,
 ⟨some 27, none, .prim (.mks 1 false [.pl (.bool false)] (.tmp 26) (.tmp 26))⟩,
 ⟨some 7, none, .prim (.mov (.tmp 27))⟩])
 (.seq (.ops [⟨some 28, none, .prim (.mov (.tmp 7))⟩,
 ⟨some 29, none, .prim (.mov (.tmp 2))⟩,
 ⟨some 30, none, .prim (.iadrs 1 (.tmp 28) (.tmp 29))⟩,
 ⟨none, none, .prim (.store 1 (.tmp 30) (.const (.bool true)))⟩])
 (.seq (.ghost (.shut 7) (.ops [⟨some 31, none, .prim (.load 6 true (.tmp 3))⟩,
 ⟨some 32, none, .prim (.mov (.tmp 1))⟩,
 ⟨some 33, none, .prim (.mov (.tmp 7))⟩,
 ⟨some 34, none, .call (.func 108) [(.tmp 31), (.tmp 32), (.tmp 33)]⟩,
 ⟨some 8, none, .prim (.mov (.tmp 34))⟩]))
 (.seq (.after (.ops [⟨some 9, none, .prim (.mov (.const (.slice none 0 0)))⟩]) (.own 9 1))
 (.seq (.seq (.ops [⟨some 10, none, .prim (.mov (.const (.int .i64 0)))⟩])
 (.block 0 (.loop [0, 2, 3, 4, 5, 6, 7, 11, 12, 13, 14, 15, 16, 17, 18, 19, 20, 21, 22, 23, 24, 25, 26, 27, 28, 29, 30, 31, 32, 33, 34, 35, 36, 37, 38, 39, 40, 41, 42, 43, 44, 45, 46, 47, 48, 49] (.seq (.seq (.ops [⟨some 35, none, .prim (.mov (.tmp 10))⟩,
 ⟨some 36, none, .prim (.mov (.tmp 1))⟩,
 ⟨some 37, none, .prim (.lens (.tmp 36))⟩,
 ⟨some 38, none, .prim (.bin false .leq (.tmp 35) (.tmp 37))⟩])
 (.cond (.tmp 38)
 .skip
 (.exit 0)))
 (.seq (.block 1 (.seq (.ops [⟨some 41, none, .prim (.mov (.tmp 8))⟩,
 ⟨some 42, none, .prim (.mov (.tmp 10))⟩,
 ⟨some 43, none, .prim (.iadrs 1 (.tmp 41) (.tmp 42))⟩,
 ⟨some 44, none, .prim (.load 1 false (.tmp 43))⟩])
 (.cond (.tmp 44)
 (.ops [⟨some 45, none, .prim (.mov (.tmp 9))⟩,
 ⟨some 46, none, .prim (.mov (.tmp 10))⟩,
 ⟨some 47, none, .prim (.bsl false 1 false 1 [.pl (.int .i64 0)] [(0, 1, (.tmp 46))])⟩,
 ⟨some 48, none, .prim (.app 1 (.tmp 45) (.tmp 47))⟩,
 ⟨some 9, none, .prim (.mov (.tmp 48))⟩])
 .skip)))
 (.ops [⟨some 39, none, .prim (.mov (.tmp 10))⟩,
 ⟨some 40, none, .prim (.bin false .add (.tmp 39) (.const (.int .i64 1)))⟩,
 ⟨some 10, none, .prim (.mov (.tmp 40))⟩]))))))
 (.seq (.ops [⟨some 49, none, .prim (.mov (.tmp 9))⟩,
 ⟨some 6, none, .prim (.mov (.tmp 49))⟩])
 (.ghost (.shut 6) .ret)))))))))
def o96 : List Tmp := []
def r96 : List RV := [.tmp 6]
theorem t96 : Text Tryz.prog 96 o96 c96 r96 50 := ⟨⟨Tryz.f96, _, by kernel_rfl, by kernel_rfl, rfl, by kernel_rfl, by kernel_rfl, rfl⟩, by kernel_rfl⟩
def c108 : ACode :=
 (.seq (.ops [⟨some 3, none, .prim (.boxr (.tmp 0))⟩,
 ⟨some 6, none, .prim (.mov (.const (.slice none 0 0)))⟩])
 (.seq (.ops [⟨some 14, none, .prim (.mov (.tmp 1))⟩,
 ⟨some 15, none, .prim (.lens (.tmp 14))⟩,
 ⟨some 16, none, .prim (.bin false .add (.tmp 15) (.const (.int .i64 1)))⟩,
 ⟨some 17, none, .prim (.mks 1 false [.pl (.bool false)] (.tmp 16) (.tmp 16))⟩,
 ⟨some 7, none, .prim (.mov (.tmp 17))⟩])
 (.seq (.seq (.ops [⟨some 18, none, .prim (.fadr 0 (.tmp 3))⟩,
 ⟨some 19, none, .prim (.load 1 false (.tmp 18))⟩])
 (.block 0 (.seq (.ops [⟨some 24, none, .prim (.bin false .eql (.tmp 19) (.const (.int .i64 1)))⟩,
 ⟨some 23, none, .prim (.mov (.tmp 24))⟩])
 (.cond (.tmp 23)
 (.seq (.seq (.ops [⟨some 8, none, .prim (.mov (.const (.int .i64 0)))⟩])
 (.block 1 (.loop [0, 4, 5, 6, 9, 10, 11, 12, 13, 14, 15, 16, 17, 18, 19, 20, 21, 22, 23, 24, 25, 26, 27, 28, 29, 30, 31, 32, 33, 34, 35, 36, 37, 38, 39, 40, 41, 42, 43, 44, 45, 46, 47, 48, 49, 50, 51, 52, 53, 54, 55, 56, 57, 58, 59, 60, 61, 62, 63, 64, 65, 66, 67, 68, 69, 70, 71, 72, 73, 74, 75, 76, 77, 78, 79, 80, 81, 82, 83, 84, 85, 86, 87, 88, 89, 90, 91, 92, 93, 94, 95, 96, 97, 98, 99, 100, 101, 102, 103, 104, 105, 106, 107, 108, 109, 110, 111, 112, 113, 114, 115, 116, 117, 118, 119, 120, 121, 122, 123, 124, 125, 126, 127, 128, 129] (.seq (.seq (.ops [⟨some 25, none, .prim (.mov (.tmp 8))⟩,
 ⟨some 26, none, .prim (.mov (.tmp 1))⟩,
 ⟨some 27, none, .prim (.lens (.tmp 26))⟩,
 ⟨some 28, none, .prim (.bin false .lss (.tmp 25) (.tmp 27))⟩])
 (.cond (.tmp 28)
 .skip
 (.exit 1)))
 (.seq (.block 2 (.draw [⟨⟨some 31, none, .prim (.mov (.tmp 7))⟩, [], false, 0, 1⟩,
 ⟨⟨some 32, none, .prim (.mov (.tmp 8))⟩, [], false, 0, 1⟩,
 ⟨⟨some 33, none, .prim (.bin false .add (.tmp 32) (.const (.int .i64 1)))⟩, [1], false, 0, 1⟩,
 ⟨⟨some 34, none, .prim (.mov (.tmp 2))⟩, [], false, 0, 0⟩,
 ⟨⟨some 35, none, .prim (.mov (.tmp 8))⟩, [], false, 0, 0⟩,
 ⟨⟨some 36, none, .prim (.iadrs 1 (.tmp 34) (.tmp 35))⟩, [3, 4], false, 0, 0⟩,
 ⟨⟨some 37, none, .prim (.load 1 false (.tmp 36))⟩, [3, 4, 5], false, 0, 0⟩,
 ⟨⟨some 38, none, .prim (.mov (.tmp 37))⟩, [3, 4, 5, 6], false, 0, 0⟩,
 ⟨⟨some 39, (some (38, true)), .prim (.fadr 1 (.tmp 3))⟩, [3, 4, 5, 6, 7], false, 0, 0⟩,
 ⟨⟨some 40, (some (38, true)), .prim (.load 4 true (.tmp 39))⟩, [3, 4, 5, 6, 7, 8], false, 0, 0⟩,
 ⟨⟨some 41, (some (38, true)), .prim (.mov (.tmp 1))⟩, [3, 4, 5, 6, 7], false, 0, 0⟩,
 ⟨⟨some 42, (some (38, true)), .prim (.mov (.tmp 8))⟩, [3, 4, 5, 6, 7], false, 0, 0⟩,
 ⟨⟨some 43, (some (38, true)), .prim (.idxs (.tmp 41) (.tmp 42))⟩, [3, 4, 5, 6, 7, 10, 11], false, 0, 0⟩,
 ⟨⟨some 44, (some (38, true)), .call (.func 118) [(.tmp 40), (.tmp 43)]⟩, [3, 4, 5, 6, 7, 8, 9, 10, 11, 12], true, 0, 0⟩,
 ⟨⟨some 45, none, .prim (.pick (.tmp 38) (.tmp 44) (.const (.bool false)))⟩, [3, 4, 5, 6, 7, 8, 9, 10, 11, 12, 13], false, 1, 1⟩,
 ⟨⟨some 46, none, .prim (.iadrs 1 (.tmp 31) (.tmp 33))⟩, (List.range 15), false, 1, 1⟩,
 ⟨⟨none, none, .prim (.store 1 (.tmp 46) (.tmp 45))⟩, (List.range 16), true, 0, 0⟩]))
 (.ops [⟨some 29, none, .prim (.mov (.tmp 8))⟩,
 ⟨some 30, none, .prim (.bin false .add (.tmp 29) (.const (.int .i64 1)))⟩,
 ⟨some 8, none, .prim (.mov (.tmp 30))⟩]))))))
 (.seq (.ops [⟨some 47, none, .prim (.mov (.tmp 7))⟩,
 ⟨some 6, none, .prim (.mov (.tmp 47))⟩])
 (.ghost (.shut 6) .ret)))
 (.seq (.ops [⟨some 49, none, .prim (.bin false .eql (.tmp 19) (.const (.int .i64 2)))⟩,
 ⟨some 48, none, .prim (.mov (.tmp 49))⟩])
 (.cond (.tmp 48)
 (.seq (.ops [⟨some 50, none, .prim (.mov (.tmp 2))⟩,
 ⟨some 9, none, .prim (.mov (.tmp 50))⟩])
 (.seq (.seq (.ops [⟨some 10, none, .prim (.mov (.const (.int .i64 0)))⟩])
 (.block 3 (.loop [0, 2, 4, 5, 6, 8, 11, 12, 13, 14, 15, 16, 17, 18, 19, 20, 21, 22, 23, 24, 25, 26, 27, 28, 29, 30, 31, 32, 33, 34, 35, 36, 37, 38, 39, 40, 41, 42, 43, 44, 45, 46, 47, 48, 49, 50, 51, 52, 53, 54, 55, 56, 57, 58, 59, 60, 61, 62, 63, 64, 65, 66, 67, 68, 69, 70, 71, 72, 73, 74, 75, 76, 77, 78, 79, 80, 81, 82, 83, 84, 85, 86, 87, 88, 89, 90, 91, 92, 93, 94, 95, 96, 97, 98, 99, 100, 101, 102, 103, 104, 105, 106, 107, 108, 109, 110, 111, 112, 113, 114, 115, 116, 117, 118, 119, 120, 121, 122, 123, 124, 125, 126, 127, 128, 129] (.seq (.seq (.ops [⟨some 51, none, .prim (.mov (.tmp 10))⟩,
 ⟨some 52, none, .prim (.fadr 5 (.tmp 3))⟩,
 ⟨some 53, none, .prim (.load 1 false (.tmp 52))⟩,
 ⟨some 54, none, .prim (.lenv (.tmp 53))⟩,
 ⟨some 55, none, .prim (.bin false .lss (.tmp 51) (.tmp 54))⟩])
 (.cond (.tmp 55)
 .skip
 (.exit 3)))
 (.seq (.block 4 (.ops [⟨some 58, none, .prim (.fadr 5 (.tmp 3))⟩,
 ⟨some 59, none, .prim (.load 1 false (.tmp 58))⟩,
 ⟨some 60, none, .prim (.mov (.tmp 10))⟩,
 ⟨some 61, none, .prim (.iadrs 6 (.tmp 59) (.tmp 60))⟩,
 ⟨some 62, none, .prim (.load 6 true (.tmp 61))⟩,
 ⟨some 63, none, .prim (.mov (.tmp 1))⟩,
 ⟨some 64, none, .prim (.mov (.tmp 9))⟩,
 ⟨some 65, none, .call (.func 108) [(.tmp 62), (.tmp 63), (.tmp 64)]⟩,
 ⟨some 9, none, .prim (.mov (.tmp 65))⟩]))
 (.ops [⟨some 56, none, .prim (.mov (.tmp 10))⟩,
 ⟨some 57, none, .prim (.bin false .add (.tmp 56) (.const (.int .i64 1)))⟩,
 ⟨some 10, none, .prim (.mov (.tmp 57))⟩]))))))
 (.seq (.ops [⟨some 66, none, .prim (.mov (.tmp 7))⟩,
 ⟨some 67, none, .prim (.mov (.tmp 9))⟩,
 ⟨some 68, none, .prim (.copy (.tmp 66) (.tmp 67))⟩])
 (.seq (.ops [⟨some 69, none, .prim (.mov (.tmp 7))⟩,
 ⟨some 6, none, .prim (.mov (.tmp 69))⟩])
 (.ghost (.shut 6) .ret)))))
 (.seq (.ops [⟨some 71, none, .prim (.bin false .eql (.tmp 19) (.const (.int .i64 3)))⟩,
 ⟨some 70, none, .prim (.mov (.tmp 71))⟩])
 (.cond (.tmp 70)
 (.seq (.seq (.ghost (.shut 7) (.ops [⟨some 11, none, .prim (.mov (.const (.int .i64 0)))⟩]))
 (.block 5 (.loop [0, 4, 5, 6, 8, 9, 10, 12, 13, 14, 15, 16, 17, 18, 19, 20, 21, 22, 23, 24, 25, 26, 27, 28, 29, 30, 31, 32, 33, 34, 35, 36, 37, 38, 39, 40, 41, 42, 43, 44, 45, 46, 47, 48, 49, 50, 51, 52, 53, 54, 55, 56, 57, 58, 59, 60, 61, 62, 63, 64, 65, 66, 67, 68, 69, 70, 71, 72, 73, 74, 75, 76, 77, 78, 79, 80, 81, 82, 83, 84, 85, 86, 87, 88, 89, 90, 91, 92, 93, 94, 95, 96, 97, 98, 99, 100, 101, 102, 103, 104, 105, 106, 107, 108, 109, 110, 111, 112, 113, 114, 115, 116, 117, 118, 119, 120, 121, 122, 123, 124, 125, 126, 127, 128, 129] (.seq (.seq (.ops [⟨some 72, none, .prim (.mov (.tmp 11))⟩,
 ⟨some 73, none, .prim (.fadr 5 (.tmp 3))⟩,
 ⟨some 74, none, .prim (.load 1 false (.tmp 73))⟩,
 ⟨some 75, none, .prim (.lenv (.tmp 74))⟩,
 ⟨some 76, none, .prim (.bin false .lss (.tmp 72) (.tmp 75))⟩])
 (.cond (.tmp 76)
 .skip
 (.exit 5)))
 (.seq (.block 6 (.ops [⟨some 79, none, .prim (.mov (.tmp 7))⟩,
 ⟨some 80, none, .prim (.fadr 5 (.tmp 3))⟩,
 ⟨some 81, none, .prim (.load 1 false (.tmp 80))⟩,
 ⟨some 82, none, .prim (.mov (.tmp 11))⟩,
 ⟨some 83, none, .prim (.iadrs 6 (.tmp 81) (.tmp 82))⟩,
 ⟨some 84, none, .prim (.load 6 true (.tmp 83))⟩,
 ⟨some 85, none, .prim (.mov (.tmp 1))⟩,
 ⟨some 86, none, .prim (.mov (.tmp 2))⟩,
 ⟨some 87, none, .call (.func 108) [(.tmp 84), (.tmp 85), (.tmp 86)]⟩,
 ⟨some 88, none, .call (.func 119) [(.tmp 79), (.tmp 87)]⟩,
 ⟨some 7, none, .prim (.mov (.tmp 88))⟩]))
 (.ops [⟨some 77, none, .prim (.mov (.tmp 11))⟩,
 ⟨some 78, none, .prim (.bin false .add (.tmp 77) (.const (.int .i64 1)))⟩,
 ⟨some 11, none, .prim (.mov (.tmp 78))⟩]))))))
 (.seq (.ops [⟨some 89, none, .prim (.mov (.tmp 7))⟩,
 ⟨some 6, none, .prim (.mov (.tmp 89))⟩])
 (.ghost (.shut 6) .ret)))
 (.seq (.ops [⟨some 91, none, .prim (.bin false .eql (.tmp 19) (.const (.int .i64 6)))⟩,
 ⟨some 90, none, .prim (.mov (.tmp 91))⟩])
 (.cond (.tmp 90)
 (.seq (.ops [⟨some 92, none, .prim (.mov (.tmp 2))⟩,
 ⟨some 93, none, .prim (.fadr 5 (.tmp 3))⟩,
 ⟨some 94, none, .prim (.load 1 false (.tmp 93))⟩,
 ⟨some 95, none, .prim (.iadrs 6 (.tmp 94) (.const (.int .i64 0)))⟩,
 ⟨some 96, none, .prim (.load 6 true (.tmp 95))⟩,
 ⟨some 97, none, .prim (.mov (.tmp 1))⟩,
 ⟨some 98, none, .prim (.mov (.tmp 2))⟩,
 ⟨some 99, none, .call (.func 108) [(.tmp 96), (.tmp 97), (.tmp 98)]⟩,
 ⟨some 100, none, .call (.func 119) [(.tmp 92), (.tmp 99)]⟩,
 ⟨some 6, none, .prim (.mov (.tmp 100))⟩])
 (.ghost (.shut 6) .ret))
 (.seq (.ops [⟨some 102, none, .prim (.bin false .eql (.tmp 19) (.const (.int .i64 5)))⟩,
 ⟨some 101, none, .prim (.mov (.tmp 102))⟩])
 (.cond (.tmp 101)
 (.ops [⟨some 103, none, .prim (.fadr 5 (.tmp 3))⟩,
 ⟨some 104, none, .prim (.load 1 false (.tmp 103))⟩,
 ⟨some 105, none, .prim (.iadrs 6 (.tmp 104) (.const (.int .i64 0)))⟩,
 ⟨some 106, none, .prim (.load 6 true (.tmp 105))⟩,
 ⟨some 107, none, .prim (.mov (.tmp 1))⟩,
 ⟨some 108, none, .prim (.mov (.tmp 2))⟩,
 ⟨some 109, none, .call (.func 108) [(.tmp 106), (.tmp 107), (.tmp 108)]⟩,
 ⟨some 7, none, .prim (.mov (.tmp 109))⟩])
 (.ops [⟨some 20, none, .prim (.mov (.tmp 7))⟩,
 ⟨some 21, none, .prim (.mov (.tmp 2))⟩,
 ⟨some 22, none, .prim (.copy (.tmp 20) (.tmp 21))⟩])))))))))))))
 (.seq (.seq (.ghost (.shut 7) (.ops [⟨some 12, none, .prim (.mov (.const (.int .i64 0)))⟩]))
 (.block 7 (.loop [0, 2, 4, 5, 6, 8, 9, 10, 11, 13, 14, 15, 16, 17, 18, 19, 20, 21, 22, 23, 24, 25, 26, 27, 28, 29, 30, 31, 32, 33, 34, 35, 36, 37, 38, 39, 40, 41, 42, 43, 44, 45, 46, 47, 48, 49, 50, 51, 52, 53, 54, 55, 56, 57, 58, 59, 60, 61, 62, 63, 64, 65, 66, 67, 68, 69, 70, 71, 72, 73, 74, 75, 76, 77, 78, 79, 80, 81, 82, 83, 84, 85, 86, 87, 88, 89, 90, 91, 92, 93, 94, 95, 96, 97, 98, 99, 100, 101, 102, 103, 104, 105, 106, 107, 108, 109, 110, 111, 112, 113, 114, 115, 116, 117, 118, 119, 120, 121, 122, 123, 124, 125, 126, 127, 128, 129] (.seq (.seq (.ops [⟨some 110, none, .prim (.mov (.tmp 12))⟩,
 ⟨some 111, none, .prim (.mov (.tmp 1))⟩,
 ⟨some 112, none, .prim (.lens (.tmp 111))⟩,
 ⟨some 113, none, .prim (.bin false .leq (.tmp 110) (.tmp 112))⟩])
 (.cond (.tmp 113)
 .skip
 (.exit 7)))
 (.seq (.block 8 (.seq (.ops [⟨some 116, none, .prim (.mov (.tmp 7))⟩,
 ⟨some 117, none, .prim (.fadr 5 (.tmp 3))⟩,
 ⟨some 118, none, .prim (.load 1 false (.tmp 117))⟩,
 ⟨some 119, none, .prim (.iadrs 6 (.tmp 118) (.const (.int .i64 0)))⟩,
 ⟨some 120, none, .prim (.load 6 true (.tmp 119))⟩,
 ⟨some 121, none, .prim (.mov (.tmp 1))⟩,
 ⟨some 122, none, .prim (.mov (.tmp 7))⟩,
 ⟨some 123, none, .call (.func 108) [(.tmp 120), (.tmp 121), (.tmp 122)]⟩,
 ⟨some 124, none, .call (.func 119) [(.tmp 116), (.tmp 123)]⟩,
 ⟨some 13, none, .prim (.mov (.tmp 124))⟩])
 (.seq (.seq (.ops [⟨some 125, none, .prim (.mov (.tmp 13))⟩,
 ⟨some 126, none, .prim (.mov (.tmp 7))⟩,
 ⟨some 127, none, .call (.func 120) [(.tmp 125), (.tmp 126)]⟩])
 (.cond (.tmp 127)
 (.exit 7)
 .skip))
 (.ops [⟨some 128, none, .prim (.mov (.tmp 13))⟩,
 ⟨some 7, none, .prim (.mov (.tmp 128))⟩]))))
 (.ops [⟨some 114, none, .prim (.mov (.tmp 12))⟩,
 ⟨some 115, none, .prim (.bin false .add (.tmp 114) (.const (.int .i64 1)))⟩,
 ⟨some 12, none, .prim (.mov (.tmp 115))⟩]))))))
 (.seq (.ops [⟨some 129, none, .prim (.mov (.tmp 7))⟩,
 ⟨some 6, none, .prim (.mov (.tmp 129))⟩])
 (.ghost (.shut 6) .ret))))))
def o108 : List Tmp := []
def r108 : List RV := [.tmp 6]
theorem t108 : Text Tryz.prog 108 o108 c108 r108 130 := ⟨⟨Tryz.f108, _, by kernel_rfl, by kernel_rfl, rfl, by kernel_rfl, by kernel_rfl, rfl⟩, by kernel_rfl⟩
end Go.Proofs.YtoadgajhkhejiaaGreat
namespace Go.Proofs.YtoadgajhkhejiaaGreat
open Go Go.Ab Rex
set_option maxRecDepth 100000
theorem rep_take (n : Nat) (v : AV) : List.take n (List.replicate n v) = List.replicate n v := by simp
def After (w : ByteArray) (x : Rex) : Prop := ∀ (σ : St) (S : List Bool), S.length = w.size + 1 → Ans Tryz.prog 108 [x.av, Sx w, bv S] σ (bv (daft w x S)) σ
theorem bel_bv (n : Nat) (S : List Bool) : Bel n (bv S) := .sl 1 _ fun i hi => by simp; exact .pl _
theorem kids_get (ks : List Rex) (i : Nat) (h : i < ks.length) : (ks.map av)[i]? = some ks[i].av := by simp [h]
theorem after_one (w : ByteArray) (hw : w.size ≤ 100000) (x : Rex) (ho : x.op = 1) : After w x := by
 intro σ S hS
 rw [daft_eq]
 simp only [ho, beq_self_eq_true, if_true]
 rw [av_eq, ho]
 refine Ans.of_run' t108 (fun hbel _ => ?_)
 have q0 : IntKind.i64.wrap ((w.size : Int) + 1) = ((w.size + 1 : Nat) : Int) := wrap_nat (by omega)
 have q1 : ((0 : Int) ≤ (w.size + 1 : Nat)) = True := by simp; omega
 have q2 : (((w.size + 1 : Nat) : Int) ≤ 4294967296) = True := by simp; omega
 simp -implicitDefEqProofs only [c108, r108, go_sem, D_callS, List.length_map, q0, q1, q2, Int.le_refl, Int.toNat_natCast, rep_cells, rep_take]
 have hTl : (byteB w ⟨1, x.a, x.b, x.c, x.d, 0, 0⟩ S).length = w.size + 1 := by simp [byteB]
 refine Go.Ab.L.count w.size (fun i => mkE 130 [(1, Sx w), (2, bv S), (3, .rp [I 1, U x.a, U x.b, U x.c, U x.d, .sl 6 (x.ks.map av)]), (7, .osl σ.length (w.size + 1)), (8, I i)])
  (fun i => σ ++ [.row 1 ((fillB (byteB w ⟨1, x.a, x.b, x.c, x.d, 0, 0⟩ S) (w.size + 1) (i + 1)).map Bo)]) ?_ ?_ rfl ?_
 · intro i hi J hJ
   have h2 : (S.map Bo)[i]? = some (Bo (S.getD i false)) := by simp [show i < S.length by omega]
   have hlt : ((i : Int) < w.size) = True := by simp; omega
   have hlt2 : ((i : Int) < S.length) = True := by simp; omega
   have hin := wrap_nat (n := i) (by omega)
   have hfl : (fillB (byteB w ⟨1, x.a, x.b, x.c, x.d, 0, 0⟩ S) (w.size + 1) (i + 1)).length = w.size + 1 := by have := fillB_len (byteB w ⟨1, x.a, x.b, x.c, x.d, 0, 0⟩ S) (i + 1) (by omega); rwa [hTl] at this
   have hfs := fillB_set (byteB w ⟨1, x.a, x.b, x.c, x.d, 0, 0⟩ S) (i + 1) (by omega)
   have hTg : (byteB w ⟨1, x.a, x.b, x.c, x.d, 0, 0⟩ S).getD (i + 1) false = (S.getD i false && tstU ([x.a, x.b, x.c, x.d].getD (byteAt w i / 64) 0) (byteAt w i % 64)) := by
    rw [List.getD_eq_getElem?_getD, byteB, List.getElem?_map, List.getElem?_range (by omega)]
    simp [takesS, setU]
   rw [hTl, hTg] at hfs
   rw [← hfs] at hJ
   generalize fillB (byteB w ⟨1, x.a, x.b, x.c, x.d, 0, 0⟩ S) (w.size + 1) (i + 1) = M at hfl hJ ⊢
   have hM : (M.map Bo)[i + 1]? = some (Bo (M.getD (i + 1) false)) := by simp [show i + 1 < M.length by omega]
   have hMl : (w.size + 1 = M.length) = True := by simp [hfl]
   have hlt3 : ((i + 1 : Nat) : Int) < M.length := by omega
   have hlt4 : (((i + 1 : Nat) : Int) < (w.size + 1 : Nat)) = True := by simp; omega
   have hh := fun σ => has_ans σ x.a x.b x.c x.d (byteAt w i) (byteAt_lt w i)
   generalize tstU ([x.a, x.b, x.c, x.d].getD (byteAt w i / 64) 0) (byteAt w i % 64) = tb at hh hJ
   cases hb : S.getD i false with
   | true =>
     rw [hb, List.map_set] at hJ
     simp -implicitDefEqProofs only [mkE, go_sem, D_callS, List.length_map, hlt, hlt2, h2, hb, hin, hM, hMl, hfl, hlt3, hlt4, g0, s0, byteAt_def]
     refine CD.intro (hh _) ?_
     simp -implicitDefEqProofs only [go_sem, D_callS, List.length_map, hin, hM, hMl, hfl, hlt3, hlt4, g0, s0]
     exact hJ
   | false =>
     rw [hb, List.map_set] at hJ
     simp -implicitDefEqProofs only [mkE, go_sem, D_callS, List.length_map, hlt, hlt2, h2, hb, hin, hM, hMl, hfl, hlt3, hlt4, g0, s0, byteAt_def]
     exact hJ
 · intro J
   have hlt : ((w.size : Int) < w.size) = False := by simp
   have hfe := fillB_end (byteB w ⟨1, x.a, x.b, x.c, x.d, 0, 0⟩ S)
   rw [hTl] at hfe
   have hq : (w.size + 1 = (byteB w ⟨1, x.a, x.b, x.c, x.d, 0, 0⟩ S).length) = True := by simp [hTl]
   simp -implicitDefEqProofs only [mkE, go_sem, List.length_map, hlt, hfe, g0, s0, hq, hTl]
   exact Fini.trim2 (σ' := σ) rfl rfl (Nat.le_refl _) (bel_bv _ _) hbel
 · simp [fillB, byteB, List.replicate_succ, List.range_succ_eq_map]
end Go.Proofs.YtoadgajhkhejiaaGreat
namespace Go.Proofs.YtoadgajhkhejiaaGreat
open Go Go.Ab Rex
set_option maxRecDepth 100000
theorem daftL_snoc (w : ByteArray) (l : List Rex) (x : Rex) : ∀ S, daftL w (l ++ [x]) S = daft w x (daftL w l S) := by
 induction l with
 | nil => intro S; rfl
 | cons y l ih => intro S; rw [List.cons_append]; exact ih _
theorem daftA_snoc (w : ByteArray) (l : List Rex) (x : Rex) (S : List Bool) : ∀ acc, daftA w (l ++ [x]) S acc = joinB (daftA w l S acc) (daft w x S) := by
 induction l with
 | nil => intro acc; rfl
 | cons y l ih => intro acc; rw [List.cons_append]; exact ih _
theorem all_bo (S : List Bool) (f : AV → Bool) (h : ∀ b : Bool, f (Bo b) = true) : (S.map Bo).all f = true := by
 simp only [List.all_map, List.all_eq_true]
 exact fun x _ => h x
theorem min_self' (n : Nat) : n.min n = n := Nat.min_self n
theorem tk_bo {S : List Bool} {n : Nat} (h : S.length = n) : List.take n (S.map Bo) = S.map Bo := by rw [List.take_of_length_le]; simp; omega
theorem dr_rep (n : Nat) (v : AV) : List.drop n (List.replicate n v) = [] := by simp
structure Kids (w : ByteArray) (x : Rex) : Prop where
 ans : ∀ k ∈ x.ks, After w k
 len : ∀ k ∈ x.ks, ∀ S, S.length = w.size + 1 → (daft w k S).length = w.size + 1
theorem daftL_len {w : ByteArray} {l : List Rex} (h : ∀ k ∈ l, ∀ S, S.length = w.size + 1 → (daft w k S).length = w.size + 1) : ∀ S, S.length = w.size + 1 → (daftL w l S).length = w.size + 1 := by
 induction l with
 | nil => exact fun S h => h
 | cons x xs ih => exact fun S hS => ih (fun k hk => h k (List.mem_cons_of_mem _ hk)) _ (h x List.mem_cons_self S hS)
theorem daftA_len {w : ByteArray} {l : List Rex} : ∀ (S acc : List Bool), acc.length = w.size + 1 → (daftA w l S acc).length = w.size + 1 := by
 induction l with
 | nil => exact fun S acc h => h
 | cons x xs ih => exact fun S acc h => ih S _ (by rw [joinB_len]; exact h)
theorem after_seq (w : ByteArray) (hw : w.size ≤ 100000) (x : Rex) (ho : x.op = 2) (hk : Kids w x) (hl : x.ks.length ≤ 1000) : After w x := by
 intro σ S hS
 rw [daft_eq]
 have e1 : ((2 : Int) == 1) = false := rfl
 simp only [ho, e1, beq_self_eq_true, if_true, Bool.false_eq_true, if_false]
 rw [av_eq, ho]
 refine Ans.of_run' t108 (fun hbel _ => ?_)
 have q0 : IntKind.i64.wrap ((w.size : Int) + 1) = ((w.size + 1 : Nat) : Int) := wrap_nat (by omega)
 have q1 : ((0 : Int) ≤ (w.size + 1 : Nat)) = True := by simp; omega
 have q2 : (((w.size + 1 : Nat) : Int) ≤ 4294967296) = True := by simp; omega
 simp -implicitDefEqProofs only [c108, r108, go_sem, D_callS, List.length_map, q0, q1, q2, Int.le_refl, Int.toNat_natCast, rep_cells, rep_take]
 refine Go.Ab.L.count x.ks.length (fun i => mkE 130 [(1, Sx w), (3, .rp [I 2, U x.a, U x.b, U x.c, U x.d, .sl 6 (x.ks.map av)]), (7, .osl σ.length (w.size + 1)), (9, bv (daftL w (x.ks.take i) S)), (10, I i)])
  (fun i => σ ++ [.row 1 (List.replicate (w.size + 1) (.pl (.bool false)))]) ?_ ?_ rfl rfl
 · intro i hi J hJ
   have hget := kids_get x.ks i hi
   have hd : decide ((i : Int) < x.ks.length) = true := by simp; omega
   have hd' : ((i : Int) < x.ks.length) = True := by simp; omega
   have hin := wrap_nat (n := i) (by omega)
   have hans := hk.ans x.ks[i] (List.getElem_mem hi)
   have hcur : (daftL w (x.ks.take i) S).length = w.size + 1 := daftL_len (fun k hk' => hk.len k (List.mem_of_mem_take hk')) S hS
   rw [List.take_succ_eq_append_getElem hi, daftL_snoc] at hJ
   have hr := fun σ => hans σ _ hcur
   generalize daftL w (x.ks.take i) S = cur at hcur hJ hr ⊢
   rw [av_eq] at hget
   simp only [av_eq] at hr
   simp -implicitDefEqProofs only [mkE, go_sem, List.length_map, hd, hd', hget]
   refine CO.intro (hr _) ?_
   simp -implicitDefEqProofs only [go_sem, hin]
   exact hJ
 · intro J
   have hd : decide ((x.ks.length : Int) < x.ks.length) = false := by simp
   have hcur : (daftL w x.ks S).length = w.size + 1 := daftL_len hk.len S hS
   rw [List.take_length]
   have h1 : (List.map Bo (daftL w x.ks S)).length = w.size + 1 := by rw [List.length_map]; exact hcur
   have htk := tk_bo hcur
   have hrl : (w.size + 1 = (List.replicate (w.size + 1) (AV.pl (Value.bool false))).length) = True := by simp
   have hq : (w.size + 1 = (List.map Bo (daftL w x.ks S)).length) = True := by simp [hcur]
   simp -implicitDefEqProofs only [mkE, go_sem, List.length_map, hd, g0, s0, hcur, all_bo, hrl, min_self', htk, dr_rep, List.append_nil]
   exact Fini.trim2 (σ' := σ) rfl rfl (Nat.le_refl _) (bel_bv _ _) hbel
end Go.Proofs.YtoadgajhkhejiaaGreat
namespace Go.Proofs.YtoadgajhkhejiaaGreat
open Go Go.Ab Rex
set_option maxRecDepth 100000
theorem after_alt (w : ByteArray) (hw : w.size ≤ 100000) (x : Rex) (ho : x.op = 3) (hk : Kids w x) (hl : x.ks.length ≤ 1000) : After w x := by
 intro σ S hS
 rw [daft_eq]
 have e1 : ((3 : Int) == 1) = false := rfl
 have e2 : ((3 : Int) == 2) = false := rfl
 simp only [ho, e1, e2, beq_self_eq_true, if_true, Bool.false_eq_true, if_false]
 rw [av_eq, ho]
 refine Ans.of_run' t108 (fun hbel _ => ?_)
 have q0 : IntKind.i64.wrap ((w.size : Int) + 1) = ((w.size + 1 : Nat) : Int) := wrap_nat (by omega)
 have q1 : ((0 : Int) ≤ (w.size + 1 : Nat)) = True := by simp; omega
 have q2 : (((w.size + 1 : Nat) : Int) ≤ 4294967296) = True := by simp; omega
 have hrl : (w.size + 1 = (List.replicate (w.size + 1) (AV.pl (Value.bool false))).length) = True := by simp
 have hrl2 : (w.size = (List.replicate w.size (AV.pl (Value.bool false))).length) = True := by simp
 simp -implicitDefEqProofs only [c108, r108, go_sem, D_callS, List.length_map, q0, q1, q2, Int.le_refl, Int.toNat_natCast, rep_cells, rep_take, hrl, hrl2, g0, s0]
 refine Go.Ab.L.count x.ks.length (fun i => mkE 130 [(1, Sx w), (2, bv S), (3, .rp [I 3, U x.a, U x.b, U x.c, U x.d, .sl 6 (x.ks.map av)]), (7, bv (daftA w (x.ks.take i) S (noB w))), (11, I i)])
  (fun i => σ ++ [.dead]) ?_ ?_ ?_ rfl
 · intro i hi J hJ
   have hget := kids_get x.ks i hi
   have hd : decide ((i : Int) < x.ks.length) = true := by simp; omega
   have hd' : ((i : Int) < x.ks.length) = True := by simp; omega
   have hin := wrap_nat (n := i) (by omega)
   have hans := hk.ans x.ks[i] (List.getElem_mem hi)
   have hkl := hk.len x.ks[i] (List.getElem_mem hi) S hS
   have hcur : (daftA w (x.ks.take i) S (noB w)).length = w.size + 1 := daftA_len S _ (noB_len w)
   rw [List.take_succ_eq_append_getElem hi, daftA_snoc] at hJ
   have hr := fun σ => hans σ S hS
   have hj := fun σ => join_ans σ (daftA w (x.ks.take i) S (noB w)) (daft w x.ks[i] S) (by rw [hcur, hkl]) (by omega)
   generalize daftA w (x.ks.take i) S (noB w) = cur at hcur hJ hj ⊢
   generalize daft w x.ks[i] S = nx at hJ hj hr
   rw [av_eq] at hget
   simp only [av_eq] at hr
   simp -implicitDefEqProofs only [mkE, go_sem, List.length_map, hd, hd', hget]
   refine CO.intro (hr _) ?_
   simp -implicitDefEqProofs only [go_sem]
   refine CO.intro (hj _) ?_
   simp -implicitDefEqProofs only [go_sem, hin]
   exact hJ
 · intro J
   have hd : decide ((x.ks.length : Int) < x.ks.length) = false := by simp
   rw [List.take_length]
   simp -implicitDefEqProofs only [mkE, go_sem, List.length_map, hd]
   exact Fini.trim2 (σ' := σ) rfl rfl (Nat.le_refl _) (bel_bv _ _) hbel
 · have e0 : (noB w).map Bo = Bo false :: List.replicate w.size (Bo false) := by simp [noB, List.replicate_succ]
   have e4 : daftA w (x.ks.take 0) S (noB w) = noB w := rfl
   rw [e4]
   show _ = mkE 130 [(1, Sx w), (2, bv S), (3, _), (7, .sl 1 ((noB w).map Bo)), (11, I (0 : Nat))]
   rw [e0]; rfl
theorem after_maybe (w : ByteArray) (hw : w.size ≤ 100000) (x k : Rex) (ho : x.op = 6) (hks : x.ks = [k]) (hk : Kids w x) : After w x := by
 intro σ S hS
 rw [daft_eq]
 have e1 : ((6 : Int) == 1) = false := rfl
 have e2 : ((6 : Int) == 2) = false := rfl
 have e3 : ((6 : Int) == 3) = false := rfl
 simp only [ho, e1, e2, e3, beq_self_eq_true, if_true, Bool.false_eq_true, if_false, hks, daftH]
 have hans := hk.ans k (by rw [hks]; exact List.mem_cons_self) 
 have hkl := hk.len k (by rw [hks]; exact List.mem_cons_self) S hS
 rw [av_eq, ho, hks]
 refine Ans.of_run' t108 (fun hbel _ => ?_)
 have q0 : IntKind.i64.wrap ((w.size : Int) + 1) = ((w.size + 1 : Nat) : Int) := wrap_nat (by omega)
 have q1 : ((0 : Int) ≤ (w.size + 1 : Nat)) = True := by simp; omega
 have q2 : (((w.size + 1 : Nat) : Int) ≤ 4294967296) = True := by simp; omega
 have hr := fun σ => hans σ S hS
 have hj := fun σ => join_ans σ S (daft w k S) (by rw [hS, hkl]) (by omega)
 generalize daft w k S = nx at hj hr ⊢
 simp only [av_eq] at hr
 simp -implicitDefEqProofs only [c108, r108, go_sem, D_callS, List.length_map, q0, q1, q2, Int.le_refl, Int.toNat_natCast, rep_cells, rep_take, List.map_cons, List.map_nil, av_eq]
 refine CO.intro (hr _) ?_
 simp -implicitDefEqProofs only [go_sem]
 refine CO.intro (hj _) ?_
 simp -implicitDefEqProofs only [go_sem]
 exact Fini.trim2 (σ' := σ) rfl rfl (Nat.le_refl _) (bel_bv _ _) hbel
end Go.Proofs.YtoadgajhkhejiaaGreat
namespace Go.Proofs.YtoadgajhkhejiaaGreat
open Go Go.Ab Rex
set_option maxRecDepth 100000
theorem after_star (w : ByteArray) (hw : w.size ≤ 100000) (x0 k : Rex) (ho : x0.op = 4) (hks : x0.ks = [k]) (hk : Kids w x0) : After w x0 := by
 intro σ S hS
 rw [daft_eq]
 have e1 : ((4 : Int) == 1) = false := rfl
 have e2 : ((4 : Int) == 2) = false := rfl
 have e3 : ((4 : Int) == 3) = false := rfl
 have e5 : ((4 : Int) == 5) = false := rfl
 have e6 : ((4 : Int) == 6) = false := rfl
 simp only [ho, e1, e2, e3, e5, e6, Bool.false_eq_true, if_false, hks, daftH]
 have hans := hk.ans k (by rw [hks]; exact List.mem_cons_self)
 have hkl := hk.len k (by rw [hks]; exact List.mem_cons_self)
 rw [av_eq, ho, hks]
 refine Ans.of_run' t108 (fun hbel _ => ?_)
 have q0 : IntKind.i64.wrap ((w.size : Int) + 1) = ((w.size + 1 : Nat) : Int) := wrap_nat (by omega)
 have q1 : ((0 : Int) ≤ (w.size + 1 : Nat)) = True := by simp; omega
 have q2 : (((w.size + 1 : Nat) : Int) ≤ 4294967296) = True := by simp; omega
 have hrl : (w.size + 1 = (List.replicate (w.size + 1) (AV.pl (Value.bool false))).length) = True := by simp
 have hrl2 : (w.size = (List.replicate w.size (AV.pl (Value.bool false))).length) = True := by simp
 have htk := tk_bo hS
 have hSl : (w.size + 1 = S.length) = True := by simp [hS]
 generalize hres : starL (daft w k) (w.size + 1) S = res
 have dr2 : List.drop (w.size + 1) (AV.pl (.bool false) :: List.replicate w.size (AV.pl (.bool false))) = [] := by simp
 simp -implicitDefEqProofs only [c108, r108, go_sem, D_callS, List.length_map, q0, q1, q2, Int.le_refl, Int.toNat_natCast, rep_cells, rep_take, hrl, hrl2, g0, s0, all_bo, hS, min_self', htk, dr_rep, dr2, List.append_nil, hSl, List.map_cons, List.map_nil]
 refine Go.Ab.L.intro (α := { x : Nat × List Bool // x.1 ≤ w.size + 1 ∧ x.2.length = w.size + 1 ∧ starL (daft w k) (w.size + 1 - x.1) x.2 = res })
  (fun x => w.size + 1 - x.1.1)
  (fun x => mkE 130 [(1, Sx w), (3, .rp [I 4, U x0.a, U x0.b, U x0.c, U x0.d, .sl 6 [k.av]]), (7, bv x.1.2), (12, I x.1.1)])
  (fun x => σ ++ [.dead])
  (fun x J hJ => ?_) ⟨(0, S), Nat.zero_le _, hS, hres⟩ ?_ rfl
 · obtain ⟨⟨i, cur⟩, h1, h2, h3⟩ := x
   simp only at h1 h2 h3 hJ ⊢
   by_cases hi : i ≤ w.size
   · have hd : decide ((i : Int) ≤ w.size) = true := by simp; omega
     have hin := wrap_nat (n := i) (by omega)
     have hr := fun σ => hans σ cur h2
     have hnl := hkl cur h2
     rw [show w.size + 1 - i = (w.size - i) + 1 by omega, starL] at h3
     have hj := fun σ => join_ans σ cur (daft w k cur) (by rw [h2, hnl]) (by omega)
     have hjl : (joinB cur (daft w k cur)).length = w.size + 1 := by rw [joinB_len]; exact h2
     have hs := fun σ => same_ans σ (joinB cur (daft w k cur)) cur (by rw [hjl, h2]) (by omega)
     generalize joinB cur (daft w k cur) = jn at h3 hj hs hjl
     generalize daft w k cur = nx at hr hj
     simp only [av_eq] at hr
     simp -implicitDefEqProofs only [mkE, go_sem, List.length_map, hd, av_eq]
     refine CO.intro (hr _) ?_
     simp -implicitDefEqProofs only [go_sem]
     refine CO.intro (hj _) ?_
     simp -implicitDefEqProofs only [go_sem]
     refine CO.intro (hs _) ?_
     cases hb : (jn == cur) with
     | true =>
       rw [hb, if_pos rfl] at h3
       subst h3
       simp -implicitDefEqProofs only [go_sem]
       exact Fini.trim2 (σ' := σ) rfl rfl (Nat.le_refl _) (bel_bv _ _) hbel
     | false =>
       rw [hb, if_neg Bool.false_ne_true] at h3
       simp -implicitDefEqProofs only [go_sem, hin]
       have := hJ ⟨(i + 1, jn), by omega, hjl, by rw [show w.size + 1 - (i + 1) = w.size - i by omega]; exact h3⟩ (by simp only; omega)
       simp only [av_eq] at this
       exact this
   · have hd : decide ((i : Int) ≤ w.size) = false := by simp; omega
     rw [show w.size + 1 - i = 0 by omega, starL] at h3
     subst h3
     simp -implicitDefEqProofs only [mkE, go_sem, List.length_map, hd]
     exact Fini.trim2 (σ' := σ) rfl rfl (Nat.le_refl _) (bel_bv _ _) hbel
 · rfl
theorem after_plus (w : ByteArray) (hw : w.size ≤ 100000) (x0 k : Rex) (ho : x0.op = 5) (hks : x0.ks = [k]) (hk : Kids w x0) : After w x0 := by
 intro σ S hS
 rw [daft_eq]
 have e1 : ((5 : Int) == 1) = false := rfl
 have e2 : ((5 : Int) == 2) = false := rfl
 have e3 : ((5 : Int) == 3) = false := rfl
 have e6 : ((5 : Int) == 6) = false := rfl
 simp only [ho, e1, e2, e3, e6, beq_self_eq_true, if_true, Bool.false_eq_true, if_false, hks, daftH]
 have hans := hk.ans k (by rw [hks]; exact List.mem_cons_self)
 have hkl := hk.len k (by rw [hks]; exact List.mem_cons_self)
 rw [av_eq, ho, hks]
 refine Ans.of_run' t108 (fun hbel _ => ?_)
 have q0 : IntKind.i64.wrap ((w.size : Int) + 1) = ((w.size + 1 : Nat) : Int) := wrap_nat (by omega)
 have q1 : ((0 : Int) ≤ (w.size + 1 : Nat)) = True := by simp; omega
 have q2 : (((w.size + 1 : Nat) : Int) ≤ 4294967296) = True := by simp; omega
 have hr1 := fun σ => hans σ S hS
 have hl1 := hkl S hS
 generalize hres : starL (daft w k) (w.size + 1) (daft w k S) = res
 generalize daft w k S = S1 at hr1 hl1 hres
 simp only [av_eq] at hr1
 simp -implicitDefEqProofs only [c108, r108, go_sem, D_callS, List.length_map, q0, q1, q2, Int.le_refl, Int.toNat_natCast, rep_cells, rep_take, List.map_cons, List.map_nil, av_eq]
 refine CO.intro (hr1 _) ?_
 simp -implicitDefEqProofs only [go_sem, List.length_map]
 refine Go.Ab.L.intro (α := { x : Nat × List Bool // x.1 ≤ w.size + 1 ∧ x.2.length = w.size + 1 ∧ starL (daft w k) (w.size + 1 - x.1) x.2 = res })
  (fun x => w.size + 1 - x.1.1)
  (fun x => mkE 130 [(1, Sx w), (3, .rp [I 5, U x0.a, U x0.b, U x0.c, U x0.d, .sl 6 [k.av]]), (7, bv x.1.2), (12, I x.1.1)])
  (fun x => σ ++ [.row 1 (List.replicate (w.size + 1) (.pl (.bool false)))])
  (fun x J hJ => ?_) ⟨(0, S1), Nat.zero_le _, hl1, hres⟩ ?_ rfl
 · obtain ⟨⟨i, cur⟩, h1, h2, h3⟩ := x
   simp only at h1 h2 h3 hJ ⊢
   by_cases hi : i ≤ w.size
   · have hd : decide ((i : Int) ≤ w.size) = true := by simp; omega
     have hin := wrap_nat (n := i) (by omega)
     have hr := fun σ => hans σ cur h2
     have hnl := hkl cur h2
     rw [show w.size + 1 - i = (w.size - i) + 1 by omega, starL] at h3
     have hj := fun σ => join_ans σ cur (daft w k cur) (by rw [h2, hnl]) (by omega)
     have hjl : (joinB cur (daft w k cur)).length = w.size + 1 := by rw [joinB_len]; exact h2
     have hs := fun σ => same_ans σ (joinB cur (daft w k cur)) cur (by rw [hjl, h2]) (by omega)
     generalize joinB cur (daft w k cur) = jn at h3 hj hs hjl
     generalize daft w k cur = nx at hr hj
     simp only [av_eq] at hr
     simp -implicitDefEqProofs only [mkE, go_sem, List.length_map, hd, av_eq]
     refine CO.intro (hr _) ?_
     simp -implicitDefEqProofs only [go_sem]
     refine CO.intro (hj _) ?_
     simp -implicitDefEqProofs only [go_sem]
     refine CO.intro (hs _) ?_
     cases hb : (jn == cur) with
     | true =>
       rw [hb, if_pos rfl] at h3
       subst h3
       simp -implicitDefEqProofs only [go_sem]
       exact Fini.trim2 (σ' := σ) rfl rfl (Nat.le_refl _) (bel_bv _ _) hbel
     | false =>
       rw [hb, if_neg Bool.false_ne_true] at h3
       simp -implicitDefEqProofs only [go_sem, hin]
       have := hJ ⟨(i + 1, jn), by omega, hjl, by rw [show w.size + 1 - (i + 1) = w.size - i by omega]; exact h3⟩ (by simp only; omega)
       simp only [av_eq] at this
       exact this
   · have hd : decide ((i : Int) ≤ w.size) = false := by simp; omega
     rw [show w.size + 1 - i = 0 by omega, starL] at h3
     subst h3
     simp -implicitDefEqProofs only [mkE, go_sem, List.length_map, hd]
     exact Fini.trim2 (σ' := σ) rfl rfl (Nat.le_refl _) (bel_bv _ _) hbel
 · simp only [av_eq]; rfl
end Go.Proofs.YtoadgajhkhejiaaGreat
namespace Go.Proofs.YtoadgajhkhejiaaGreat
open Go Go.Ab
set_option maxRecDepth 100000
open Rex
section
variable (σ : St)
theorem rsize_ans (x : Rex) (hn : x.nodes ≤ 1000) : Ans Tryz.prog 92 [x.av] σ (I x.size) σ := by
 rw [av_eq]
 refine Ans.of_run t92 ?_
 simp -implicitDefEqProofs only [c92, r92, go_sem, List.length_map]
 have hget : ∀ i (hi : i < x.ks.length), (x.ks.map av)[i]? = some (.agg [I (x.ks[i]).op, U (x.ks[i]).a, U (x.ks[i]).b, U (x.ks[i]).c, U (x.ks[i]).d, .sl 6 ((x.ks[i]).ks.map av)]) := fun i hi => by simp [hi, ← av_eq]
 have hk := nodes_eq x
 refine L.count x.ks.length (fun i => mkE 43 [(1, .rp [I x.op, U x.a, U x.b, U x.c, U x.d, .sl 6 (x.ks.map av)]), (3, I (sizeL (x.ks.take i))), (4, I i)]) (fun _ => σ) ?_ ?_ ?_ rfl
 · intro i hi J hJ
   have e1 : ((i : Int) < (x.ks.length : Nat)) = True := by simp; omega
   have e2 : IntKind.i64.wrap ((i : Int) + 1) = ((i + 1 : Nat) : Int) := by
    have := len_nodes x.ks
    rw [wrapN (by omega) (by omega)]; rfl
   have hni := nodes_get x.ks i hi
   have h := rsize_ans x.ks[i] (by omega)
   rw [av_eq] at h
   simp -implicitDefEqProofs only [mkE, go_sem, e1, hget i hi, List.length_map]
   refine CO.intro h ?_
   have e3 : IntKind.i64.wrap (sizeL (x.ks.take i) + x.ks[i].size) = sizeL (x.ks.take (i + 1)) := by
    have h1 := sizeL_le (x.ks.take i)
    have h2 := size_le x.ks[i]
    have h3 := nodesL_take x.ks i
    rw [wrapN (by omega) (by omega), sizeL_take _ _ hi]
   simp -implicitDefEqProofs only [go_sem, e2, e3]
   exact hJ
 · intro J
   have e1 : (((x.ks.length : Nat) : Int) < (x.ks.length : Nat)) = False := by simp
   have h1 := sizeL_le x.ks
   have h2 := len_nodes x.ks
   have e2 : IntKind.i64.wrap (sizeL x.ks + 2) = sizeL x.ks + 2 := wrapN (by omega) (by omega)
   have e3 : IntKind.i64.wrap (sizeL x.ks + 1) = sizeL x.ks + 1 := wrapN (by omega) (by omega)
   have e4 : IntKind.i64.wrap ((x.ks.length : Int) - 1) = (x.ks.length : Int) - 1 := wrapN (by omega) (by omega)
   have e5 : IntKind.i64.wrap (2 * ((x.ks.length : Int) - 1)) = 2 * ((x.ks.length : Int) - 1) := wrapN (by omega) (by omega)
   have e6 : IntKind.i64.wrap (sizeL x.ks + 2 * ((x.ks.length : Int) - 1)) = sizeL x.ks + 2 * ((x.ks.length : Int) - 1) := wrapN (by omega) (by omega)
   simp -implicitDefEqProofs only [mkE, go_sem, e1, List.take_length, List.length_map]
   repeat' (refine C.split (fun hb => ?_) (fun hb => ?_) <;> simp -implicitDefEqProofs only [hb, go_sem, List.length_map, e2, e3, e4, e5, e6, List.take_length])
   all_goals (refine Fini.ret' rfl (int_congr ?_); rw [size_eq]; simp [*])
 · simp [mkE, sizeL]
termination_by SizeOf.sizeOf x
decreasing_by exact lt_of_mem (List.getElem_mem _)
theorem ris_ans (x : Rex) (hn : x.nodes ≤ 1000) : Ans Tryz.prog 91 [x.av] σ (Bo x.is) σ := by
 have hk := nodes_eq x
 have hl := len_nodes x.ks
 have hget : ∀ i (hi : i < x.ks.length), (x.ks.map av)[i]? = some (.agg [I (x.ks[i]).op, U (x.ks[i]).a, U (x.ks[i]).b, U (x.ks[i]).c, U (x.ks[i]).d, .sl 6 ((x.ks[i]).ks.map av)]) := fun i hi => by simp [hi, ← av_eq]
 have ih : ∀ i (hi : i < x.ks.length), Ans Tryz.prog 91 [.agg [I (x.ks[i]).op, U (x.ks[i]).a, U (x.ks[i]).b, U (x.ks[i]).c, U (x.ks[i]).d, .sl 6 ((x.ks[i]).ks.map av)]] σ (Bo (x.ks[i]).is) σ := fun i hi => by
  have hni := nodes_get x.ks i hi
  have := ris_ans x.ks[i] (by omega)
  rwa [av_eq] at this
 have h01 : ((x.ks.length : Int) == 0) = decide ((x.ks.length : Int) < 1) := by rw [Bool.eq_iff_iff]; simp only [beq_iff_eq, decide_eq_true_eq]; omega
 rw [av_eq]
 refine Ans.of_run t91 ?_
 simp -implicitDefEqProofs only [c91, r91, go_sem, List.length_map]
 repeat' ((refine C.split (fun hb => ?_) (fun hb => ?_) <;> simp -implicitDefEqProofs only [hb, go_sem, List.length_map, Bool.true_xor]))
 all_goals try (refine Fini.ret' rfl (bo_congr ?_); rw [is_eq]; first | (simp [*]; done) | (rw [h01]; simp only [*]; simp; done))
 all_goals (
  have hwhole : x.is = (plain x && !(x.ks.any fun k => !k.is)) := by
   rw [is_eq]; first | (simp [*]; done) | (rw [h01]; simp only [*]; simp)
  clear hb
  refine L.scan x.ks.length (fun i => match x.ks[i]? with | some y => y.is | none => true) (fun i => mkE 42 [(1, .rp [I x.op, U x.a, U x.b, U x.c, U x.d, .sl 6 (x.ks.map av)]), (3, I x.ks.length), (4, I i)]) (fun _ => σ) ?_ ?_ ?_ rfl)
 all_goals try rfl
 all_goals first
 | (intro i hi hok J hJ
    have e1 : ((i : Int) < (x.ks.length : Nat)) = True := by simp; omega
    have e2 : IntKind.i64.wrap ((i : Int) + 1) = ((i + 1 : Nat) : Int) := by rw [wrapN (by omega) (by omega)]; rfl
    have e5 : x.ks[i]? = some x.ks[i] := List.getElem?_eq_getElem hi
    simp -implicitDefEqProofs only [mkE, go_sem, e1, hget i hi, List.length_map]
    refine CO.intro (ih i hi) ?_
    cases hb : (x.ks[i]).is with
    | true =>
      simp -implicitDefEqProofs only [go_sem, e2]
      exact hJ (by rw [e5]; exact hb)
    | false =>
      simp -implicitDefEqProofs only [go_sem]
      refine Fini.ret' rfl (bo_congr ?_)
      have : (x.ks.any fun k => !k.is) = true := List.any_eq_true.2 ⟨x.ks[i], List.getElem_mem hi, by simp [hb]⟩
      rw [hwhole, this]; simp)
 | (intro hok J
    have e1 : (((x.ks.length : Nat) : Int) < (x.ks.length : Nat)) = False := by simp
    simp -implicitDefEqProofs only [mkE, go_sem, e1, List.length_map]
    refine Fini.ret' rfl (bo_congr ?_)
    have : (x.ks.any fun k => !k.is) = false := by
     rw [List.any_eq_false]
     intro y hy
     obtain ⟨j, hj, rfl⟩ := List.getElem_of_mem hy
     have := hok j hj
     rw [List.getElem?_eq_getElem hj] at this
     simpa using this
    rw [hwhole, this]; simp [plain])
termination_by SizeOf.sizeOf x
decreasing_by exact lt_of_mem (List.getElem_mem _)
theorem rSize_ans (x : Rex) (hn : x.nodes ≤ 1000) : Ans Tryz.prog 78 [x.av] σ (I (full x)) σ := by
 have h1 := ris_ans σ x hn
 have h2 := rsize_ans σ x hn
 have hs := size_le x
 have e1 : IntKind.i64.wrap (x.size + 1) = x.size + 1 := wrapN (by omega) (by omega)
 rw [av_eq] at h1 h2 ⊢
 refine Ans.of_run t78 ?_
 simp -implicitDefEqProofs only [c78, r78, go_sem]
 refine CO.intro h1 ?_
 simp -implicitDefEqProofs only [go_sem]
 refine C.splitN (fun hb => ?_) (fun hb => ?_) <;> simp -implicitDefEqProofs only [go_sem]
 · refine CO.intro h2 ?_
   simp -implicitDefEqProofs only [go_sem, e1]
   refine Fini.ret' rfl (int_congr ?_)
   simp [full, hb]
 · refine Fini.ret' rfl (int_congr ?_)
   simp [full, hb]
end
end Go.Proofs.YtoadgajhkhejiaaGreat
namespace Go.Proofs.YtoadgajhkhejiaaGreat
open Go Go.Ab
set_option maxRecDepth 100000
open Rex
abbrev dob (s : ByteArray) (a d : Nat) (b : Bool) : Ob := .box [Sx s, I a, I d, Bo b]
def specials : List Nat := [124, 42, 43, 63, 40, 41, 91, 93, 46, 92]
def oneS (c : Nat) : List Int := z4.set (c / 64) (bitU (c % 64))
def within2 : List Nat := [93, 91, 94, 45]
def dmember (s : ByteArray) (a : Nat) : Nat × Nat × Bool :=
 if over s a false then (0, a, true)
 else if byteAt s a == 92 then
  if over s (a + 1) false || !signs.contains (byteAt s (a + 1)) then (0, a + 1, true) else (byteAt s (a + 1), a + 2, false)
 else (byteAt s a, a + 1, within2.contains (byteAt s a))
theorem signs_sp : ∀ c : Nat, c < 256 → ((specials.contains c || c == 94) || c == 45) = signs.contains c := by decide +kernel
theorem within2_eq (c : Nat) : (((c == 93 || c == 91) || c == 94) || c == 45) = within2.contains c := by
 simp only [within2, List.contains_cons, List.contains_nil, Bool.or_false, Bool.or_assoc]
section
variable (σ : St) (p : Nat) (s : ByteArray) (a d : Nat)
theorem special_ans (c : Nat) : Ans Tryz.prog 135 [B8 c] σ (Bo (specials.contains c)) σ := by
 have k : ∀ n : Nat, ((c : Int) == (n : Int)) = (c == n) := fun n => beq_cast c n
 have k1 : ((c : Int) == 124) = (c == 124) := k 124
 have k2 : ((c : Int) == 42) = (c == 42) := k 42
 have k3 : ((c : Int) == 43) = (c == 43) := k 43
 have k4 : ((c : Int) == 63) = (c == 63) := k 63
 have k5 : ((c : Int) == 40) = (c == 40) := k 40
 have k6 : ((c : Int) == 41) = (c == 41) := k 41
 have k7 : ((c : Int) == 91) = (c == 91) := k 91
 have k8 : ((c : Int) == 93) = (c == 93) := k 93
 have k9 : ((c : Int) == 46) = (c == 46) := k 46
 have k10 : ((c : Int) == 92) = (c == 92) := k 92
 simp only [specials, List.contains_cons, List.contains_nil, Bool.or_false]
 refine Ans.of_run t135 ?_
 simp -implicitDefEqProofs only [c135, r135, go_sem, k1]
 cases h1 : c == 124
 case true => simp -implicitDefEqProofs only [go_sem]; exact Fini.ret rfl
 simp -implicitDefEqProofs only [go_sem, k2]
 cases h2 : c == 42
 case true => simp -implicitDefEqProofs only [go_sem]; exact Fini.ret rfl
 simp -implicitDefEqProofs only [go_sem, k3]
 cases h3 : c == 43
 case true => simp -implicitDefEqProofs only [go_sem]; exact Fini.ret rfl
 simp -implicitDefEqProofs only [go_sem, k4]
 cases h4 : c == 63
 case true => simp -implicitDefEqProofs only [go_sem]; exact Fini.ret rfl
 simp -implicitDefEqProofs only [go_sem, k5]
 cases h5 : c == 40
 case true => simp -implicitDefEqProofs only [go_sem]; exact Fini.ret rfl
 simp -implicitDefEqProofs only [go_sem, k6]
 cases h6 : c == 41
 case true => simp -implicitDefEqProofs only [go_sem]; exact Fini.ret rfl
 simp -implicitDefEqProofs only [go_sem, k7]
 cases h7 : c == 91
 case true => simp -implicitDefEqProofs only [go_sem]; exact Fini.ret rfl
 simp -implicitDefEqProofs only [go_sem, k8]
 cases h8 : c == 93
 case true => simp -implicitDefEqProofs only [go_sem]; exact Fini.ret rfl
 simp -implicitDefEqProofs only [go_sem, k9]
 cases h9 : c == 46
 case true => simp -implicitDefEqProofs only [go_sem]; exact Fini.ret rfl
 simp -implicitDefEqProofs only [go_sem, k10]
 cases h10 : c == 92
 case true => simp -implicitDefEqProofs only [go_sem]; exact Fini.ret rfl
 simp -implicitDefEqProofs only [go_sem]
 exact Fini.ret rfl
theorem quoted_ans (c : Nat) (hc : c < 256) : Ans Tryz.prog 131 [B8 c] σ (Bo (signs.contains c)) σ := by
 have k1 : ((c : Int) == 94) = (c == 94) := beq_cast c 94
 have k2 : ((c : Int) == 45) = (c == 45) := beq_cast c 45
 rw [← signs_sp c hc]
 refine Ans.of_run t131 ?_
 simp -implicitDefEqProofs only [c131, r131, go_sem]
 refine CO.intro (special_ans σ c) ?_
 simp -implicitDefEqProofs only [go_sem, k1]
 cases h1 : specials.contains c
 · simp -implicitDefEqProofs only [go_sem, k1]
   cases h2 : c == 94
   · simp -implicitDefEqProofs only [go_sem, k2]
     exact Fini.ret rfl
   · simp -implicitDefEqProofs only [go_sem, k2]
     exact Fini.ret rfl
 · simp -implicitDefEqProofs only [go_sem]
   exact Fini.ret rfl
theorem more_ans (b : Bool) (h : σ[p]? = some (dob s a d b)) : Ans Tryz.prog 101 [.ptr p 0] σ (Bo (!over s a b)) σ := by
 refine Ans.of_run t101 ?_
 cases b <;> simp -implicitDefEqProofs only [c101, r101, h, go_sem]
 · refine Fini.ret ?_
   have e : decide ((a : Int) < (s.size : Int)) = !over s a false := by
    simp only [over, Bool.false_or]
    rw [Bool.eq_iff_iff]; simp
   simp -implicitDefEqProofs only [go_sem, e]
   rfl
 · exact Fini.ret rfl
theorem fail_ans (b : Bool) (h : σ[p]? = some (dob s a d b)) : Ans Tryz.prog 132 [.ptr p 0] σ (.tup []) (σ.set p (dob s a d true)) := by
 refine Ans.of_run t132 ?_
 simp -implicitDefEqProofs only [c132, r132, h, go_sem]
 exact Fini.normal2 (n := 0) rfl rfl rfl
theorem oneS_ans (c : Nat) (hc : c < 256) : Ans Tryz.prog 133 [B8 c] σ (.agg ((oneS c).map U)) σ := by
 have e1 : IntKind.u8.wrap ((c : Int).tdiv 64) = ((c / 64 : Nat) : Int) := by
  rw [show (c : Int).tdiv 64 = ((c / 64 : Nat) : Int) from rfl]
  simp only [IntKind.wrap, IntKind.bits, IntKind.signed]; simp; omega
 have e2 : (c : Int).tmod 64 = ((c % 64 : Nat) : Int) := rfl
 have e3 : ((64 : Int) = 0) = False := by simp
 have e4 : (((c / 64 : Nat) : Int) < (4 : Nat)) = True := by simp; omega
 have hk : c / 64 < 4 := by omega
 have k0 : ∀ (x y : Ob), (σ ++ [x, y])[σ.length]? = some x := fun x y => by rw [List.getElem?_append_right (by simp)]; simp
 have k1 : ∀ (x y : Ob), (σ ++ [x, y])[σ.length + 1]? = some y := fun x y => by rw [List.getElem?_append_right (by simp)]; simp
 have s0 : ∀ (x y z : Ob), (σ ++ [x, y]).set σ.length z = σ ++ [z, y] := fun x y z => by rw [List.set_append_right _ _ (by simp)]; simp
 have s1 : ∀ (x y z : Ob), (σ ++ [x, y]).set (σ.length + 1) z = σ ++ [x, z] := fun x y z => by rw [List.set_append_right _ _ (by simp)]; simp
 refine Ans.of_run' t133 (fun hbel _ => ?_)
 have hb := bel_sets σ.length (oneS c)
 unfold oneS at hb ⊢
 have e5 : IntKind.u64.wrap ((c % 64 : Nat) : Int) = ((c % 64 : Nat) : Int) := by
  simp only [IntKind.wrap, IntKind.bits, IntKind.signed]; simp; omega
 simp -implicitDefEqProofs only [c133, r133, go_sem, e1, e2, e3, e4, e5, Nat.mul_one, k0, k1, s0, s1, List.append_assoc, List.length_append]
 generalize hw : bitU (c % 64) = w at hb ⊢
 have hw' : IntKind.u64.wrap (1 * 2 ^ min (c % 64) 64) = w := hw
 rw [hw']
 generalize c / 64 = k at hk hb ⊢
 match k, hk with
 | 0, _ =>
   simp -implicitDefEqProofs only [go_sem, k0, k1, s0, s1]
   exact Fini.trim2 (σ' := σ) (ex := [_, _]) (by simp -implicitDefEqProofs only [go_sem, resA, allSome, rvA, oneOf, k0]) rfl (Nat.le_refl _) hb hbel
 | 1, _ =>
   simp -implicitDefEqProofs only [go_sem, k0, k1, s0, s1]
   exact Fini.trim2 (σ' := σ) (ex := [_, _]) (by simp -implicitDefEqProofs only [go_sem, resA, allSome, rvA, oneOf, k0]) rfl (Nat.le_refl _) hb hbel
 | 2, _ =>
   simp -implicitDefEqProofs only [go_sem, k0, k1, s0, s1]
   exact Fini.trim2 (σ' := σ) (ex := [_, _]) (by simp -implicitDefEqProofs only [go_sem, resA, allSome, rvA, oneOf, k0]) rfl (Nat.le_refl _) hb hbel
 | 3, _ =>
   simp -implicitDefEqProofs only [go_sem, k0, k1, s0, s1]
   exact Fini.trim2 (σ' := σ) (ex := [_, _]) (by simp -implicitDefEqProofs only [go_sem, resA, allSome, rvA, oneOf, k0]) rfl (Nat.le_refl _) hb hbel
theorem dmember_ans (hs : s.size ≤ 40) (h : σ[p]? = some (dob s a d false)) : Ans Tryz.prog 139 [.ptr p 0] σ (B8 (dmember s a).1) (σ.set p (dob s (dmember s a).2.1 d (dmember s a).2.2)) := by
 have hp : p < σ.length := (List.getElem?_eq_some_iff.1 h).1
 have hg : ∀ o, (σ.set p o)[p]? = some o := fun o => by simp [hp]
 refine Ans.of_run t139 ?_
 simp -implicitDefEqProofs only [c139, r139, h, go_sem]
 refine CO.intro (more_ans σ p s a d false h) ?_
 unfold dmember
 cases ho : over s a false with
 | true =>
   simp -implicitDefEqProofs only [go_sem]
   refine CO.intro (fail_ans σ p s a d false h) ?_
   simp -implicitDefEqProofs only [go_sem]
   exact Fini.ret rfl
 | false =>
   have hlt := over_lt ho
   have h1 : (a : Int) < s.size := by omega
   have k92 : (((byteAt s a : Nat) : Int) == 92) = (byteAt s a == 92) := beq_cast _ 92
   have k93 : (((byteAt s a : Nat) : Int) == 93) = (byteAt s a == 93) := beq_cast _ 93
   have k91 : (((byteAt s a : Nat) : Int) == 91) = (byteAt s a == 91) := beq_cast _ 91
   have k94 : (((byteAt s a : Nat) : Int) == 94) = (byteAt s a == 94) := beq_cast _ 94
   have k45 : (((byteAt s a : Nat) : Int) == 45) = (byteAt s a == 45) := beq_cast _ 45
   simp -implicitDefEqProofs only [go_sem, h, h1, byteAt_def, wrap_nat (show a ≤ 4294967296 by omega), k92]
   cases hc : byteAt s a == 92 with
   | true =>
     simp -implicitDefEqProofs only [go_sem]
     refine CD.intro (more_ans _ p s (a + 1) d false (hg _)) ?_
     cases ho2 : over s (a + 1) false with
     | true =>
       simp -implicitDefEqProofs only [go_sem, hg]
       refine CO.intro (fail_ans _ p s (a + 1) d false (hg _)) ?_
       simp -implicitDefEqProofs only [go_sem, List.set_set, Bool.true_or]
       exact Fini.ret rfl
     | false =>
       have hlt2 := over_lt ho2
       have h2 : ((a + 1 : Nat) : Int) < s.size := by omega
       simp -implicitDefEqProofs only [go_sem, hg, h2, byteAt_def]
       refine CD.intro (quoted_ans _ (byteAt s (a + 1)) (byteAt_lt _ _)) ?_
       cases hq : signs.contains (byteAt s (a + 1)) with
       | false =>
         simp -implicitDefEqProofs only [go_sem, hg]
         refine CO.intro (fail_ans _ p s (a + 1) d false (hg _)) ?_
         simp -implicitDefEqProofs only [go_sem, List.set_set, Bool.or_true]
         exact Fini.ret rfl
       | true =>
         have h3 : IntKind.i64.wrap (((a + 1 + 1 : Nat) : Int) - 1) = ((a + 1 : Nat) : Int) := by
          simp only [IntKind.wrap, IntKind.bits, IntKind.signed]; simp; omega
         simp -implicitDefEqProofs only [go_sem, hg, List.set_set, wrap_nat (show a + 1 ≤ 4294967296 by omega), h2, h3, byteAt_def, Bool.or_false]
         exact Fini.ret rfl
   | false =>
     rw [← within2_eq]
     simp -implicitDefEqProofs only [go_sem, k93, k91, k94, k45]
     cases h93 : byteAt s a == 93
     case true =>
      simp -implicitDefEqProofs only [go_sem]
      refine CO.intro (fail_ans _ p s (a + 1) d false (hg _)) ?_
      simp -implicitDefEqProofs only [go_sem, List.set_set, Bool.true_or]
      exact Fini.ret rfl
     simp -implicitDefEqProofs only [go_sem, k91]
     cases h91 : byteAt s a == 91
     case true =>
      simp -implicitDefEqProofs only [go_sem]
      refine CO.intro (fail_ans _ p s (a + 1) d false (hg _)) ?_
      simp -implicitDefEqProofs only [go_sem, List.set_set, Bool.true_or, Bool.or_true]
      exact Fini.ret rfl
     simp -implicitDefEqProofs only [go_sem, k94]
     cases h94 : byteAt s a == 94
     case true =>
      simp -implicitDefEqProofs only [go_sem]
      refine CO.intro (fail_ans _ p s (a + 1) d false (hg _)) ?_
      simp -implicitDefEqProofs only [go_sem, List.set_set, Bool.true_or, Bool.or_true]
      exact Fini.ret rfl
     simp -implicitDefEqProofs only [go_sem, k45]
     cases h45 : byteAt s a == 45
     case true =>
      simp -implicitDefEqProofs only [go_sem]
      refine CO.intro (fail_ans _ p s (a + 1) d false (hg _)) ?_
      simp -implicitDefEqProofs only [go_sem, List.set_set, Bool.true_or, Bool.or_true]
      exact Fini.ret rfl
     simp -implicitDefEqProofs only [go_sem, Bool.or_self]
     exact Fini.ret rfl
end
end Go.Proofs.YtoadgajhkhejiaaGreat
