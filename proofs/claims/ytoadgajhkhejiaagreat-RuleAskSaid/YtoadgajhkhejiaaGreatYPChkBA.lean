/- What the functions do, over abstract values: printed by a program, checked by the kernel. No condition. -/
import Derived.Test.YtoadgajhkhejiaaGreatProg
import Derived.Test.YtoadgajhkhejiaaGreatAbStepA
import Derived.Test.YtoadgajhkhejiaaGreatYMCode1A
import Derived.Test.YtoadgajhkhejiaaGreatAbFastA
import Derived.Laws.Externs
import Derived.Test.YtoadgajhkhejiaaGreatCod2A
set_option linter.unusedSimpArgs false
set_option linter.unusedVariables false
namespace Go.Proofs.YtoadgajhkhejiaaGreat
open Go Go.Ab
set_option maxRecDepth 100000
def c134 : ACode :=
 (.seq (.ops [⟨some 2, none, .prim (.allocm [.pl (.int .i64 0), .pl (.int .u64 0), .pl (.int .u64 0), .pl (.int .u64 0), .pl (.int .u64 0), .nils])⟩])
 (.seq (.draw [⟨⟨some 10, none, .prim (.mov (.tmp 0))⟩, [], false, 0, 0⟩,
 ⟨⟨some 11, none, .call (.func 101) [(.tmp 10)]⟩, [0], true, 0, 0⟩,
 ⟨⟨some 12, none, .prim (.mov (.tmp 11))⟩, [0, 1], false, 1, 1⟩,
 ⟨⟨some 13, (some (12, true)), .prim (.mov (.tmp 0))⟩, [0, 1, 2], false, 1, 1⟩,
 ⟨⟨some 14, (some (12, true)), .prim (.nilc (.tmp 13))⟩, [0, 1, 2, 3], false, 1, 1⟩,
 ⟨⟨some 15, (some (12, true)), .prim (.fadr 0 (.tmp 14))⟩, [0, 1, 2, 3, 4], false, 1, 1⟩,
 ⟨⟨some 16, (some (12, true)), .prim (.load 1 false (.tmp 15))⟩, (List.range 6), false, 1, 1⟩,
 ⟨⟨some 17, (some (12, true)), .prim (.mov (.tmp 0))⟩, [0, 1, 2], false, 1, 1⟩,
 ⟨⟨some 18, (some (12, true)), .prim (.nilc (.tmp 17))⟩, [0, 1, 2, 7], false, 1, 1⟩,
 ⟨⟨some 19, (some (12, true)), .prim (.fadr 1 (.tmp 18))⟩, [0, 1, 2, 7, 8], false, 1, 1⟩,
 ⟨⟨some 20, (some (12, true)), .prim (.load 1 false (.tmp 19))⟩, [0, 1, 2, 7, 8, 9], false, 1, 1⟩,
 ⟨⟨some 21, (some (12, true)), .prim (.idxs (.tmp 16) (.tmp 20))⟩, (List.range 11), false, 1, 1⟩,
 ⟨⟨some 22, (some (12, true)), .prim (.bin false .eql (.tmp 21) (.const (.int .u8 94)))⟩, (List.range 12), false, 1, 1⟩,
 ⟨⟨some 23, none, .prim (.pick (.tmp 12) (.tmp 22) (.const (.bool false)))⟩, (List.range 13), false, 1, 1⟩,
 ⟨⟨some 3, none, .prim (.mov (.tmp 23))⟩, (List.range 14), false, 1, 1⟩])
 (.seq (.seq (.ops [⟨some 24, none, .prim (.mov (.tmp 3))⟩])
 (.cond (.tmp 24)
 (.ops [⟨some 25, none, .prim (.mov (.tmp 0))⟩,
 ⟨some 26, none, .prim (.nilc (.tmp 25))⟩,
 ⟨some 27, none, .prim (.fadr 1 (.tmp 26))⟩,
 ⟨some 28, none, .prim (.load 1 false (.tmp 27))⟩,
 ⟨some 29, none, .prim (.bin false .add (.tmp 28) (.const (.int .i64 1)))⟩,
 ⟨some 30, none, .prim (.nilc (.tmp 25))⟩,
 ⟨some 31, none, .prim (.fadr 1 (.tmp 30))⟩,
 ⟨none, none, .prim (.store 1 (.tmp 31) (.tmp 29))⟩])
 .skip))
 (.seq (.ops [⟨some 4, none, .prim (.allocm [.pl (.int .u64 0), .pl (.int .u64 0), .pl (.int .u64 0), .pl (.int .u64 0)])⟩])
 (.seq (.ops [⟨some 5, none, .prim (.mov (.const (.int .i64 0)))⟩])
 (.seq (.block 0 (.loop [1, 6, 7, 8, 9, 10, 11, 12, 13, 14, 15, 16, 17, 18, 19, 20, 21, 22, 23, 24, 25, 26, 27, 28, 29, 30, 31, 32, 33, 34, 35, 36, 37, 38, 39, 40, 41, 42, 43, 44, 45, 46, 47, 48, 49, 50, 51, 52, 53, 54, 55, 56, 57, 58, 59, 60, 61, 62, 63, 64, 65, 66, 67, 68, 69, 70, 71, 72, 73, 74, 75, 76, 77, 78, 79, 80, 81, 82, 83, 84, 85, 86, 87, 88, 89, 90, 91, 92, 93, 94, 95, 96, 97, 98, 99, 100, 101, 102, 103, 104, 105, 106, 107, 108, 109, 110, 111, 112, 113, 114, 115, 116, 117, 118, 119, 120, 121, 122, 123, 124, 125, 126, 127, 128] (.seq (.seq (.draw [⟨⟨some 32, none, .prim (.mov (.tmp 0))⟩, [], false, 0, 0⟩,
 ⟨⟨some 33, none, .call (.func 101) [(.tmp 32)]⟩, [0], true, 0, 0⟩,
 ⟨⟨some 34, none, .prim (.mov (.tmp 33))⟩, [0, 1], false, 1, 1⟩,
 ⟨⟨some 35, (some (34, true)), .prim (.mov (.tmp 0))⟩, [0, 1, 2], false, 1, 1⟩,
 ⟨⟨some 36, (some (34, true)), .prim (.nilc (.tmp 35))⟩, [0, 1, 2, 3], false, 1, 1⟩,
 ⟨⟨some 37, (some (34, true)), .prim (.fadr 0 (.tmp 36))⟩, [0, 1, 2, 3, 4], false, 1, 1⟩,
 ⟨⟨some 38, (some (34, true)), .prim (.load 1 false (.tmp 37))⟩, (List.range 6), false, 1, 1⟩,
 ⟨⟨some 39, (some (34, true)), .prim (.mov (.tmp 0))⟩, [0, 1, 2], false, 1, 1⟩,
 ⟨⟨some 40, (some (34, true)), .prim (.nilc (.tmp 39))⟩, [0, 1, 2, 7], false, 1, 1⟩,
 ⟨⟨some 41, (some (34, true)), .prim (.fadr 1 (.tmp 40))⟩, [0, 1, 2, 7, 8], false, 1, 1⟩,
 ⟨⟨some 42, (some (34, true)), .prim (.load 1 false (.tmp 41))⟩, [0, 1, 2, 7, 8, 9], false, 1, 1⟩,
 ⟨⟨some 43, (some (34, true)), .prim (.idxs (.tmp 38) (.tmp 42))⟩, (List.range 11), false, 1, 1⟩,
 ⟨⟨some 44, (some (34, true)), .prim (.bin false .neq (.tmp 43) (.const (.int .u8 93)))⟩, (List.range 12), false, 1, 1⟩,
 ⟨⟨some 45, none, .prim (.pick (.tmp 34) (.tmp 44) (.const (.bool false)))⟩, (List.range 13), false, 1, 1⟩])
 (.cond (.tmp 45)
 .skip
 (.exit 0)))
 (.block 1 (.seq (.ops [⟨some 46, none, .prim (.mov (.tmp 0))⟩,
 ⟨some 47, none, .call (.func 139) [(.tmp 46)]⟩,
 ⟨some 6, none, .prim (.mov (.tmp 47))⟩])
 (.seq (.ops [⟨some 48, none, .prim (.mov (.tmp 6))⟩,
 ⟨some 7, none, .prim (.mov (.tmp 48))⟩])
 (.seq (.seq (.draw [⟨⟨some 49, none, .prim (.mov (.tmp 0))⟩, [], false, 0, 0⟩,
 ⟨⟨some 50, none, .call (.func 101) [(.tmp 49)]⟩, [0], true, 0, 0⟩,
 ⟨⟨some 51, none, .prim (.mov (.tmp 50))⟩, [0, 1], false, 1, 1⟩,
 ⟨⟨some 52, (some (51, true)), .prim (.mov (.tmp 0))⟩, [0, 1, 2], false, 1, 1⟩,
 ⟨⟨some 53, (some (51, true)), .prim (.nilc (.tmp 52))⟩, [0, 1, 2, 3], false, 1, 1⟩,
 ⟨⟨some 54, (some (51, true)), .prim (.fadr 0 (.tmp 53))⟩, [0, 1, 2, 3, 4], false, 1, 1⟩,
 ⟨⟨some 55, (some (51, true)), .prim (.load 1 false (.tmp 54))⟩, (List.range 6), false, 1, 1⟩,
 ⟨⟨some 56, (some (51, true)), .prim (.mov (.tmp 0))⟩, [0, 1, 2], false, 1, 1⟩,
 ⟨⟨some 57, (some (51, true)), .prim (.nilc (.tmp 56))⟩, [0, 1, 2, 7], false, 1, 1⟩,
 ⟨⟨some 58, (some (51, true)), .prim (.fadr 1 (.tmp 57))⟩, [0, 1, 2, 7, 8], false, 1, 1⟩,
 ⟨⟨some 59, (some (51, true)), .prim (.load 1 false (.tmp 58))⟩, [0, 1, 2, 7, 8, 9], false, 1, 1⟩,
 ⟨⟨some 60, (some (51, true)), .prim (.idxs (.tmp 55) (.tmp 59))⟩, (List.range 11), false, 1, 1⟩,
 ⟨⟨some 61, (some (51, true)), .prim (.bin false .eql (.tmp 60) (.const (.int .u8 45)))⟩, (List.range 12), false, 1, 1⟩,
 ⟨⟨some 62, none, .prim (.pick (.tmp 51) (.tmp 61) (.const (.bool false)))⟩, (List.range 13), false, 1, 1⟩])
 (.cond (.tmp 62)
 (.seq (.ops [⟨some 63, none, .prim (.mov (.tmp 0))⟩,
 ⟨some 64, none, .prim (.nilc (.tmp 63))⟩,
 ⟨some 65, none, .prim (.fadr 1 (.tmp 64))⟩,
 ⟨some 66, none, .prim (.load 1 false (.tmp 65))⟩,
 ⟨some 67, none, .prim (.bin false .add (.tmp 66) (.const (.int .i64 1)))⟩,
 ⟨some 68, none, .prim (.nilc (.tmp 63))⟩,
 ⟨some 69, none, .prim (.fadr 1 (.tmp 68))⟩,
 ⟨none, none, .prim (.store 1 (.tmp 69) (.tmp 67))⟩])
 (.ops [⟨some 70, none, .prim (.mov (.tmp 0))⟩,
 ⟨some 71, none, .call (.func 139) [(.tmp 70)]⟩,
 ⟨some 7, none, .prim (.mov (.tmp 71))⟩]))
 .skip))
 (.seq (.seq (.ops [⟨some 72, none, .prim (.mov (.tmp 7))⟩,
 ⟨some 73, none, .prim (.mov (.tmp 6))⟩,
 ⟨some 74, none, .prim (.bin false .lss (.tmp 72) (.tmp 73))⟩])
 (.cond (.tmp 74)
 (.ops [⟨some 75, none, .prim (.mov (.tmp 0))⟩,
 ⟨some 76, none, .call (.func 132) [(.tmp 75)]⟩])
 .skip))
 (.seq (.seq (.ops [⟨some 77, none, .prim (.mov (.tmp 6))⟩,
 ⟨some 78, none, .prim (.convi .i64 (.tmp 77))⟩,
 ⟨some 8, none, .prim (.mov (.tmp 78))⟩])
 (.block 2 (.loop [1, 6, 9, 10, 11, 12, 13, 14, 15, 16, 17, 18, 19, 20, 21, 22, 23, 24, 25, 26, 27, 28, 29, 30, 31, 32, 33, 34, 35, 36, 37, 38, 39, 40, 41, 42, 43, 44, 45, 46, 47, 48, 49, 50, 51, 52, 53, 54, 55, 56, 57, 58, 59, 60, 61, 62, 63, 64, 65, 66, 67, 68, 69, 70, 71, 72, 73, 74, 75, 76, 77, 78, 79, 80, 81, 82, 83, 84, 85, 86, 87, 88, 89, 90, 91, 92, 93, 94, 95, 96, 97, 98, 99, 100, 101, 102, 103, 104, 105, 106, 107, 108, 109, 110, 111, 112, 113, 114, 115, 116, 117, 118, 119, 120, 121, 122, 123, 124, 125, 126, 127, 128] (.seq (.seq (.ops [⟨some 79, none, .prim (.mov (.tmp 8))⟩,
 ⟨some 80, none, .prim (.mov (.tmp 7))⟩,
 ⟨some 81, none, .prim (.convi .i64 (.tmp 80))⟩,
 ⟨some 82, none, .prim (.bin false .leq (.tmp 79) (.tmp 81))⟩])
 (.cond (.tmp 82)
 .skip
 (.exit 2)))
 (.seq (.block 3 (.ops [⟨some 85, none, .prim (.mov (.tmp 8))⟩,
 ⟨some 86, none, .prim (.bin false .quo (.tmp 85) (.const (.int .i64 64)))⟩,
 ⟨some 87, none, .prim (.mov (.tmp 8))⟩,
 ⟨some 88, none, .prim (.bin false .quo (.tmp 87) (.const (.int .i64 64)))⟩,
 ⟨some 89, none, .prim (.iadra 1 4 (.tmp 4) (.tmp 88))⟩,
 ⟨some 90, none, .prim (.load 1 false (.tmp 89))⟩,
 ⟨some 91, none, .prim (.mov (.tmp 8))⟩,
 ⟨some 92, none, .prim (.bin false .rem (.tmp 91) (.const (.int .i64 64)))⟩,
 ⟨some 93, none, .prim (.convi .u64 (.tmp 92))⟩,
 ⟨some 94, none, .prim (.bin false .shl (.const (.int .u64 1)) (.tmp 93))⟩,
 ⟨some 95, none, .prim (.bin false .or (.tmp 90) (.tmp 94))⟩,
 ⟨some 96, none, .prim (.iadra 1 4 (.tmp 4) (.tmp 86))⟩,
 ⟨none, none, .prim (.store 1 (.tmp 96) (.tmp 95))⟩]))
 (.ops [⟨some 83, none, .prim (.mov (.tmp 8))⟩,
 ⟨some 84, none, .prim (.bin false .add (.tmp 83) (.const (.int .i64 1)))⟩,
 ⟨some 8, none, .prim (.mov (.tmp 84))⟩]))))))
 (.ops [⟨some 97, none, .prim (.mov (.tmp 5))⟩,
 ⟨some 98, none, .prim (.bin false .add (.tmp 97) (.const (.int .i64 1)))⟩,
 ⟨some 5, none, .prim (.mov (.tmp 98))⟩]))))))))))
 (.seq (.seq (.ops [⟨some 99, none, .prim (.mov (.tmp 0))⟩,
 ⟨some 100, none, .call (.func 101) [(.tmp 99)]⟩,
 ⟨some 101, none, .prim (.un .not (.tmp 100))⟩,
 ⟨some 102, none, .prim (.mov (.tmp 101))⟩,
 ⟨some 103, (some (102, false)), .prim (.mov (.tmp 5))⟩,
 ⟨some 104, (some (102, false)), .prim (.bin false .eql (.tmp 103) (.const (.int .i64 0)))⟩,
 ⟨some 105, none, .prim (.pick (.tmp 102) (.const (.bool true)) (.tmp 104))⟩])
 (.cond (.tmp 105)
 (.seq (.ops [⟨some 106, none, .prim (.mov (.tmp 0))⟩,
 ⟨some 107, none, .call (.func 132) [(.tmp 106)]⟩])
 (.seq (.ops [⟨some 108, none, .prim (.build [.pl (.int .i64 0), .pl (.int .u64 0), .pl (.int .u64 0), .pl (.int .u64 0), .pl (.int .u64 0), .nils] [])⟩,
 ⟨none, none, .prim (.store 6 (.tmp 2) (.tmp 108))⟩])
 .ret))
 .skip))
 (.seq (.ops [⟨some 109, none, .prim (.mov (.tmp 0))⟩,
 ⟨some 110, none, .prim (.nilc (.tmp 109))⟩,
 ⟨some 111, none, .prim (.fadr 1 (.tmp 110))⟩,
 ⟨some 112, none, .prim (.load 1 false (.tmp 111))⟩,
 ⟨some 113, none, .prim (.bin false .add (.tmp 112) (.const (.int .i64 1)))⟩,
 ⟨some 114, none, .prim (.nilc (.tmp 109))⟩,
 ⟨some 115, none, .prim (.fadr 1 (.tmp 114))⟩,
 ⟨none, none, .prim (.store 1 (.tmp 115) (.tmp 113))⟩])
 (.seq (.seq (.ops [⟨some 116, none, .prim (.mov (.tmp 3))⟩])
 (.cond (.tmp 116)
 (.seq (.ops [⟨some 9, none, .prim (.mov (.const (.int .i64 0)))⟩])
 (.block 4 (.loop [0, 1, 3, 5, 6, 7, 8, 10, 11, 12, 13, 14, 15, 16, 17, 18, 19, 20, 21, 22, 23, 24, 25, 26, 27, 28, 29, 30, 31, 32, 33, 34, 35, 36, 37, 38, 39, 40, 41, 42, 43, 44, 45, 46, 47, 48, 49, 50, 51, 52, 53, 54, 55, 56, 57, 58, 59, 60, 61, 62, 63, 64, 65, 66, 67, 68, 69, 70, 71, 72, 73, 74, 75, 76, 77, 78, 79, 80, 81, 82, 83, 84, 85, 86, 87, 88, 89, 90, 91, 92, 93, 94, 95, 96, 97, 98, 99, 100, 101, 102, 103, 104, 105, 106, 107, 108, 109, 110, 111, 112, 113, 114, 115, 116, 117, 118, 119, 120, 121, 122, 123, 124, 125, 126, 127, 128] (.seq (.seq (.ops [⟨some 117, none, .prim (.mov (.tmp 9))⟩,
 ⟨some 118, none, .prim (.bin false .lss (.tmp 117) (.const (.int .i64 4)))⟩])
 (.cond (.tmp 118)
 .skip
 (.exit 4)))
 (.seq (.block 5 (.ops [⟨some 121, none, .prim (.mov (.tmp 9))⟩,
 ⟨some 122, none, .prim (.mov (.tmp 9))⟩,
 ⟨some 123, none, .prim (.iadra 1 4 (.tmp 4) (.tmp 122))⟩,
 ⟨some 124, none, .prim (.load 1 false (.tmp 123))⟩,
 ⟨some 125, none, .prim (.un .xor (.tmp 124))⟩,
 ⟨some 126, none, .prim (.iadra 1 4 (.tmp 4) (.tmp 121))⟩,
 ⟨none, none, .prim (.store 1 (.tmp 126) (.tmp 125))⟩]))
 (.ops [⟨some 119, none, .prim (.mov (.tmp 9))⟩,
 ⟨some 120, none, .prim (.bin false .add (.tmp 119) (.const (.int .i64 1)))⟩,
 ⟨some 9, none, .prim (.mov (.tmp 120))⟩]))))))
 .skip))
 (.seq (.ops [⟨some 127, none, .prim (.load 4 true (.tmp 4))⟩,
 ⟨some 128, none, .prim (.build [.pl (.int .i64 0), .pl (.int .u64 0), .pl (.int .u64 0), .pl (.int .u64 0), .pl (.int .u64 0), .nils] [(0, 1, (.const (.int .i64 1))), (1, 4, (.tmp 127))])⟩,
 ⟨none, none, .prim (.store 6 (.tmp 2) (.tmp 128))⟩])
 .ret))))))))))
def o134 : List Tmp := [2, 4]
def r134 : List RV := [.cell 2 6 true]
theorem t134 : Text Tryz.prog 134 o134 c134 r134 129 := ⟨⟨Tryz.f134, _, by kernel_rfl, by kernel_rfl, rfl, by kernel_rfl, by kernel_rfl, rfl⟩, by kernel_rfl⟩
def c135 : ACode :=
 (.seq (.ops [⟨some 2, none, .prim (.mov (.const (.bool false)))⟩])
 (.seq (.seq (.ops [⟨some 3, none, .prim (.mov (.tmp 0))⟩])
 (.block 0 (.seq (.seq (.ops [⟨some 5, none, .prim (.bin false .eql (.tmp 3) (.const (.int .u8 124)))⟩,
 ⟨some 4, none, .prim (.mov (.tmp 5))⟩])
 (.cond (.tmp 4)
 .skip
 (.seq (.ops [⟨some 6, none, .prim (.bin false .eql (.tmp 3) (.const (.int .u8 42)))⟩,
 ⟨some 4, none, .prim (.mov (.tmp 6))⟩])
 (.cond (.tmp 4)
 .skip
 (.seq (.ops [⟨some 7, none, .prim (.bin false .eql (.tmp 3) (.const (.int .u8 43)))⟩,
 ⟨some 4, none, .prim (.mov (.tmp 7))⟩])
 (.cond (.tmp 4)
 .skip
 (.seq (.ops [⟨some 8, none, .prim (.bin false .eql (.tmp 3) (.const (.int .u8 63)))⟩,
 ⟨some 4, none, .prim (.mov (.tmp 8))⟩])
 (.cond (.tmp 4)
 .skip
 (.seq (.ops [⟨some 9, none, .prim (.bin false .eql (.tmp 3) (.const (.int .u8 40)))⟩,
 ⟨some 4, none, .prim (.mov (.tmp 9))⟩])
 (.cond (.tmp 4)
 .skip
 (.seq (.ops [⟨some 10, none, .prim (.bin false .eql (.tmp 3) (.const (.int .u8 41)))⟩,
 ⟨some 4, none, .prim (.mov (.tmp 10))⟩])
 (.cond (.tmp 4)
 .skip
 (.seq (.ops [⟨some 11, none, .prim (.bin false .eql (.tmp 3) (.const (.int .u8 91)))⟩,
 ⟨some 4, none, .prim (.mov (.tmp 11))⟩])
 (.cond (.tmp 4)
 .skip
 (.seq (.ops [⟨some 12, none, .prim (.bin false .eql (.tmp 3) (.const (.int .u8 93)))⟩,
 ⟨some 4, none, .prim (.mov (.tmp 12))⟩])
 (.cond (.tmp 4)
 .skip
 (.seq (.ops [⟨some 13, none, .prim (.bin false .eql (.tmp 3) (.const (.int .u8 46)))⟩,
 ⟨some 4, none, .prim (.mov (.tmp 13))⟩])
 (.cond (.tmp 4)
 .skip
 (.ops [⟨some 14, none, .prim (.bin false .eql (.tmp 3) (.const (.int .u8 92)))⟩,
 ⟨some 4, none, .prim (.mov (.tmp 14))⟩])))))))))))))))))))
 (.cond (.tmp 4)
 (.seq (.ops [⟨some 2, none, .prim (.mov (.const (.bool true)))⟩])
 .ret)
 .skip))))
 (.seq (.ops [⟨some 2, none, .prim (.mov (.const (.bool false)))⟩])
 .ret)))
def o135 : List Tmp := []
def r135 : List RV := [.tmp 2]
theorem t135 : Text Tryz.prog 135 o135 c135 r135 15 := ⟨⟨Tryz.f135, _, by kernel_rfl, by kernel_rfl, rfl, by kernel_rfl, by kernel_rfl, rfl⟩, by kernel_rfl⟩
def c136 : ACode :=
 (.seq (.ops [⟨some 4, none, .prim (.mov (.const (.int .i64 0)))⟩])
 (.seq (.seq (.ops [⟨some 6, none, .prim (.mov (.tmp 0))⟩,
 ⟨some 7, none, .prim (.lenv (.tmp 6))⟩,
 ⟨some 8, none, .prim (.mov (.const (.int .i64 0)))⟩])
 (.block 0 (.loop [2, 3, 4, 5, 6, 9, 10, 11, 12, 13, 14, 15, 16, 17, 18] (.seq (.ops [⟨some 9, none, .prim (.bin false .lss (.tmp 8) (.tmp 7))⟩])
 (.seq (.cond (.tmp 9)
 .skip
 (.exit 0))
 (.seq (.block 1 (.seq (.ops [⟨some 10, none, .prim (.mov (.tmp 8))⟩,
 ⟨some 5, none, .prim (.mov (.tmp 10))⟩])
 (.seq (.ops [⟨some 11, none, .prim (.mov (.tmp 1))⟩,
 ⟨some 12, none, .prim (.mov (.tmp 0))⟩,
 ⟨some 13, none, .prim (.mov (.tmp 5))⟩,
 ⟨some 14, none, .prim (.iadrs 6 (.tmp 12) (.tmp 13))⟩,
 ⟨some 15, none, .prim (.load 6 true (.tmp 14))⟩,
 ⟨some 16, none, .call (.tmp 11) [(.tmp 15)]⟩])
 (.cond (.tmp 16)
 (.seq (.ops [⟨some 17, none, .prim (.mov (.tmp 5))⟩,
 ⟨some 4, none, .prim (.mov (.tmp 17))⟩])
 .ret)
 .skip))))
 (.ops [⟨some 18, none, .prim (.bin false .add (.tmp 8) (.const (.int .i64 1)))⟩,
 ⟨some 8, none, .prim (.mov (.tmp 18))⟩])))))))
 (.seq (.ops [⟨some 4, none, .prim (.mov (.const (.int .i64 (-1))))⟩])
 .ret)))
def o136 : List Tmp := []
def r136 : List RV := [.tmp 4]
theorem t136 : Text Tryz.prog 136 o136 c136 r136 19 := ⟨⟨Tryz.f136, _, by kernel_rfl, by kernel_rfl, rfl, by kernel_rfl, by kernel_rfl, rfl⟩, by kernel_rfl⟩
def c137 : ACode :=
 (.seq (.ops [⟨some 2, none, .prim (.mov (.const (.int .u8 0)))⟩])
 (.seq (.ops [⟨some 4, none, .prim (.mov (.tmp 0))⟩,
 ⟨some 5, none, .call (.func 125) [(.tmp 4)]⟩,
 ⟨some 3, none, .prim (.mov (.tmp 5))⟩])
 (.seq (.seq (.ops [⟨some 6, none, .prim (.mov (.tmp 3))⟩,
 ⟨some 7, none, .prim (.bin false .eql (.tmp 6) (.const (.int .u8 92)))⟩])
 (.cond (.tmp 7)
 (.seq (.ops [⟨some 8, none, .prim (.mov (.tmp 0))⟩,
 ⟨some 9, none, .call (.func 129) [(.tmp 8)]⟩,
 ⟨some 2, none, .prim (.mov (.tmp 9))⟩])
 .ret)
 .skip))
 (.seq (.ops [⟨some 10, none, .prim (.mov (.tmp 0))⟩,
 ⟨some 11, none, .prim (.mov (.tmp 0))⟩,
 ⟨some 12, none, .prim (.nilc (.tmp 11))⟩,
 ⟨some 13, none, .prim (.fadr 2 (.tmp 12))⟩,
 ⟨some 14, none, .prim (.load 1 false (.tmp 13))⟩,
 ⟨some 15, none, .prim (.mov (.tmp 14))⟩,
 ⟨some 16, (some (15, false)), .prim (.mov (.tmp 3))⟩,
 ⟨some 17, (some (15, false)), .call (.func 130) [(.const (.string (ByteArray.mk #[92, 93, 91, 94, 45]))), (.tmp 16)]⟩,
 ⟨some 18, (some (15, false)), .prim (.bin false .geq (.tmp 17) (.const (.int .i64 0)))⟩,
 ⟨some 19, none, .prim (.pick (.tmp 15) (.const (.bool true)) (.tmp 18))⟩,
 ⟨some 20, none, .prim (.nilc (.tmp 10))⟩,
 ⟨some 21, none, .prim (.fadr 2 (.tmp 20))⟩,
 ⟨none, none, .prim (.store 1 (.tmp 21) (.tmp 19))⟩])
 (.seq (.ops [⟨some 22, none, .prim (.mov (.tmp 3))⟩,
 ⟨some 2, none, .prim (.mov (.tmp 22))⟩])
 .ret)))))
def o137 : List Tmp := []
def r137 : List RV := [.tmp 2]
theorem t137 : Text Tryz.prog 137 o137 c137 r137 23 := ⟨⟨Tryz.f137, _, by kernel_rfl, by kernel_rfl, rfl, by kernel_rfl, by kernel_rfl, rfl⟩, by kernel_rfl⟩
def c138 : ACode :=
 (.seq (.ops [⟨some 4, none, .prim (.mov (.const (.int .i64 0)))⟩])
 (.seq (.ops [⟨some 5, none, .prim (.mov (.tmp 0))⟩,
 ⟨some 6, none, .prim (.mov (.tmp 1))⟩,
 ⟨some 7, none, .call (.func 140) [(.tmp 5), (.tmp 6)]⟩,
 ⟨some 4, none, .prim (.mov (.tmp 7))⟩])
 .ret))
def o138 : List Tmp := []
def r138 : List RV := [.tmp 4]
theorem t138 : Text Tryz.prog 138 o138 c138 r138 8 := ⟨⟨Tryz.f138, _, by kernel_rfl, by kernel_rfl, rfl, by kernel_rfl, by kernel_rfl, rfl⟩, by kernel_rfl⟩
def c139 : ACode :=
 (.seq (.ops [⟨some 2, none, .prim (.mov (.const (.int .u8 0)))⟩])
 (.seq (.seq (.ops [⟨some 4, none, .prim (.mov (.tmp 0))⟩,
 ⟨some 5, none, .call (.func 101) [(.tmp 4)]⟩,
 ⟨some 6, none, .prim (.un .not (.tmp 5))⟩])
 (.cond (.tmp 6)
 (.seq (.ops [⟨some 7, none, .prim (.mov (.tmp 0))⟩,
 ⟨some 8, none, .call (.func 132) [(.tmp 7)]⟩])
 (.seq (.ops [⟨some 2, none, .prim (.mov (.const (.int .u8 0)))⟩])
 .ret))
 .skip))
 (.seq (.draw [⟨⟨some 9, none, .prim (.mov (.tmp 0))⟩, [], false, 0, 0⟩,
 ⟨⟨some 10, none, .prim (.nilc (.tmp 9))⟩, [0], false, 0, 0⟩,
 ⟨⟨some 11, none, .prim (.fadr 0 (.tmp 10))⟩, [0, 1], false, 0, 0⟩,
 ⟨⟨some 12, none, .prim (.load 1 false (.tmp 11))⟩, [0, 1, 2], false, 0, 0⟩,
 ⟨⟨some 13, none, .prim (.mov (.tmp 0))⟩, [], false, 0, 0⟩,
 ⟨⟨some 14, none, .prim (.nilc (.tmp 13))⟩, [4], false, 0, 0⟩,
 ⟨⟨some 15, none, .prim (.fadr 1 (.tmp 14))⟩, [4, 5], false, 0, 0⟩,
 ⟨⟨some 16, none, .prim (.load 1 false (.tmp 15))⟩, [4, 5, 6], false, 0, 0⟩,
 ⟨⟨some 17, none, .prim (.idxs (.tmp 12) (.tmp 16))⟩, (List.range 8), false, 0, 0⟩,
 ⟨⟨some 3, none, .prim (.mov (.tmp 17))⟩, (List.range 9), false, 0, 0⟩])
 (.seq (.ops [⟨some 18, none, .prim (.mov (.tmp 0))⟩,
 ⟨some 19, none, .prim (.nilc (.tmp 18))⟩,
 ⟨some 20, none, .prim (.fadr 1 (.tmp 19))⟩,
 ⟨some 21, none, .prim (.load 1 false (.tmp 20))⟩,
 ⟨some 22, none, .prim (.bin false .add (.tmp 21) (.const (.int .i64 1)))⟩,
 ⟨some 23, none, .prim (.nilc (.tmp 18))⟩,
 ⟨some 24, none, .prim (.fadr 1 (.tmp 23))⟩,
 ⟨none, none, .prim (.store 1 (.tmp 24) (.tmp 22))⟩])
 (.seq (.seq (.ops [⟨some 25, none, .prim (.mov (.tmp 3))⟩,
 ⟨some 26, none, .prim (.bin false .eql (.tmp 25) (.const (.int .u8 92)))⟩])
 (.cond (.tmp 26)
 (.seq (.seq (.draw [⟨⟨some 27, none, .prim (.mov (.tmp 0))⟩, [], false, 0, 0⟩,
 ⟨⟨some 28, none, .call (.func 101) [(.tmp 27)]⟩, [0], true, 0, 0⟩,
 ⟨⟨some 29, none, .prim (.un .not (.tmp 28))⟩, [0, 1], false, 1, 1⟩,
 ⟨⟨some 30, none, .prim (.mov (.tmp 29))⟩, [0, 1, 2], false, 1, 1⟩,
 ⟨⟨some 31, (some (30, false)), .prim (.mov (.tmp 0))⟩, [0, 1, 2, 3], false, 1, 1⟩,
 ⟨⟨some 32, (some (30, false)), .prim (.nilc (.tmp 31))⟩, [0, 1, 2, 3, 4], false, 1, 1⟩,
 ⟨⟨some 33, (some (30, false)), .prim (.fadr 0 (.tmp 32))⟩, (List.range 6), false, 1, 1⟩,
 ⟨⟨some 34, (some (30, false)), .prim (.load 1 false (.tmp 33))⟩, (List.range 7), false, 1, 1⟩,
 ⟨⟨some 35, (some (30, false)), .prim (.mov (.tmp 0))⟩, [0, 1, 2, 3], false, 1, 1⟩,
 ⟨⟨some 36, (some (30, false)), .prim (.nilc (.tmp 35))⟩, [0, 1, 2, 3, 8], false, 1, 1⟩,
 ⟨⟨some 37, (some (30, false)), .prim (.fadr 1 (.tmp 36))⟩, [0, 1, 2, 3, 8, 9], false, 1, 1⟩,
 ⟨⟨some 38, (some (30, false)), .prim (.load 1 false (.tmp 37))⟩, [0, 1, 2, 3, 8, 9, 10], false, 1, 1⟩,
 ⟨⟨some 39, (some (30, false)), .prim (.idxs (.tmp 34) (.tmp 38))⟩, (List.range 12), false, 1, 1⟩,
 ⟨⟨some 40, (some (30, false)), .call (.func 131) [(.tmp 39)]⟩, (List.range 13), true, 0, 0⟩,
 ⟨⟨some 41, (some (30, false)), .prim (.un .not (.tmp 40))⟩, (List.range 14), false, 2, 2⟩,
 ⟨⟨some 42, none, .prim (.pick (.tmp 30) (.const (.bool true)) (.tmp 41))⟩, (List.range 15), false, 2, 2⟩])
 (.cond (.tmp 42)
 (.seq (.ops [⟨some 43, none, .prim (.mov (.tmp 0))⟩,
 ⟨some 44, none, .call (.func 132) [(.tmp 43)]⟩])
 (.seq (.ops [⟨some 2, none, .prim (.mov (.const (.int .u8 0)))⟩])
 .ret))
 .skip))
 (.seq (.ops [⟨some 45, none, .prim (.mov (.tmp 0))⟩,
 ⟨some 46, none, .prim (.nilc (.tmp 45))⟩,
 ⟨some 47, none, .prim (.fadr 1 (.tmp 46))⟩,
 ⟨some 48, none, .prim (.load 1 false (.tmp 47))⟩,
 ⟨some 49, none, .prim (.bin false .add (.tmp 48) (.const (.int .i64 1)))⟩,
 ⟨some 50, none, .prim (.nilc (.tmp 45))⟩,
 ⟨some 51, none, .prim (.fadr 1 (.tmp 50))⟩,
 ⟨none, none, .prim (.store 1 (.tmp 51) (.tmp 49))⟩])
 (.seq (.draw [⟨⟨some 52, none, .prim (.mov (.tmp 0))⟩, [], false, 0, 0⟩,
 ⟨⟨some 53, none, .prim (.nilc (.tmp 52))⟩, [0], false, 0, 0⟩,
 ⟨⟨some 54, none, .prim (.fadr 0 (.tmp 53))⟩, [0, 1], false, 0, 0⟩,
 ⟨⟨some 55, none, .prim (.load 1 false (.tmp 54))⟩, [0, 1, 2], false, 0, 0⟩,
 ⟨⟨some 56, none, .prim (.mov (.tmp 0))⟩, [], false, 0, 0⟩,
 ⟨⟨some 57, none, .prim (.nilc (.tmp 56))⟩, [4], false, 0, 0⟩,
 ⟨⟨some 58, none, .prim (.fadr 1 (.tmp 57))⟩, [4, 5], false, 0, 0⟩,
 ⟨⟨some 59, none, .prim (.load 1 false (.tmp 58))⟩, [4, 5, 6], false, 0, 0⟩,
 ⟨⟨some 60, none, .prim (.bin false .sub (.tmp 59) (.const (.int .i64 1)))⟩, [4, 5, 6, 7], false, 0, 0⟩,
 ⟨⟨some 61, none, .prim (.idxs (.tmp 55) (.tmp 60))⟩, (List.range 9), false, 0, 0⟩,
 ⟨⟨some 2, none, .prim (.mov (.tmp 61))⟩, (List.range 10), false, 0, 0⟩])
 .ret)))
 .skip))
 (.seq (.seq (.ops [⟨some 62, none, .prim (.mov (.tmp 3))⟩,
 ⟨some 63, none, .prim (.bin false .eql (.tmp 62) (.const (.int .u8 93)))⟩,
 ⟨some 64, none, .prim (.mov (.tmp 63))⟩,
 ⟨some 65, (some (64, false)), .prim (.mov (.tmp 3))⟩,
 ⟨some 66, (some (64, false)), .prim (.bin false .eql (.tmp 65) (.const (.int .u8 91)))⟩,
 ⟨some 67, none, .prim (.pick (.tmp 64) (.const (.bool true)) (.tmp 66))⟩,
 ⟨some 68, none, .prim (.mov (.tmp 67))⟩,
 ⟨some 69, (some (68, false)), .prim (.mov (.tmp 3))⟩,
 ⟨some 70, (some (68, false)), .prim (.bin false .eql (.tmp 69) (.const (.int .u8 94)))⟩,
 ⟨some 71, none, .prim (.pick (.tmp 68) (.const (.bool true)) (.tmp 70))⟩,
 ⟨some 72, none, .prim (.mov (.tmp 71))⟩,
 ⟨some 73, (some (72, false)), .prim (.mov (.tmp 3))⟩,
 ⟨some 74, (some (72, false)), .prim (.bin false .eql (.tmp 73) (.const (.int .u8 45)))⟩,
 ⟨some 75, none, .prim (.pick (.tmp 72) (.const (.bool true)) (.tmp 74))⟩])
 (.cond (.tmp 75)
 (.ops [⟨some 76, none, .prim (.mov (.tmp 0))⟩,
 ⟨some 77, none, .call (.func 132) [(.tmp 76)]⟩])
 .skip))
 (.seq (.ops [⟨some 78, none, .prim (.mov (.tmp 3))⟩,
 ⟨some 2, none, .prim (.mov (.tmp 78))⟩])
 .ret)))))))
def o139 : List Tmp := []
def r139 : List RV := [.tmp 2]
theorem t139 : Text Tryz.prog 139 o139 c139 r139 79 := ⟨⟨Tryz.f139, _, by kernel_rfl, by kernel_rfl, rfl, by kernel_rfl, by kernel_rfl, rfl⟩, by kernel_rfl⟩
end Go.Proofs.YtoadgajhkhejiaaGreat
namespace Go.Proofs.YtoadgajhkhejiaaGreat
open Go Go.Ab
theorem ext1_ok (f : FuncId) (fn : Func) (hf : Tryz.prog.funcs[f]? = some fn) (hname : (fn.name == "runtime.NumGoroutine") = false) (hb : fn.body.isNone = true) (hn : Extern.findNext fn = none)
  (e : Array Value → Sem Value) (he : Extern.find fn = some e) (g : Value → Option Value) (hg : ∀ v r w, g v = some r → (e #[v]).run Tryz.prog w = .ok r w)
  (args : List AV) (σ : St) (r : AV) (σ' : St) (h : (match args with | [.pl v] => (g v).map fun r => (AV.pl r, σ) | _ => none) = some (r, σ')) : Ans Tryz.prog f args σ r σ' := by
 split at h
 · rename_i v
   obtain ⟨q, hq, h⟩ := opt_map_some h
   simp only [Prod.mk.injEq] at h
   obtain ⟨rfl, rfl⟩ := h
   intro M ν w vs gd hvs
   refine .inr ⟨q, w, ?_, M, ν, gd, .refl, .pl _⟩
   obtain ⟨hl, hr⟩ := hvs
   match vs, hl with
   | [a], _ =>
     have h0 := hr 0 (by simp) (by simp)
     simp only [List.getElem_cons_zero] at h0
     cases h0
     rw [run_callFunc_extern hf hname hb hn he]
     rw [show ([v].toArray) = #[v] from rfl, hg v q w hq]
     rfl
 · simp at h
def bitsG : Value → Option Value
 | .float .f64 b => some (.int .u64 b)
 | _ => none
theorem bitsG_ok (v r : Value) (w : World) (h : bitsG v = some r) : (Extern.MathFloatBits.float64bits #[v]).run Tryz.prog w = .ok r w := by
 unfold bitsG at h
 split at h <;> simp at h
 subst h; rfl
def ext_bits : Ext Tryz.prog := ⟨73, fun args σ => match args with | [.pl v] => (bitsG v).map fun r => (AV.pl r, σ) | _ => none,
 ext1_ok 73 Tryz.f73 (by kernel_rfl) (by kernel_rfl) (by kernel_rfl) (by kernel_rfl) Extern.MathFloatBits.float64bits (by kernel_rfl) bitsG bitsG_ok⟩
theorem cmp_ok (args : List AV) (σ : St) (r : AV) (σ' : St) (h : (match args with
 | [.pl (.string a), .pl (.string b)] => some (AV.pl (.int .i64 (Extern.BytealgCompare.cmp a b)), σ)
 | _ => none) = some (r, σ')) : Ans Tryz.prog 99 args σ r σ' := by
 split at h
 · rename_i s c
   simp only [Option.some.injEq, Prod.mk.injEq] at h
   obtain ⟨rfl, rfl⟩ := h
   intro M ν w vs g hvs
   refine .inr ⟨_, w, ?_, M, ν, g, .refl, .pl _⟩
   obtain ⟨hl, hr⟩ := hvs
   match vs, hl with
   | [a, b], _ =>
     have h0 := hr 0 (by simp) (by simp)
     have h1 := hr 1 (by simp) (by simp)
     simp only [List.getElem_cons_zero, List.getElem_cons_succ] at h0 h1
     cases h0; cases h1
     rw [run_callFunc_extern (e := Extern.BytealgCompare.compare) (P := Tryz.prog) (f := 99) (fn := Tryz.f99) (by kernel_rfl) (by kernel_rfl) (by kernel_rfl) (by kernel_rfl) (by kernel_rfl)]
     rfl
 · simp at h
def ext_cmp : Ext Tryz.prog := ⟨99, fun args σ => match args with
 | [.pl (.string a), .pl (.string b)] => some (.pl (.int .i64 (Extern.BytealgCompare.cmp a b)), σ)
 | _ => none, cmp_ok⟩
theorem idx_ok (args : List AV) (σ : St) (r : AV) (σ' : St) (h : (match args with
 | [.pl (.string s), .pl (.int .u8 c)] => some (AV.pl (.int .i64 (firstIdx s c.toNat.toUInt8)), σ)
 | _ => none) = some (r, σ')) : Ans Tryz.prog 140 args σ r σ' := by
 split at h
 · rename_i s c
   simp only [Option.some.injEq, Prod.mk.injEq] at h
   obtain ⟨rfl, rfl⟩ := h
   intro M ν w vs g hvs
   refine .inr ⟨_, w, ?_, M, ν, g, .refl, .pl _⟩
   obtain ⟨hl, hr⟩ := hvs
   match vs, hl with
   | [a, b], _ =>
     have h0 := hr 0 (by simp) (by simp)
     have h1 := hr 1 (by simp) (by simp)
     simp only [List.getElem_cons_zero, List.getElem_cons_succ] at h0 h1
     cases h0; cases h1
     rw [run_callFunc_extern (e := Extern.BytealgIndexByte.indexByte) (P := Tryz.prog) (f := 140) (fn := Tryz.f140) (by kernel_rfl) (by kernel_rfl) (by kernel_rfl) (by kernel_rfl) (by kernel_rfl)]
     have := run_indexByte_string (P := Tryz.prog) s c w
     rw [this]
     rfl
 · simp at h
def ext_idx : Ext Tryz.prog := ⟨140, fun args σ => match args with
 | [.pl (.string s), .pl (.int .u8 c)] => some (.pl (.int .i64 (firstIdx s c.toNat.toUInt8)), σ)
 | _ => none, idx_ok⟩
def extF : List (Ext Tryz.prog) := [ext_bits, ext_cmp, ext_idx]
def allF : List (Fun Tryz.prog) := [⟨6, o6, c6, r6, 32, t6⟩, ⟨22, o22, c22, r22, 8, t22⟩, ⟨23, o23, c23, r23, 11, t23⟩, ⟨25, o25, c25, r25, 33, t25⟩, ⟨27, o27, c27, r27, 41, t27⟩, ⟨30, o30, c30, r30, 55, t30⟩, ⟨31, o31, c31, r31, 5, t31⟩, ⟨34, o34, c34, r34, 9, t34⟩, ⟨47, o47, c47, r47, 32, t47⟩, ⟨48, o48, c48, r48, 22, t48⟩, ⟨50, o50, c50, r50, 21, t50⟩, ⟨54, o54, c54, r54, 9, t54⟩, ⟨55, o55, c55, r55, 20, t55⟩, ⟨57, o57, c57, r57, 8, t57⟩, ⟨58, o58, c58, r58, 44, t58⟩, ⟨61, o61, c61, r61, 16, t61⟩, ⟨67, o67, c67, r67, 11, t67⟩, ⟨68, o68, c68, r68, 29, t68⟩, ⟨69, o69, c69, r69, 18, t69⟩, ⟨70, o70, c70, r70, 8, t70⟩, ⟨71, o71, c71, r71, 20, t71⟩, ⟨72, o72, c72, r72, 6, t72⟩, ⟨76, o76, c76, r76, 19, t76⟩, ⟨77, o77, c77, r77, 18, t77⟩, ⟨79, o79, c79, r79, 44, t79⟩, ⟨82, o82, c82, r82, 19, t82⟩, ⟨83, o83, c83, r83, 8, t83⟩, ⟨86, o86, c86, r86, 26, t86⟩, ⟨87, o87, c87, r87, 8, t87⟩, ⟨88, o88, c88, r88, 6, t88⟩, ⟨90, o90, c90, r90, 18, t90⟩, ⟨93, o93, c93, r93, 30, t93⟩, ⟨94, o94, c94, r94, 6, t94⟩, ⟨95, o95, c95, r95, 48, t95⟩, ⟨97, o97, c97, r97, 33, t97⟩, ⟨98, o98, c98, r98, 16, t98⟩, ⟨102, o102, c102, r102, 9, t102⟩, ⟨103, o103, c103, r103, 99, t103⟩, ⟨104, o104, c104, r104, 9, t104⟩, ⟨105, o105, c105, r105, 9, t105⟩, ⟨106, o106, c106, r106, 70, t106⟩, ⟨107, o107, c107, r107, 50, t107⟩, ⟨109, o109, c109, r109, 19, t109⟩, ⟨110, o110, c110, r110, 21, t110⟩, ⟨111, o111, c111, r111, 28, t111⟩, ⟨113, o113, c113, r113, 35, t113⟩, ⟨114, o114, c114, r114, 41, t114⟩, ⟨115, o115, c115, r115, 69, t115⟩, ⟨116, o116, c116, r116, 19, t116⟩, ⟨117, o117, c117, r117, 11, t117⟩, ⟨121, o121, c121, r121, 78, t121⟩, ⟨123, o123, c123, r123, 9, t123⟩, ⟨124, o124, c124, r124, 6, t124⟩, ⟨125, o125, c125, r125, 25, t125⟩, ⟨126, o126, c126, r126, 68, t126⟩, ⟨127, o127, c127, r127, 15, t127⟩, ⟨128, o128, c128, r128, 16, t128⟩, ⟨129, o129, c129, r129, 19, t129⟩, ⟨130, o130, c130, r130, 8, t130⟩, ⟨136, o136, c136, r136, 19, t136⟩, ⟨137, o137, c137, r137, 23, t137⟩, ⟨138, o138, c138, r138, 8, t138⟩]
end Go.Proofs.YtoadgajhkhejiaaGreat
namespace Go.Proofs.YtoadgajhkhejiaaGreat
open Go Go.Ab
/- 177 steps -/
/- 177 steps -/
/- 221 steps -/
/- 133 steps -/
/- 265 steps -/
/- 150 steps -/
theorem rn0_ok : Ans Tryz.prog 30 [.pl (.string ⟨#[115, 101, 118]⟩)] [] (.pl (.bool true)) [] := evFT_ok allF extF [] 300 100 _ _ _ _ _ (by kernel_rfl)
/- 150 steps -/
theorem rn1_ok : Ans Tryz.prog 30 [.pl (.string ⟨#[106, 111, 98]⟩)] [] (.pl (.bool true)) [] := evFT_ok allF extF [] 300 100 _ _ _ _ _ (by kernel_rfl)
/- 194 steps -/
theorem rn2_ok : Ans Tryz.prog 30 [.pl (.string ⟨#[104, 111, 115, 116]⟩)] [] (.pl (.bool true)) [] := evFT_ok allF extF [] 300 100 _ _ _ _ _ (by kernel_rfl)
/- 106 steps -/
theorem rn3_ok : Ans Tryz.prog 30 [.pl (.string ⟨#[95, 120]⟩)] [] (.pl (.bool true)) [] := evFT_ok allF extF [] 300 100 _ _ _ _ _ (by kernel_rfl)
/- 238 steps -/
theorem rn4_ok : Ans Tryz.prog 30 [.pl (.string ⟨#[90, 111, 110, 101, 57]⟩)] [] (.pl (.bool true)) [] := evFT_ok allF extF [] 300 100 _ _ _ _ _ (by kernel_rfl)
/- 1032 steps -/
/- 128 steps -/
/- 4011 steps -/
/- 1286 steps -/
/- 493 steps -/
/- 1444 steps -/
/- 936 steps -/
/- 843 steps -/
/- 4269 steps -/
/- 85 steps -/
/- 6858 steps -/
end Go.Proofs.YtoadgajhkhejiaaGreat
namespace Go.Proofs.YtoadgajhkhejiaaGreat
open Go Go.Ab
set_option maxRecDepth 100000
abbrev I (n : Int) : AV := .pl (.int .i64 n)
abbrev Bo (b : Bool) : AV := .pl (.bool b)
abbrev Sx (s : ByteArray) : AV := .pl (.string s)
theorem wrapN {n : Int} (h : -9223372036854775808 ≤ n) (h' : n < 9223372036854775808) : IntKind.i64.wrap n = n := by
 simp only [IntKind.wrap, IntKind.bits, IntKind.signed]; simp; omega
theorem bel_all {args : List AV} (h : belL 0 args = true) : ∀ a ∈ args, Bel 0 a := fun a ha => by
 obtain ⟨i, hi, rfl⟩ := List.getElem_of_mem ha
 exact Bel.of_mem (belL_ok 0 args h) i hi
theorem Fini.ret2 {n m : Nat} {rvs : List RV} {r r' : AV} {σ σ' : St} {env : Env} (h : resA env σ rvs = some r') (e : r' = r) (e' : σ = σ') : Fini m rvs r σ' .ret env σ := by
 subst e; subst e'; exact Fini.ret h
theorem Fini.trim2 {m : Nat} {rvs : List RV} {r : AV} {σ σ' ex : St} {env : Env} (h : resA env σ rvs = some r) (he : σ = σ' ++ ex) (hl : m ≤ σ'.length) (hb : Bel σ'.length r) (ho : ∀ o ∈ σ', BelO σ'.length o) : Fini m rvs r σ' .ret env σ := by
 subst he
 exact ⟨r, σ' ++ ex, h, rfl, rfl, .inr ⟨hl, by simp, hb, ho⟩⟩
def names : List ByteArray := [⟨#[115, 101, 118]⟩, ⟨#[106, 111, 98]⟩, ⟨#[104, 111, 115, 116]⟩, ⟨#[95, 120]⟩, ⟨#[90, 111, 110, 101, 57]⟩]
def values : List ByteArray := [⟨#[97]⟩, ⟨#[98]⟩, ⟨#[99, 114, 105, 116]⟩, ⟨#[119, 97, 114, 110]⟩, ⟨#[97, 98]⟩, ⟨#[0, 255]⟩, ⟨#[97, 98, 97, 98, 97, 98, 97, 98, 97, 98, 97, 98, 97, 98, 97, 98, 97, 98, 97, 98, 97, 98, 97, 98]⟩]
def pats : List ByteArray := [⟨#[97, 124, 98]⟩, ⟨#[]⟩, ⟨#[40, 99, 114, 105, 116, 124, 119, 97, 114, 110, 41]⟩, ⟨#[91, 97, 45, 99, 93, 43, 46, 42]⟩, ⟨#[46, 43]⟩, ⟨#[40, 97, 98, 41, 42]⟩, ⟨#[97, 63, 98, 63]⟩, ⟨#[91, 94, 97, 93, 42]⟩, ⟨#[97, 42, 97, 42, 97, 42, 97, 42, 97, 42, 97, 42, 97, 42, 97, 42, 97, 42, 97, 42, 97, 42, 97, 42, 97, 42, 97, 42]⟩]
def emodW (n lo hi : Int) : Int := lo + n % (hi - lo + 1)
def inD (n lo hi : Int) : Int := if lo ≤ n ∧ n ≤ hi then n else emodW n lo hi
theorem emodW_in (n lo hi : Int) (h : lo ≤ hi) : lo ≤ emodW n lo hi ∧ emodW n lo hi ≤ hi := by
 unfold emodW
 have h1 := Int.emod_nonneg n (show hi - lo + 1 ≠ 0 by omega)
 have h2 := Int.emod_lt_of_pos n (show 0 < hi - lo + 1 by omega)
 omega
theorem inD_in (n lo hi : Int) (h : lo ≤ hi) : lo ≤ inD n lo hi ∧ inD n lo hi ≤ hi := by
 unfold inD
 split
 · assumption
 · exact emodW_in n lo hi h
def nameOf (n : Int) : ByteArray := names.getD (inD n 0 4).toNat ⟨#[]⟩
def valueOf (n : Int) : ByteArray := values.getD (inD n 0 6).toNat ⟨#[]⟩
theorem getD_mem {l : List ByteArray} {k : Nat} (h : k < l.length) (d : ByteArray) : l.getD k d ∈ l := by
 rw [List.getD_eq_getElem?_getD, List.getElem?_eq_getElem h]; exact List.getElem_mem h
theorem nameOf_mem (n : Int) : nameOf n ∈ names := by
 have h := inD_in n 0 4 (by omega)
 unfold nameOf
 have : (inD n 0 4).toNat < 5 := by omega
 exact getD_mem this _
theorem valueOf_mem (n : Int) : valueOf n ∈ values := by
 have h := inD_in n 0 6 (by omega)
 unfold valueOf
 have : (inD n 0 6).toNat < 7 := by omega
 exact getD_mem this _
section
variable (σ : St)
theorem within_ans (n lo hi : Int) (h0 : 0 ≤ lo) (h1 : lo ≤ hi) (h2 : hi ≤ 100) : Ans Tryz.prog 44 [I n, I lo, I hi] σ (I (emodW n lo hi)) σ := by
 have e1 : IntKind.i64.wrap (hi - lo) = hi - lo := wrapN (by omega) (by omega)
 have e2 : IntKind.i64.wrap (hi - lo + 1) = hi - lo + 1 := wrapN (by omega) (by omega)
 have e3 : ((hi - lo + 1) = 0) = False := by simp; omega
 have h3 := Int.emod_nonneg n (show hi - lo + 1 ≠ 0 by omega)
 have h4 := Int.emod_lt_of_pos n (show 0 < hi - lo + 1 by omega)
 have h5 := Int.tmod_eq_emod (a := n) (b := hi - lo + 1)
 unfold emodW
 generalize hm : n % (hi - lo + 1) = m at h3 h4 h5
 have h6 : n.tmod (hi - lo + 1) = m ∨ n.tmod (hi - lo + 1) = m - (hi - lo + 1) := by
  rw [h5]
  split
  · left; omega
  · right; omega
 refine Ans.of_run t44 ?_
 simp -implicitDefEqProofs only [c44, r44, go_sem, e1, e2, e3]
 generalize n.tmod (hi - lo + 1) = r at h6
 rcases h6 with rfl | rfl
 · have d1 : decide (r < 0) = false := by simp; omega
   have e4 : IntKind.i64.wrap (lo + r) = lo + r := wrapN (by omega) (by omega)
   simp -implicitDefEqProofs only [go_sem, d1, e4]
   exact Fini.ret rfl
 · have d1 : decide (m - (hi - lo + 1) < 0) = true := by simp; omega
   have e4 : IntKind.i64.wrap (m - (hi - lo + 1) + hi) = m - (hi - lo + 1) + hi := wrapN (by omega) (by omega)
   have e5 : IntKind.i64.wrap (m - (hi - lo + 1) + hi - lo) = m - (hi - lo + 1) + hi - lo := wrapN (by omega) (by omega)
   have e6 : IntKind.i64.wrap (m - (hi - lo + 1) + hi - lo + 1) = m := by rw [wrapN (by omega) (by omega)]; omega
   have e7 : IntKind.i64.wrap (lo + m) = lo + m := wrapN (by omega) (by omega)
   simp -implicitDefEqProofs only [go_sem, d1, e4, e5, e6, e7]
   exact Fini.ret rfl
theorem in_ans' (n lo hi : Int) (h0 : 0 ≤ lo) (h1 : lo ≤ hi) (h2 : hi ≤ 100) : Ans Tryz.prog 65 [I n, I lo, I hi] σ (I (inD n lo hi)) σ := by
 have hw := within_ans σ n lo hi h0 h1 h2
 unfold inD
 refine Ans.of_run t65 ?_
 simp -implicitDefEqProofs only [c65, r65, go_sem]
 by_cases d1 : lo ≤ n
 · by_cases d2 : n ≤ hi
   · have d1' : decide (lo ≤ n) = true := by simpa using d1
     have d2' : decide (n ≤ hi) = true := by simpa using d2
     simp -implicitDefEqProofs only [go_sem, d1', d2']
     rw [if_pos ⟨d1, d2⟩]
     exact Fini.ret rfl
   · have d1' : decide (lo ≤ n) = true := by simpa using d1
     have d2' : decide (n ≤ hi) = false := by simpa using d2
     simp -implicitDefEqProofs only [go_sem, d1', d2']
     refine CO.intro hw ?_
     simp -implicitDefEqProofs only [go_sem]
     rw [if_neg (fun h => d2 h.2)]
     exact Fini.ret rfl
 · have d1' : decide (lo ≤ n) = false := by simpa using d1
   simp -implicitDefEqProofs only [go_sem, d1']
   refine CO.intro hw ?_
   simp -implicitDefEqProofs only [go_sem]
   rw [if_neg (fun h => d1 h.1)]
   exact Fini.ret rfl
theorem name_ans (n : Int) : Ans Tryz.prog 43 [I n] σ (Sx (nameOf n)) σ := by
 have h := inD_in n 0 4 (by omega)
 have hi := in_ans' σ n 0 4 (by omega) (by omega) (by omega)
 unfold nameOf
 generalize inD n 0 4 = r at h hi ⊢
 refine Ans.of_run t43 ?_
 simp -implicitDefEqProofs only [c43, r43, go_sem]
 refine CO.intro hi ?_
 have h5 : r = 0 ∨ r = 1 ∨ r = 2 ∨ r = 3 ∨ r = 4 := by omega
 rcases h5 with rfl | rfl | rfl | rfl | rfl
 all_goals (
  simp -implicitDefEqProofs only [go_sem]
  exact Fini.ret rfl)
theorem value_ans (n : Int) : Ans Tryz.prog 45 [I n] σ (Sx (valueOf n)) σ := by
 have h := inD_in n 0 6 (by omega)
 have hi := in_ans' σ n 0 6 (by omega) (by omega) (by omega)
 unfold valueOf
 generalize inD n 0 6 = r at h hi ⊢
 refine Ans.of_run t45 ?_
 simp -implicitDefEqProofs only [c45, r45, go_sem]
 refine CO.intro hi ?_
 have h5 : r = 0 ∨ r = 1 ∨ r = 2 ∨ r = 3 ∨ r = 4 ∨ r = 5 ∨ r = 6 := by omega
 rcases h5 with rfl | rfl | rfl | rfl | rfl | rfl | rfl
 all_goals (
  simp -implicitDefEqProofs only [go_sem]
  exact Fini.ret rfl)
abbrev mat (k : Int) (n v : ByteArray) : AV := .agg [I k, Sx n, Sx v]
end
end Go.Proofs.YtoadgajhkhejiaaGreat
namespace Go.Proofs.YtoadgajhkhejiaaGreat
open Go Go.Ab
set_option maxRecDepth 100000
abbrev Lab := ByteArray × ByteArray
abbrev lv (x : Lab) : AV := .agg [Sx x.1, Sx x.2]
def lvs (L : List Lab) : List AV := L.map lv
theorem lvs_len (L : List Lab) : (lvs L).length = L.length := List.length_map ..
theorem lvs_get (L : List Lab) (i : Nat) (h : i < L.length) : (lvs L)[i]? = some (lv L[i]) := by simp [lvs, h]
def getL : List Lab → ByteArray → ByteArray
 | [], _ => ⟨#[]⟩
 | x :: xs, nm => if x.1.toList == nm.toList then x.2 else getL xs nm
theorem getL_mem (L : List Lab) (nm : ByteArray) : getL L nm = ⟨#[]⟩ ∨ ∃ x ∈ L, getL L nm = x.2 := by
 induction L with
 | nil => exact .inl rfl
 | cons x xs ih =>
   rw [getL]
   split
   · exact .inr ⟨x, List.mem_cons_self, rfl⟩
   · rcases ih with h | ⟨y, hy, h⟩
     · exact .inl h
     · exact .inr ⟨y, List.mem_cons_of_mem _ hy, h⟩
section
variable (σ : St)
theorem nat_lt {i n : Nat} (h : i < n) : ((i : Int) < (n : Nat)) = True := by simp; omega
theorem nat_nlt {i n : Nat} (h : ¬ i < n) : ((i : Int) < (n : Nat)) = False := by simp; omega
theorem dec_lt {i n : Nat} (h : i < n) : decide ((i : Int) < (n : Nat)) = true := by simp; omega
theorem dec_nlt {i n : Nat} (h : ¬ i < n) : decide ((i : Int) < (n : Nat)) = false := by simp; omega
theorem wrap_succ {i : Nat} (h : i ≤ 100000) : IntKind.i64.wrap ((i : Int) + 1) = ((i + 1 : Nat) : Int) := by rw [wrapN (by omega) (by omega)]; rfl
theorem getlabel_ans (l : Nat) (L : List Lab) (nm : ByteArray) (h : σ[l]? = some (.row 2 (lvs L))) (hl : L.length ≤ 1000) : Ans Tryz.prog 40 [.osl l L.length, Sx nm] σ (Sx (getL L nm)) σ := by
 refine Ans.of_run t40 ?_
 simp -implicitDefEqProofs only [c40, r40, go_sem]
 generalize hres : getL L nm = res
 refine Go.Ab.L.intro (α := { i : Nat // i ≤ L.length ∧ getL (L.drop i) nm = res }) (fun x => L.length - x.1)
  (fun x => mkE 24 [(0, .osl l L.length), (1, Sx nm), (5, I x.1)]) (fun _ => σ) (fun x J hJ => ?_) ⟨0, Nat.zero_le _, hres⟩ rfl rfl
 obtain ⟨i, hi, hg⟩ := x
 simp only at hJ ⊢
 by_cases hlt : i < L.length
 · rw [List.drop_eq_getElem_cons hlt, getL] at hg
   have hx := lvs_get L i hlt
   cases he : L[i].1.toList == nm.toList
   · rw [he, if_neg Bool.false_ne_true] at hg
     have hJ' := hJ ⟨i + 1, hlt, hg⟩ (by simp only; omega)
     simp only at hJ'
     simp -implicitDefEqProofs only [mkE, go_sem, nat_lt hlt, dec_lt hlt, h, hx, lvs_len, he, wrap_succ (show i ≤ 100000 by omega)]
     exact hJ'
   · rw [he, if_pos rfl] at hg
     simp -implicitDefEqProofs only [mkE, go_sem, nat_lt hlt, dec_lt hlt, h, hx, lvs_len, he]
     rw [hg]
     exact Fini.ret rfl
 · have : i = L.length := by omega
   subst this
   rw [List.drop_length, getL] at hg
   simp -implicitDefEqProofs only [mkE, go_sem, nat_nlt hlt, dec_nlt hlt, h, lvs_len]
   rw [← hg]
   exact Fini.ret rfl
def idxL : List Lab → ByteArray → Nat → Int
 | [], _, _ => -1
 | x :: xs, nm, i => if x.1.toList == nm.toList then i else idxL xs nm (i + 1)
theorem idxL_get (L : List Lab) (nm : ByteArray) : ∀ i, i ≤ L.length → (idxL (L.drop i) nm i = -1 ∧ getL (L.drop i) nm = ⟨#[]⟩) ∨ ∃ j, ∃ (h : j < L.length), idxL (L.drop i) nm i = j ∧ getL (L.drop i) nm = L[j].2 := by
 intro i hi
 obtain ⟨k, hk⟩ : ∃ k, k = L.length - i := ⟨_, rfl⟩
 induction k generalizing i with
 | zero =>
   have : i = L.length := by omega
   subst this
   rw [List.drop_length]
   exact .inl ⟨rfl, rfl⟩
 | succ k ih =>
   have hlt : i < L.length := by omega
   rw [List.drop_eq_getElem_cons hlt, idxL, getL]
   split
   · exact .inr ⟨i, hlt, rfl, rfl⟩
   · exact ih (i + 1) hlt (by omega)
theorem eq_ans (x : Lab) (nm : ByteArray) : Ans Tryz.prog 83 [lv x, .rp [Sx nm]] σ (Bo (x.1.toList == nm.toList)) σ := by
 refine Ans.of_run t83 ?_
 simp -implicitDefEqProofs only [c83, r83, go_sem]
 exact Fini.ret rfl
theorem idx_ans (L : List Lab) (nm : ByteArray) (hl : L.length ≤ 1000) : Ans Tryz.prog 82 [.sl 2 (lvs L), .fn 83 [] [.rp [Sx nm]]] σ (I (idxL L nm 0)) σ := by
 refine Ans.of_run t82 ?_
 simp -implicitDefEqProofs only [c82, r82, go_sem]
 generalize hres : idxL L nm 0 = res
 refine Go.Ab.L.intro (α := { i : Nat // i ≤ L.length ∧ idxL (L.drop i) nm i = res }) (fun x => L.length - x.1)
  (fun x => mkE 19 [(0, .sl 2 (lvs L)), (1, .fn 83 [] [.rp [Sx nm]]), (7, I ((lvs L).length : Nat)), (8, I x.1)]) (fun _ => σ) (fun x J hJ => ?_) ⟨0, Nat.zero_le _, hres⟩ rfl rfl
 obtain ⟨i, hi, hg⟩ := x
 simp only at hJ ⊢
 rw [lvs_len] at hJ ⊢
 by_cases hlt : i < L.length
 · rw [List.drop_eq_getElem_cons hlt, idxL] at hg
   have hx := lvs_get L i hlt
   simp -implicitDefEqProofs only [mkE, go_sem, nat_lt hlt, dec_lt hlt, hx, lvs_len]
   refine CO.intro (eq_ans σ L[i] nm) ?_
   cases he : L[i].1.toList == nm.toList
   · rw [he, if_neg Bool.false_ne_true] at hg
     have hJ' := hJ ⟨i + 1, hlt, hg⟩ (by simp only; omega)
     simp only at hJ'
     simp -implicitDefEqProofs only [go_sem, wrap_succ (show i ≤ 100000 by omega)]
     exact hJ'
   · rw [he, if_pos rfl] at hg
     simp -implicitDefEqProofs only [go_sem]
     rw [← hg]
     exact Fini.ret rfl
 · have : i = L.length := by omega
   subst this
   rw [List.drop_length, idxL] at hg
   simp -implicitDefEqProofs only [mkE, go_sem, nat_nlt hlt, dec_nlt hlt, lvs_len]
   rw [← hg]
   exact Fini.ret rfl
theorem get_ans (L : List Lab) (nm : ByteArray) (hl : L.length ≤ 1000) : Ans Tryz.prog 61 [.sl 2 (lvs L), Sx nm] σ (Sx (getL L nm)) σ := by
 have hi := idx_ans σ L nm hl
 refine Ans.of_run t61 ?_
 simp -implicitDefEqProofs only [c61, r61, go_sem]
 refine CO.intro hi ?_
 rcases idxL_get L nm 0 (Nat.zero_le _) with ⟨h1, h2⟩ | ⟨j, hj, h1, h2⟩
 · rw [List.drop_zero] at h1 h2
   rw [h1, h2]
   simp -implicitDefEqProofs only [go_sem]
   exact Fini.ret rfl
 · rw [List.drop_zero] at h1 h2
   rw [h1, h2]
   have d1 : decide (((j : Nat) : Int) < 0) = false := by simp
   simp -implicitDefEqProofs only [go_sem, d1, lvs_get L j hj, lvs_len, nat_lt hj]
   exact Fini.ret rfl
def drawnL (L : List Lab) : Prop := ∀ x ∈ L, x.1 ∈ names ∧ x.2 ∈ values
def leS (a b : ByteArray) : Bool := Op.bytesLess a.toList b.toList || a.toList == b.toList
def badAt (L : List Lab) (i : Nat) : Bool := decide (0 < i) && leS (L.getD i (⟨#[]⟩, ⟨#[]⟩)).1 (L.getD (i - 1) (⟨#[]⟩, ⟨#[]⟩)).1
def isGo (L : List Lab) : Nat → Nat → Bool
 | 0, _ => true
 | k + 1, i => if badAt L i then false else isGo L k (i + 1)
def isSetL (L : List Lab) : Bool := if decide (L.length < 1) || decide (6 < L.length) then false else isGo L L.length 0
theorem rname_ans (n : ByteArray) (h : n ∈ names) : Ans Tryz.prog 30 [Sx n] σ (Bo true) σ := by
 simp only [names, List.mem_cons, List.not_mem_nil, or_false] at h
 rcases h with rfl | rfl | rfl | rfl | rfl
 · exact rn0_ok.frame (bel_all rfl) σ
 · exact rn1_ok.frame (bel_all rfl) σ
 · exact rn2_ok.frame (bel_all rfl) σ
 · exact rn3_ok.frame (bel_all rfl) σ
 · exact rn4_ok.frame (bel_all rfl) σ
theorem values_size (v : ByteArray) (h : v ∈ values) : 1 ≤ v.size ∧ v.size ≤ 24 := by
 simp only [values, List.mem_cons, List.not_mem_nil, or_false] at h
 rcases h with rfl | rfl | rfl | rfl | rfl | rfl | rfl <;> exact ⟨by decide, by decide⟩
theorem rvalue_ans (v : ByteArray) (h : v ∈ values) : Ans Tryz.prog 85 [Sx v] σ (Bo true) σ := by
 obtain ⟨h1, h2⟩ := values_size v h
 have d1 : decide ((1 : Int) ≤ (v.size : Nat)) = true := by simp; omega
 have d2 : decide (((v.size : Nat) : Int) ≤ 24) = true := by simp; omega
 refine Ans.of_run t85 ?_
 simp -implicitDefEqProofs only [c85, r85, go_sem, d1, d2]
 exact Fini.ret rfl
theorem isset_ans (L : List Lab) (hd : drawnL L) (hl : L.length ≤ 1000) : Ans Tryz.prog 66 [.sl 2 (lvs L)] σ (Bo (isSetL L)) σ := by
 refine Ans.of_run t66 ?_
 unfold isSetL
 have e1 : decide ((((lvs L).length : Nat) : Int) < 1) = decide (L.length < 1) := by rw [lvs_len, Bool.eq_iff_iff]; simp only [decide_eq_true_eq]; omega
 have e2 : decide ((6 : Int) < (((lvs L).length : Nat) : Int)) = decide (6 < L.length) := by rw [lvs_len, Bool.eq_iff_iff]; simp only [decide_eq_true_eq]; omega
 simp -implicitDefEqProofs only [c66, r66, go_sem, e1]
 cases h1 : decide (L.length < 1)
 case true =>
  simp -implicitDefEqProofs only [go_sem, Bool.true_or]
  exact Fini.ret rfl
 simp -implicitDefEqProofs only [go_sem, e2, Bool.false_or]
 cases h2 : decide (6 < L.length)
 case true =>
  simp -implicitDefEqProofs only [go_sem]
  exact Fini.ret rfl
 simp -implicitDefEqProofs only [go_sem]
 generalize hres : isGo L L.length 0 = res
 refine Go.Ab.L.intro (α := { x : Nat × Nat // x.2 + x.1 = L.length ∧ isGo L x.1 x.2 = res }) (fun x => x.1.1)
  (fun x => mkE 52 [(0, .sl 2 (lvs L)), (3, I x.1.2)]) (fun _ => σ) (fun x J hJ => ?_) ⟨(L.length, 0), by simp, hres⟩ rfl rfl
 obtain ⟨⟨k, i⟩, hi, hg⟩ := x
 simp only at hi hg hJ ⊢
 cases k with
 | zero =>
   have hlt : ¬ i < L.length := by omega
   rw [isGo] at hg
   simp -implicitDefEqProofs only [mkE, go_sem, lvs_len, nat_nlt hlt, dec_nlt hlt]
   rw [← hg]
   exact Fini.ret rfl
 | succ k =>
   have hlt : i < L.length := by omega
   have hx := lvs_get L i hlt
   obtain ⟨d1, d2⟩ := hd L[i] (List.getElem_mem hlt)
   have hgd : L.getD i (⟨#[]⟩, ⟨#[]⟩) = L[i] := by rw [List.getD_eq_getElem?_getD, List.getElem?_eq_getElem hlt]; rfl
   rw [isGo] at hg
   simp -implicitDefEqProofs only [mkE, go_sem, lvs_len, nat_lt hlt, dec_lt hlt, hx, D_callS]
   first
   | refine CD.intro (rname_ans _ _ d1) ?_
   | refine CS.intro (fun s => rname_ans s _ d1) ?_
   simp -implicitDefEqProofs only [go_sem, lvs_len, nat_lt hlt, dec_lt hlt, hx, D_callS]
   first
   | refine CD.intro (rvalue_ans _ _ d2) ?_
   | refine CS.intro (fun s => rvalue_ans s _ d2) ?_
   have e0 : decide ((0 : Int) < (i : Nat)) = decide (0 < i) := by rw [Bool.eq_iff_iff]; simp
   unfold badAt at hg
   rw [hgd] at hg
   simp -implicitDefEqProofs only [go_sem, e0]
   cases h0 : decide (0 < i)
   · rw [h0, Bool.false_and, if_neg Bool.false_ne_true] at hg
     have hJ' := hJ ⟨(k, i + 1), by simp only; omega, hg⟩ (Nat.lt_succ_self k)
     simp only at hJ'
     simp -implicitDefEqProofs only [go_sem, wrap_succ (show i ≤ 100000 by omega)]
     exact hJ'
   · have hi0 : 0 < i := by simpa using h0
     have hlt2 : i - 1 < L.length := by omega
     have hx2 := lvs_get L (i - 1) hlt2
     have hgd2 : L.getD (i - 1) (⟨#[]⟩, ⟨#[]⟩) = L[i - 1] := by rw [List.getD_eq_getElem?_getD, List.getElem?_eq_getElem hlt2]; rfl
     have e3 : IntKind.i64.wrap ((i : Int) - 1) = ((i - 1 : Nat) : Int) := by rw [wrapN (by omega) (by omega)]; omega
     rw [h0, Bool.true_and, hgd2] at hg
     cases hb : leS L[i].1 L[i - 1].1
     · rw [hb, if_neg Bool.false_ne_true] at hg
       have hb' : (Op.bytesLess L[i].1.toList L[i - 1].1.toList || L[i].1.toList == L[i - 1].1.toList) = false := hb
       have hJ' := hJ ⟨(k, i + 1), by simp only; omega, hg⟩ (Nat.lt_succ_self k)
       simp only at hJ'
       simp -implicitDefEqProofs only [go_sem, e3, hx, hx2, lvs_len, nat_lt hlt2, nat_lt hlt, hb', wrap_succ (show i ≤ 100000 by omega)]
       exact hJ'
     · rw [hb, if_pos rfl] at hg
       have hb' : (Op.bytesLess L[i].1.toList L[i - 1].1.toList || L[i].1.toList == L[i - 1].1.toList) = true := hb
       simp -implicitDefEqProofs only [go_sem, e3, hx, hx2, lvs_len, nat_lt hlt2, nat_lt hlt, hb']
       rw [← hg]
       exact Fini.ret rfl
end
end Go.Proofs.YtoadgajhkhejiaaGreat
namespace Go.Proofs.YtoadgajhkhejiaaGreat
open Go Go.Ab
set_option maxRecDepth 100000
abbrev noL : Lab := (⟨#[]⟩, ⟨#[]⟩)
def pos (out : List Lab) (x : Lab) : Nat → Nat
 | 0 => 0
 | n + 1 => if Op.bytesLess x.1.toList (out.getD n noL).1.toList then pos out x n else n + 1
def insL (out : List Lab) (x : Lab) : List Lab := out.take (pos out x out.length) ++ [x] ++ out.drop (pos out x out.length)
def setL (L : List Lab) : List Lab := L.foldl insL []
theorem pos_le (out : List Lab) (x : Lab) : ∀ n, pos out x n ≤ n
 | 0 => Nat.le_refl _
 | n + 1 => by
   rw [pos]; split
   · exact Nat.le_succ_of_le (pos_le out x n)
   · exact Nat.le_refl _
theorem insL_len (out : List Lab) (x : Lab) : (insL out x).length = out.length + 1 := by
 have := pos_le out x out.length
 simp only [insL, List.length_append, List.length_take, List.length_drop, List.length_cons, List.length_nil]
 omega
theorem setL_snoc (L : List Lab) (x : Lab) : setL (L ++ [x]) = insL (setL L) x := by simp [setL]
theorem foldL_len (L : List Lab) : ∀ acc : List Lab, (L.foldl insL acc).length = acc.length + L.length := by
 induction L with
 | nil => intro acc; rfl
 | cons x L ih => intro acc; rw [List.foldl_cons, ih, insL_len]; simp; omega
theorem setL_len (L : List Lab) : (setL L).length = L.length := by rw [setL, foldL_len]; simp
theorem insL_mem {out : List Lab} {x y : Lab} (h : y ∈ insL out x) : y = x ∨ y ∈ out := by
 simp only [insL, List.mem_append, List.mem_cons, List.not_mem_nil, or_false] at h
 rcases h with (h | h) | h
 · exact .inr (List.mem_of_mem_take h)
 · exact .inl h
 · exact .inr (List.mem_of_mem_drop h)
theorem foldL_mem (L : List Lab) : ∀ (acc : List Lab), ∀ y ∈ L.foldl insL acc, y ∈ acc ∨ y ∈ L := by
 induction L with
 | nil => intro acc y hy; exact .inl hy
 | cons x L ih =>
   intro acc y hy
   rcases ih _ y hy with h | h
   · rcases insL_mem h with rfl | h
     · exact .inr List.mem_cons_self
     · exact .inl h
   · exact .inr (List.mem_cons_of_mem _ h)
theorem setL_mem (L : List Lab) : ∀ y ∈ setL L, y ∈ L := fun y hy => by
 rcases foldL_mem L [] y hy with h | h
 · cases h
 · exact h
theorem lvs_take (L : List Lab) (k : Nat) : (lvs L).take k = lvs (L.take k) := by simp [lvs]
theorem lvs_drop (L : List Lab) (k : Nat) : (lvs L).drop k = lvs (L.drop k) := by simp [lvs]
theorem lvs_all (L : List Lab) (f : AV → Bool) (h : ∀ x : Lab, f (lv x) = true) : (lvs L).all f = true := by
 simp only [lvs, List.all_map, List.all_eq_true]
 exact fun x _ => h x
theorem lvs_nil : lvs [] = [] := rfl
theorem lvs_empty (L : List Lab) : (lvs L).isEmpty = L.isEmpty := by simp [lvs]
theorem bel_lv (n : Nat) (x : Lab) : Bel n (lv x) := by
 refine .agg _ fun i hi => ?_
 have : ∀ y ∈ [Sx x.1, Sx x.2], Bel n y := by
  intro y hy
  simp only [List.mem_cons, List.not_mem_nil, or_false] at hy
  rcases hy with rfl | rfl <;> exact .pl _
 exact this _ (List.getElem_mem hi)
theorem bel_lvs (n : Nat) (L : List Lab) : Bel n (.sl 2 (lvs L)) := by
 refine .sl 2 _ fun i hi => ?_
 have : ∀ y ∈ lvs L, Bel n y := by
  intro y hy
  simp only [lvs, List.mem_map] at hy
  obtain ⟨x, _, rfl⟩ := hy
  exact bel_lv n x
 exact this _ (List.getElem_mem hi)
theorem B_pl (n : Nat) (v : Value) : Bel n (.pl v) = True := eq_true (.pl v)
theorem B_any (n : Nat) : Bel n .any = True := eq_true .any
theorem B_nils (n : Nat) : Bel n .nils = True := eq_true .nils
theorem B_tup (n : Nat) : Bel n (.tup []) = True := eq_true (.tup _ fun i hi => absurd hi (Nat.not_lt_zero _))
theorem B_lv (n : Nat) (x : Lab) : Bel n (lv x) = True := eq_true (bel_lv n x)
theorem B_lvs (n : Nat) (L : List Lab) : Bel n (.sl 2 (lvs L)) = True := eq_true (bel_lvs n L)
theorem B_sl1 (n : Nat) (x : Lab) : Bel n (.sl 2 [lv x]) = True := eq_true (bel_lvs n [x])
theorem lvs_mid (A B : List Lab) (x : Lab) : lvs (A ++ [x] ++ B) = lvs A ++ lv x :: lvs B := by simp [lvs]
theorem B_mid (n : Nat) (A B : List Lab) (a b : ByteArray) : Bel n (.sl 2 (lvs A ++ .agg [Sx a, Sx b] :: lvs B)) = True := eq_true (by have := bel_lvs n (A ++ [(a, b)] ++ B); rwa [lvs_mid] at this)
theorem B_cons (n : Nat) (B : List Lab) (a b : ByteArray) : Bel n (.sl 2 (.agg [Sx a, Sx b] :: lvs B)) = True := eq_true (bel_lvs n ((a, b) :: B))
theorem B_rp2 (n : Nat) (a b : ByteArray) : Bel n (.rp [Sx a, Sx b]) = True := eq_true (.rp _ fun i hi => by
 have : ∀ y ∈ [Sx a, Sx b], Bel n y := by
  intro y hy
  simp only [List.mem_cons, List.not_mem_nil, or_false] at hy
  rcases hy with rfl | rfl <;> exact .pl _
 exact this _ (List.getElem_mem hi))
theorem B_sl0 (n k : Nat) : Bel n (.sl k []) = True := eq_true (.sl k [] fun i hi => absurd hi (Nat.not_lt_zero _))
theorem B_osl (n l k : Nat) : Bel n (.osl l k) = (l < n) := by
 apply propext
 constructor
 · intro h; cases h; assumption
 · intro h; exact .osl l k h
theorem B_ptr (n l k : Nat) : Bel n (.ptr l k) = (l < n) := by
 apply propext
 constructor
 · intro h; cases h; assumption
 · intro h; exact .ptr l k h
theorem B_agg2 (n : Nat) (a b : ByteArray) : Bel n (.agg [Sx a, Sx b]) = True := eq_true (bel_lv n (a, b))
section
variable (σ : St)
theorem g0 (x : Ob) (ex : St) : (σ ++ x :: ex)[σ.length]? = some x := by rw [List.getElem?_append_right (by simp)]; simp
theorem s0 (x y : Ob) (ex : St) : (σ ++ x :: ex).set σ.length y = σ ++ y :: ex := by rw [List.set_append_right _ _ (by simp)]; simp
def setV (L : List Lab) : AV := if isSetL (setL L) then .sl 2 (lvs (setL L)) else .nils
theorem makeset_ans (L : List Lab) (hd : drawnL L) (hl : L.length ≤ 100) : Ans Tryz.prog 46 [.sl 2 (lvs L)] σ (.tup [setV L, Bo (isSetL (setL L))]) σ := by
 refine Ans.of_run' t46 (fun hbel _ => ?_)
 have hbel' : (∀ o ∈ σ, BelO σ.length o) = True := eq_true hbel
 simp -implicitDefEqProofs only [c46, r46, go_sem, B_pl, B_any, B_nils, B_tup, B_lv, B_lvs, B_sl1, B_osl, B_ptr, B_agg2, B_sl0, List.take_left, hbel', g0, s0, List.length_append, Nat.le_add_right]
 refine Go.Ab.L.count L.length (fun i => mkE 51 [(0, .sl 2 (lvs L)), (4, .sl 2 (lvs (setL (L.take i)))), (5, I i)]) (fun _ => σ) ?_ ?_ rfl rfl
 · intro i hi Q hQ
   have hx := lvs_get L i hi
   have hol : (setL (L.take i)).length = i := by rw [setL_len]; simp; omega
   rw [List.take_succ_eq_append_getElem hi, setL_snoc] at hQ
   generalize setL (L.take i) = out at hol hQ ⊢
   simp -implicitDefEqProofs only [mkE, go_sem, lvs_len, nat_lt hi, dec_lt hi]
   unfold insL at hQ
   generalize hp : pos out L[i] out.length = p at hQ
   refine Go.Ab.L.intro (α := { n : Nat // n ≤ out.length ∧ pos out L[i] n = p }) (fun x => x.1) (fun x => mkE 51 [(0, .sl 2 (lvs L)), (4, .sl 2 (lvs out)), (5, I i), (6, I x.1)]) (fun _ => σ)
    (fun x J hJ => ?_) ⟨out.length, Nat.le_refl _, hp⟩ rfl rfl
   obtain ⟨n, hn, hpn⟩ := x
   simp only at hJ ⊢
   cases n with
   | zero =>
     rw [pos] at hpn
     subst hpn
     have d00 : decide ((0 : Int) < ((0 : Nat) : Int)) = false := by decide
     have h1 : (1 ≤ 2 ^ 32) = True := by simp
     have hp32 : (1 + out.length ≤ 2 ^ 32) = True := by simp; omega
     have q1 : (1 + out.length = out.length + 1) = True := by simp; omega
     rw [lvs_mid] at hQ
     simp -implicitDefEqProofs only [mkE, go_sem, q1, d00, lvs_len, nat_lt hi, hx, Int.natCast_zero, Int.le_refl, Int.toNat_zero, List.take_length, List.drop_zero, List.drop_nil, lvs_nil, lvs_take, lvs_drop, lvs_all, lvs_empty, lvs_len, g0, s0, B_pl, B_any, B_nils, B_tup, B_lv, B_lvs, B_sl1, B_osl, B_ptr, B_agg2, B_sl0, hp32, h1, B_cons, B_mid, B_rp2, List.take_left, hbel', List.length_append, List.append_assoc, Nat.le_add_right, wrap_succ (show i ≤ 100000 by omega)]
     exact hQ
   | succ n =>
     have hx2 := lvs_get out n hn
     have hgd : out.getD n noL = out[n] := by rw [List.getD_eq_getElem?_getD, List.getElem?_eq_getElem hn]; rfl
     have d0 : decide ((0 : Int) < ((n + 1 : Nat) : Int)) = true := by simp
     have e1 : IntKind.i64.wrap (((n + 1 : Nat) : Int) - 1) = (n : Int) := by rw [wrapN (by omega) (by omega)]; omega
     rw [pos, hgd] at hpn
     cases hb : Op.bytesLess L[i].1.toList out[n].1.toList
     · rw [hb, if_neg Bool.false_ne_true] at hpn
       subst hpn
       have p1 : (((n + 1 : Nat) : Int) ≤ (out.length : Nat)) = True := by simp; omega
       have p2 : (out.take (n + 1)).isEmpty = false := by
        cases h : out.take (n + 1) with
        | nil =>
          have : (out.take (n + 1)).length = 0 := by rw [h]; rfl
          rw [List.length_take] at this; omega
        | cons _ _ => rfl
       have p3 : (out.take (n + 1)).length = n + 1 := by simp; omega
       have p4 : (out.drop (n + 1)).length = out.length - (n + 1) := by simp
       have p5 : (n + 1 ≤ 2 ^ 32) = True := by simp; omega
       have p6 : (n + 1 + 1 ≤ 2 ^ 32) = True := by simp; omega
       have p7 : (n + 1 + 1 + (out.length - (n + 1)) ≤ 2 ^ 32) = True := by simp; omega
       have q2 : (n + 1 + 1 + (out.length - (n + 1)) = n + 1 + (out.length - (n + 1) + 1)) = True := by simp; omega
       rw [lvs_mid] at hQ
       simp -implicitDefEqProofs only [mkE, go_sem, q2, d0, e1, lvs_len, nat_lt hi, nat_lt hn, hx, hx2, hb, Int.natCast_zero, Int.le_refl, Int.toNat_zero, List.take_length, List.drop_zero, List.drop_nil, lvs_nil, lvs_take, lvs_drop, lvs_all, lvs_empty, lvs_len, g0, s0, B_pl, B_any, B_nils, B_tup, B_lv, B_lvs, B_sl1, B_osl, B_ptr, B_agg2, B_sl0, B_cons, B_mid, B_rp2, List.take_left, hbel', List.length_append, List.append_assoc, Nat.le_add_right, wrap_succ (show i ≤ 100000 by omega), p1, p2, p3, p4, p5, p6, p7]
       exact hQ
     · rw [hb, if_pos rfl] at hpn
       have hJ' := hJ ⟨n, by omega, hpn⟩ (Nat.lt_succ_self n)
       simp only at hJ'
       simp -implicitDefEqProofs only [mkE, go_sem, d0, e1, lvs_len, nat_lt hi, nat_lt hn, hx, hx2, hb]
       exact hJ'
 · intro Q
   have hlt : ¬ L.length < L.length := Nat.lt_irrefl _
   have hdr : drawnL (setL L) := fun x hx => hd x (setL_mem L x hx)
   rw [List.take_length]
   simp -implicitDefEqProofs only [mkE, go_sem, lvs_len, nat_nlt hlt, dec_nlt hlt]
   refine CO.intro (isset_ans σ (setL L) hdr (by rw [setL_len]; omega)) ?_
   unfold setV
   cases hs : isSetL (setL L)
   · simp -implicitDefEqProofs only [go_sem]
     exact Fini.ret rfl
   · simp -implicitDefEqProofs only [go_sem]
     exact Fini.ret rfl
end
end Go.Proofs.YtoadgajhkhejiaaGreat
namespace Go.Proofs.YtoadgajhkhejiaaGreat
open Go Go.Ab
set_option maxRecDepth 100000
theorem Bel_mono {n m : Nat} {x : AV} (h : Bel n x) (hle : n ≤ m) : Bel m x := by
 induction h with
 | any => exact .any
 | pl v => exact .pl v
 | nils => exact .nils
 | sl sz xs _ ih => exact .sl sz xs ih
 | rp cs _ ih => exact .rp cs ih
 | ptr l off h => exact .ptr l off (by omega)
 | osl l k h => exact .osl l k (by omega)
 | ep l k i off h => exact .ep l k i off (by omega)
 | psl l off k h => exact .psl l off k (by omega)
 | zsl => exact .zsl
 | win sz l k lo h => exact .win sz l k lo (by omega)
 | agg cs _ ih => exact .agg cs ih
 | tup cs _ ih => exact .tup cs ih
 | fn f fs cs _ _ ih ih' => exact .fn f fs cs ih ih'
theorem BelO_mono {n m : Nat} {o : Ob} (h : BelO n o) (hle : n ≤ m) : BelO m o := by
 cases o with
 | dead => trivial
 | glo => trivial
 | box cs => exact fun c hc => Bel_mono (h c hc) hle
 | row sz xs => exact fun c hc => Bel_mono (h c hc) hle
def labOf (n : Int) : Lab := (nameOf (emodW n 0 4), valueOf (emodW (IntKind.i64.wrap (n.tdiv 5)) 0 6))
def labStep (out : List Lab) (n : Int) : List Lab := if (getL out (labOf n).1).toList == (⟨#[]⟩ : ByteArray).toList then out ++ [labOf n] else out
def labs0 (ns : List Int) : List Lab := (ns.take 5).foldl labStep []
def labs (ns : List Int) : List Lab := if (labs0 ns).length = 0 then [(⟨#[115, 101, 118]⟩, ⟨#[97]⟩)] else labs0 ns
theorem labStep_len (out : List Lab) (n : Int) : (labStep out n).length ≤ out.length + 1 := by
 unfold labStep; split <;> simp
theorem foldS_len (l : List Int) : ∀ acc : List Lab, (l.foldl labStep acc).length ≤ acc.length + l.length := by
 induction l with
 | nil => intro acc; exact Nat.le_refl _
 | cons n l ih =>
   intro acc
   have h1 := ih (labStep acc n)
   have h2 := labStep_len acc n
   rw [List.foldl_cons, List.length_cons]; omega
theorem labOf_drawn (n : Int) : (labOf n).1 ∈ names ∧ (labOf n).2 ∈ values := ⟨nameOf_mem _, valueOf_mem _⟩
theorem foldS_drawn (l : List Int) : ∀ acc : List Lab, drawnL acc → drawnL (l.foldl labStep acc) := by
 induction l with
 | nil => intro acc h; exact h
 | cons n l ih =>
   intro acc h
   refine ih _ ?_
   unfold labStep
   split
   · intro x hx
     rcases List.mem_append.1 hx with hx | hx
     · exact h x hx
     · simp only [List.mem_cons, List.not_mem_nil, or_false] at hx
       subst hx
       exact labOf_drawn n
   · exact h
theorem labs0_len (ns : List Int) : (labs0 ns).length ≤ 5 := by
 have := foldS_len (ns.take 5) []
 simp at this
 unfold labs0
 omega
theorem labs_len (ns : List Int) : (labs ns).length ≤ 5 := by
 unfold labs; split
 · decide
 · exact labs0_len ns
theorem labs_drawn (ns : List Int) : drawnL (labs ns) := by
 unfold labs; split
 · intro x hx
   simp only [List.mem_cons, List.not_mem_nil, or_false] at hx
   subst hx
   exact ⟨by simp [names], by simp [values]⟩
 · exact foldS_drawn _ [] (fun x hx => by cases hx)
theorem B_ints (n : Nat) (ns : List Int) : Bel n (.sl 1 (ns.map I)) = True := eq_true (.sl 1 _ fun i hi => by
 have : ∀ y ∈ ns.map I, Bel n y := by
  intro y hy
  simp only [List.mem_map] at hy
  obtain ⟨x, _, rfl⟩ := hy
  exact .pl _
 exact this _ (List.getElem_mem hi))
theorem B_rp1 (n : Nat) (v : Value) : Bel n (.rp [.pl v]) = True := eq_true (.rp _ fun i hi => by
 have : ∀ y ∈ [AV.pl v], Bel n y := by
  intro y hy
  simp only [List.mem_cons, List.not_mem_nil, or_false] at hy
  subst hy; exact .pl _
 exact this _ (List.getElem_mem hi))
section
variable (σ : St)
theorem g1 (x y : Ob) (ex : St) : (σ ++ x :: y :: ex)[σ.length + 1]? = some y := by rw [List.getElem?_append_right (by simp)]; simp
theorem s1 (x y z : Ob) (ex : St) : (σ ++ x :: y :: ex).set (σ.length + 1) z = σ ++ x :: z :: ex := by rw [List.set_append_right _ _ (by simp)]; simp
theorem take_one (x : Ob) (ex : St) : (σ ++ x :: ex).take (σ.length + 1) = σ ++ [x] := by
 have e : σ ++ x :: ex = (σ ++ [x]) ++ ex := by simp
 have h := List.take_left (l₁ := σ ++ [x]) (l₂ := ex)
 rw [e]
 simpa using h
theorem CO.intro' {P : Program} {n0 : Nat} {k : List Fr} {B : Bs} {env : Env} {σ σ₀ σ' : St} {f : FuncId} {args args₀ : List AV} {d : Option Tmp} {l : List AOper} {r : AV} (h : Ans P f args₀ σ₀ r σ') (ha : args = args₀) (hs : σ = σ₀)
  (h' : O P n0 l k B (putA env d r) σ') : CO P n0 f args d l k B env σ := by subst ha; subst hs; exact CO.intro h h'
theorem beq_cast0 (n : Nat) : ((n : Int) == 0) = (n == 0) := by rw [Bool.eq_iff_iff]; simp
theorem lvs_snoc (L : List Lab) (a b : ByteArray) : lvs L ++ [.agg [Sx a, Sx b]] = lvs (L ++ [(a, b)]) := by simp [lvs]
theorem labels_ans (ns : List Int) : Ans Tryz.prog 24 [.sl 1 (ns.map I)] σ (setV (labs ns)) σ := by
 refine Ans.of_run' t24 (fun hbel _ => ?_)
 have hb1 : ∀ L : List Lab, (∀ o ∈ σ ++ [.row 2 (lvs L)], BelO (σ.length + 1) o) = True := fun L => eq_true (by
  intro o ho
  rcases List.mem_append.1 ho with ho | ho
  · exact BelO_mono (hbel o ho) (Nat.le_succ _)
  · simp only [List.mem_cons, List.not_mem_nil, or_false] at ho
    subst ho
    intro y hy
    simp only [lvs, List.mem_map] at hy
    obtain ⟨x, _, rfl⟩ := hy
    exact bel_lv _ x)
 simp -implicitDefEqProofs only [c24, r24, go_sem, List.append_assoc, List.length_append]
 have hm : ∀ i, i < (ns.take 5).length → i < ns.length ∧ i < 5 := fun i hi => by simp at hi; omega
 refine Go.Ab.L.count (ns.take 5).length (fun i => mkE 54 [(0, .sl 1 (ns.map I)), (3, .osl σ.length (((ns.take 5).take i).foldl labStep []).length), (4, I i)])
  (fun i => σ ++ [.row 2 (lvs (((ns.take 5).take i).foldl labStep []))]) ?_ ?_ rfl rfl
 · intro i hi Q hQ
   obtain ⟨hi1, hi2⟩ := hm i hi
   have hns : (ns.take 5)[i] = ns[i] := by simp
   rw [List.take_succ_eq_append_getElem hi, List.foldl_append, List.foldl_cons, List.foldl_nil, hns] at hQ
   have hlo : (((ns.take 5).take i).foldl labStep []).length ≤ 5 := by
    have := foldS_len ((ns.take 5).take i) []
    simp at this; omega
   generalize ((ns.take 5).take i).foldl labStep [] = out at hQ hlo ⊢
   have hget : (ns.map I)[i]? = some (I ns[i]) := by simp [hi1]
   generalize ns[i] = n at hget hQ
   have d5 : decide ((i : Int) < 5) = true := by simp; omega
   have dl : decide ((i : Int) < (((ns.map I).length : Nat) : Int)) = true := by simp; omega
   have dl' : ((i : Int) < (((ns.map I).length : Nat) : Int)) = True := by simp; omega
   have AA : True := trivial
   simp -implicitDefEqProofs only [mkE, go_sem, D_callS, dl, dl', d5, hget, List.append_assoc, List.length_append]
   refine CS.intro (fun s => within_ans s n 0 4 (by omega) (by omega) (by omega)) ?_
   simp -implicitDefEqProofs only [go_sem, D_callS, dl', hget, List.append_assoc, List.length_append]
   refine CS.intro (fun s => name_ans s _) ?_
   simp -implicitDefEqProofs only [go_sem, D_callS, dl', hget, List.append_assoc, List.length_append]
   refine CS.intro (fun s => within_ans s _ 0 6 (by omega) (by omega) (by omega)) ?_
   simp -implicitDefEqProofs only [go_sem, D_callS, dl', hget, List.append_assoc, List.length_append]
   refine CS.intro (fun s => value_ans s _) ?_
   simp -implicitDefEqProofs only [go_sem, D_callS, dl', hget, List.append_assoc, List.length_append, g0, g1, s0, s1]
   refine CO.intro (getlabel_ans _ σ.length out (nameOf (emodW n 0 4)) (g0 σ _ _) (by omega)) ?_
   simp -implicitDefEqProofs only [go_sem]
   unfold labStep at hQ
   have hlab : (labOf n).1 = nameOf (emodW n 0 4) := rfl
   rw [hlab] at hQ
   cases hc : (getL out (nameOf (emodW n 0 4))).toList == (⟨#[]⟩ : ByteArray).toList
   · rw [hc, if_neg Bool.false_ne_true] at hQ
     simp -implicitDefEqProofs only [go_sem, g0, g1, s0, s1, B_pl, B_any, B_nils, B_tup, B_lv, B_lvs, B_sl1, B_osl, B_ptr, B_agg2, B_sl0, B_ints, B_rp1, take_one, hb1, List.length_append, wrap_succ (show i ≤ 100000 by omega)]
     exact ⟨⟨by omega, by omega⟩, by omega, hQ⟩
   · rw [hc, if_pos rfl] at hQ
     have p1 : (out.length + 1 ≤ 2 ^ 32) = True := by simp; omega
     simp -implicitDefEqProofs only [go_sem, g0, g1, s0, s1, B_pl, B_any, B_nils, B_tup, B_lv, B_lvs, B_sl1, B_osl, B_ptr, B_agg2, B_sl0, B_ints, B_rp1, take_one, hb1, List.length_append, lvs_len, p1, lvs_snoc, wrap_succ (show i ≤ 100000 by omega)]
     rw [List.length_append] at hQ
     exact ⟨⟨by omega, by omega, by omega, bel_lvs _ [labOf n], by omega⟩, by omega, hQ⟩
 · intro Q
   have hlt : ¬ ((ns.take 5).length < ns.length ∧ (ns.take 5).length < 5) := by simp; omega
   rw [List.take_length]
   have hlo := labs0_len ns
   have hd0 : labs0 ns = (ns.take 5).foldl labStep [] := rfl
   rw [← hd0]
   have hset := makeset_ans (σ ++ [.dead]) (labs ns) (labs_drawn ns) (by have := labs_len ns; omega)
   have hb2 : Bel σ.length (setV (labs ns)) := by
    unfold setV; split
    · exact bel_lvs _ _
    · exact .nils
   have hex : (¬ (ns.take 5).length < ns.length) ∨ ((ns.take 5).length < ns.length ∧ (ns.take 5).length = 5) := by simp; omega
   have hmap : (((ns.map I).length : Nat) : Int) = (ns.length : Nat) := by simp
   have d55 : decide (((5 : Nat) : Int) < 5) = false := by decide
   rcases hex with hx | ⟨hx, hx5⟩
   · simp -implicitDefEqProofs only [mkE, go_sem, hmap, nat_nlt hx, dec_nlt hx]
     cases h0 : ((labs0 ns).length == 0)
     · have h0' : ((((labs0 ns).length : Nat) : Int) == 0) = false := by rw [← h0]; exact beq_cast0 _
       have hl : labs ns = labs0 ns := by unfold labs; rw [if_neg (by simpa using h0)]
       rw [hl] at hset hb2
       simp -implicitDefEqProofs only [go_sem, h0', g0, s0, lvs_len]
       refine CO.intro hset ?_
       unfold setV at hb2 ⊢
       rw [hl]
       cases hs : isSetL (setL (labs0 ns))
       all_goals rw [hs] at hb2
       all_goals simp -implicitDefEqProofs only [go_sem]
       all_goals exact Fini.trim2 (σ' := σ) (ex := [.dead]) rfl rfl (Nat.le_refl _) hb2 hbel
     · have h0' : ((((labs0 ns).length : Nat) : Int) == 0) = true := by rw [← h0]; exact beq_cast0 _
       have h00 : labs0 ns = [] := by simpa using h0
       have hl : labs ns = [(⟨#[115, 101, 118]⟩, ⟨#[97]⟩)] := by unfold labs; rw [if_pos (by simpa using h0)]
       have p1 : (0 + 1 ≤ 2 ^ 32) = True := by simp
       have p2 : (1 ≤ 2 ^ 32) = True := by simp
       rw [h00] at h0' ⊢
       rw [hl] at hset hb2
       have z0 : (((0 : Nat) : Int) == 0) = true := rfl
       simp -implicitDefEqProofs only [go_sem, z0, h0', g0, s0, lvs_len, p1, p2, lvs_nil]
       refine CO.intro' hset rfl rfl ?_
       unfold setV at hb2 ⊢
       rw [hl]
       cases hs : isSetL (setL [(⟨#[115, 101, 118]⟩, ⟨#[97]⟩)])
       all_goals rw [hs] at hb2
       all_goals simp -implicitDefEqProofs only [go_sem]
       all_goals exact Fini.trim2 (σ' := σ) (ex := [.dead]) rfl rfl (Nat.le_refl _) hb2 hbel
   · rw [hx5] at hx ⊢
     simp -implicitDefEqProofs only [mkE, go_sem, hmap, nat_lt hx, dec_lt hx, d55]
     cases h0 : ((labs0 ns).length == 0)
     · have h0' : ((((labs0 ns).length : Nat) : Int) == 0) = false := by rw [← h0]; exact beq_cast0 _
       have hl : labs ns = labs0 ns := by unfold labs; rw [if_neg (by simpa using h0)]
       rw [hl] at hset hb2
       simp -implicitDefEqProofs only [go_sem, h0', g0, s0, lvs_len]
       refine CO.intro hset ?_
       unfold setV at hb2 ⊢
       rw [hl]
       cases hs : isSetL (setL (labs0 ns))
       all_goals rw [hs] at hb2
       all_goals simp -implicitDefEqProofs only [go_sem]
       all_goals exact Fini.trim2 (σ' := σ) (ex := [.dead]) rfl rfl (Nat.le_refl _) hb2 hbel
     · have h0' : ((((labs0 ns).length : Nat) : Int) == 0) = true := by rw [← h0]; exact beq_cast0 _
       have h00 : labs0 ns = [] := by simpa using h0
       have hl : labs ns = [(⟨#[115, 101, 118]⟩, ⟨#[97]⟩)] := by unfold labs; rw [if_pos (by simpa using h0)]
       have p1 : (0 + 1 ≤ 2 ^ 32) = True := by simp
       have p2 : (1 ≤ 2 ^ 32) = True := by simp
       rw [h00] at h0' ⊢
       rw [hl] at hset hb2
       have z0 : (((0 : Nat) : Int) == 0) = true := rfl
       simp -implicitDefEqProofs only [go_sem, z0, h0', g0, s0, lvs_len, p1, p2, lvs_nil]
       refine CO.intro' hset rfl rfl ?_
       unfold setV at hb2 ⊢
       rw [hl]
       cases hs : isSetL (setL [(⟨#[115, 101, 118]⟩, ⟨#[97]⟩)])
       all_goals rw [hs] at hb2
       all_goals simp -implicitDefEqProofs only [go_sem]
       all_goals exact Fini.trim2 (σ' := σ) (ex := [.dead]) rfl rfl (Nat.le_refl _) hb2 hbel
end
end Go.Proofs.YtoadgajhkhejiaaGreat
namespace Go.Proofs.YtoadgajhkhejiaaGreat
open Go Go.Ab
set_option maxRecDepth 100000
abbrev U (n : Int) : AV := .pl (.int .u64 n)
inductive Rex where
 | mk (op a b c d : Int) (ks : List Rex)
namespace Rex
def op : Rex → Int | .mk op _ _ _ _ _ => op
def a : Rex → Int | .mk _ a _ _ _ _ => a
def b : Rex → Int | .mk _ _ b _ _ _ => b
def c : Rex → Int | .mk _ _ _ c _ _ => c
def d : Rex → Int | .mk _ _ _ _ d _ => d
def ks : Rex → List Rex | .mk _ _ _ _ _ ks => ks
mutual
def av : Rex → AV
 | .mk op a b c d ks => .agg [I op, U a, U b, U c, U d, .sl 6 (avL ks)]
def avL : List Rex → List AV
 | [] => []
 | x :: xs => av x :: avL xs
end
theorem avL_eq : ∀ l : List Rex, avL l = l.map av
 | [] => rfl
 | x :: xs => by rw [avL, avL_eq xs]; rfl
theorem av_eq (x : Rex) : x.av = .agg [I x.op, U x.a, U x.b, U x.c, U x.d, .sl 6 (x.ks.map av)] := by
 cases x; simp only [av, op, a, b, c, d, ks, avL_eq]
theorem lt_of_mem {x y : Rex} (h : y ∈ x.ks) : SizeOf.sizeOf y < SizeOf.sizeOf x := by
 cases x
 have := List.sizeOf_lt_of_mem h
 simp only [ks] at this
 simp
 omega
mutual
def nodes : Rex → Nat
 | .mk _ _ _ _ _ ks => 1 + nodesL ks
def nodesL : List Rex → Nat
 | [] => 0
 | x :: xs => nodes x + nodesL xs
end
theorem nodes_eq (x : Rex) : x.nodes = 1 + nodesL x.ks := by cases x; rfl
mutual
def cut : Rex → Int → Int
 | .mk _ _ _ _ _ ks, most => cutL ks most 1
def cutL : List Rex → Int → Int → Int
 | [], _, n => n
 | x :: xs, most, n => if n ≤ most then cutL xs most (n + cut x (most - n)) else n
end
def run (ks : List Rex) (most : Int) : Nat → Int
 | 0 => 1
 | i + 1 => match ks[i]? with
   | some x => run ks most i + x.cut (most - run ks most i)
   | none => run ks most i
end Rex
open Rex
section
variable (σ : St)
end
end Go.Proofs.YtoadgajhkhejiaaGreat
namespace Go.Proofs.YtoadgajhkhejiaaGreat
open Go Go.Ab
set_option maxRecDepth 100000
namespace Rex
mutual
def size : Rex → Int
 | .mk op _ _ _ _ ks => if op == 1 then 1 else if op == 3 then sizeL ks + 2 * ((ks.length : Int) - 1) else if op == 4 then sizeL ks + 2 else if op == 5 then sizeL ks + 1 else if op == 6 then sizeL ks + 1 else sizeL ks
def sizeL : List Rex → Int
 | [] => 0
 | x :: xs => size x + sizeL xs
end
theorem size_eq (x : Rex) : x.size = if x.op == 1 then 1 else if x.op == 3 then sizeL x.ks + 2 * ((x.ks.length : Int) - 1) else if x.op == 4 then sizeL x.ks + 2 else if x.op == 5 then sizeL x.ks + 1 else if x.op == 6 then sizeL x.ks + 1 else sizeL x.ks := by
 cases x; rfl
theorem len_nodes : ∀ l : List Rex, l.length ≤ nodesL l
 | [] => by simp
 | x :: xs => by
   have := len_nodes xs
   have := nodes_eq x
   simp only [List.length_cons, nodesL]; omega
mutual
theorem size_le : ∀ x : Rex, -(2 * (x.nodes : Int)) ≤ x.size ∧ x.size ≤ 5 * x.nodes - 2
 | .mk op _ _ _ _ ks => by
   have h := sizeL_le ks
   have hl := len_nodes ks
   rw [size, nodes]
   (repeat' split) <;> omega
theorem sizeL_le : ∀ l : List Rex, -(2 * (nodesL l : Int)) ≤ sizeL l ∧ sizeL l + 2 * l.length ≤ 5 * nodesL l
 | [] => by simp [sizeL, nodesL]
 | x :: xs => by
   have h1 := size_le x
   have h2 := sizeL_le xs
   simp only [sizeL, nodesL, List.length_cons]
   omega
end
theorem nodesL_take : ∀ (l : List Rex) (i : Nat), nodesL (l.take i) ≤ nodesL l
 | [], i => by simp [nodesL]
 | x :: xs, 0 => by simp [nodesL]
 | x :: xs, i + 1 => by
   have := nodesL_take xs i
   simp only [List.take_succ_cons, nodesL]; omega
theorem nodes_get : ∀ (l : List Rex) (i : Nat) (hi : i < l.length), (l[i]).nodes ≤ nodesL l
 | x :: xs, 0, _ => by simp [nodesL]
 | x :: xs, i + 1, hi => by
   have := nodes_get xs i (by simpa using hi)
   simp only [List.getElem_cons_succ, nodesL]; omega
theorem sizeL_append : ∀ (l m : List Rex), sizeL (l ++ m) = sizeL l + sizeL m
 | [], m => by simp [sizeL]
 | x :: xs, m => by simp only [List.cons_append, sizeL, sizeL_append xs m]; omega
theorem sizeL_take (l : List Rex) (i : Nat) (hi : i < l.length) : sizeL (l.take (i + 1)) = sizeL (l.take i) + (l[i]).size := by
 rw [List.take_succ_eq_append_getElem hi, sizeL_append]
 simp [sizeL]
def plain (x : Rex) : Bool := x.a == 0 && (x.b == 0 && (x.c == 0 && (x.d == 0 && true)))
mutual
def is : Rex → Bool
 | .mk op a b c d ks =>
   let rest := plain (.mk op a b c d ks) && !notL ks
   if op == 1 then (ks.length : Int) == 0 else if op == 2 then rest
   else if op == 3 then (if (ks.length : Int) == 0 then false else rest)
   else if op == 4 then (if (ks.length : Int) != 1 then false else rest)
   else if op == 5 then (if (ks.length : Int) != 1 then false else rest)
   else if op == 6 then (if (ks.length : Int) != 1 then false else rest)
   else false
def notL : List Rex → Bool
 | [] => false
 | x :: xs => !is x || notL xs
end
theorem notL_eq : ∀ l : List Rex, notL l = l.any fun k => !k.is
 | [] => rfl
 | x :: xs => by rw [notL, notL_eq xs]; rfl
theorem is_eq (x : Rex) : x.is = (if x.op == 1 then (x.ks.length : Int) == 0 else if x.op == 2 then plain x && !(x.ks.any fun k => !k.is)
  else if x.op == 3 then (if (x.ks.length : Int) == 0 then false else plain x && !(x.ks.any fun k => !k.is))
  else if x.op == 4 then (if (x.ks.length : Int) != 1 then false else plain x && !(x.ks.any fun k => !k.is))
  else if x.op == 5 then (if (x.ks.length : Int) != 1 then false else plain x && !(x.ks.any fun k => !k.is))
  else if x.op == 6 then (if (x.ks.length : Int) != 1 then false else plain x && !(x.ks.any fun k => !k.is))
  else false) := by
 cases x; simp only [is, notL_eq]; rfl
end Rex
open Rex
def idxF {α : Type} (p : α → Bool) (ys : List α) : Int := match ys.findIdx? p with | some i => i | none => -1
section
variable (σ : St)
theorem size_ans (x : Rex) (hn : x.nodes ≤ 1000) : Ans Tryz.prog 114 [x.av] σ (I x.size) σ := by
 rw [av_eq]
 refine Ans.of_run t114 ?_
 simp -implicitDefEqProofs only [c114, r114, go_sem, List.length_map]
 have hget : ∀ i (hi : i < x.ks.length), (x.ks.map av)[i]? = some (x.ks[i]).av := fun i hi => by simp [hi]
 have hk := nodes_eq x
 refine L.count x.ks.length (fun i => mkE 41 [(1, .rp [I x.op, U x.a, U x.b, U x.c, U x.d, .sl 6 (x.ks.map av)]), (3, I (sizeL (x.ks.take i))), (7, .sl 6 (x.ks.map av)), (8, I x.ks.length), (9, I i)]) (fun _ => σ) ?_ ?_ ?_ rfl
 · intro i hi J hJ
   have e1 : ((i : Int) < (x.ks.length : Nat)) = True := by simp; omega
   have e2 : IntKind.i64.wrap ((i : Int) + 1) = ((i + 1 : Nat) : Int) := by
    have := len_nodes x.ks
    rw [wrapN (by omega) (by omega)]; rfl
   have hni := nodes_get x.ks i hi
   simp -implicitDefEqProofs only [mkE, go_sem, e1, hget i hi]
   rw [av_eq]
   simp -implicitDefEqProofs only [go_sem]
   rw [← av_eq]
   refine CO.intro (size_ans x.ks[i] (by omega)) ?_
   have e3 : IntKind.i64.wrap (sizeL (x.ks.take i) + x.ks[i].size) = sizeL (x.ks.take (i + 1)) := by
    have h1 := sizeL_le (x.ks.take i)
    have h2 := size_le x.ks[i]
    have h3 := nodesL_take x.ks i
    rw [wrapN (by omega) (by omega), sizeL_take _ _ hi]
   simp -implicitDefEqProofs only [go_sem, e2, e3]
   exact hJ
 · intro J
   have e1 : (((x.ks.length : Nat) : Int) < (x.ks.length : Nat)) = False := by simp
   have h1 := sizeL_le x.ks
   have h2 := len_nodes x.ks
   have e2 : IntKind.i64.wrap (sizeL x.ks + 2) = sizeL x.ks + 2 := wrapN (by omega) (by omega)
   have e3 : IntKind.i64.wrap (sizeL x.ks + 1) = sizeL x.ks + 1 := wrapN (by omega) (by omega)
   have e4 : IntKind.i64.wrap ((x.ks.length : Int) - 1) = (x.ks.length : Int) - 1 := wrapN (by omega) (by omega)
   have e5 : IntKind.i64.wrap (2 * ((x.ks.length : Int) - 1)) = 2 * ((x.ks.length : Int) - 1) := wrapN (by omega) (by omega)
   have e6 : IntKind.i64.wrap (sizeL x.ks + 2 * ((x.ks.length : Int) - 1)) = sizeL x.ks + 2 * ((x.ks.length : Int) - 1) := wrapN (by omega) (by omega)
   simp -implicitDefEqProofs only [mkE, go_sem, e1, List.take_length]
   repeat' (refine C.split (fun hb => ?_) (fun hb => ?_) <;> simp -implicitDefEqProofs only [hb, go_sem, List.length_map, e2, e3, e4, e5, e6, List.take_length])
   all_goals (refine Fini.ret' rfl (int_congr ?_); rw [size_eq]; simp [*])
 · rfl
termination_by SizeOf.sizeOf x
decreasing_by exact lt_of_mem (List.getElem_mem _)
theorem index_ans (ys : List Rex) (g : FuncId) (fs cs : List AV) (p : Rex → Bool) (h : ∀ s ∈ ys, Ans Tryz.prog g (fs ++ [s.av] ++ cs) σ (Bo (p s)) σ) (hl : ys.length ≤ 1000) :
  Ans Tryz.prog 136 [.sl 6 (ys.map av), .fn g fs cs] σ (I (idxF p ys)) σ := by
 refine Ans.of_run t136 ?_
 simp -implicitDefEqProofs only [c136, r136, go_sem, List.length_map]
 have hget : ∀ i (hi : i < ys.length), (ys.map av)[i]? = some (ys[i]).av := fun i hi => by simp [hi]
 refine L.scan ys.length (fun i => match ys[i]? with | some y => !p y | none => true) (fun i => mkE 19 [(0, .sl 6 (ys.map av)), (1, .fn g fs cs), (7, I ys.length), (8, I i)]) (fun _ => σ) ?_ ?_ rfl rfl
 · intro i hi hok J hJ
   have e1 : ((i : Int) < (ys.length : Nat)) = True := by simp; omega
   have e2 : IntKind.i64.wrap ((i : Int) + 1) = ((i + 1 : Nat) : Int) := by rw [wrapN (by omega) (by omega)]; rfl
   have e5 : ys[i]? = some ys[i] := List.getElem?_eq_getElem hi
   have h1 := h ys[i] (List.getElem_mem hi)
   simp -implicitDefEqProofs only [mkE, go_sem, e1, hget i hi]
   rw [av_eq] at h1 ⊢
   simp -implicitDefEqProofs only [go_sem]
   refine CO.intro h1 ?_
   simp -implicitDefEqProofs only [go_sem]
   refine C.split (fun hb => ?_) (fun hb => ?_) <;> simp -implicitDefEqProofs only [hb, go_sem, e2]
   · refine Fini.ret' rfl (int_congr ?_)
     have : ys.findIdx? p = some i := by
      rw [List.findIdx?_eq_some_iff_getElem]
      refine ⟨hi, hb, fun j hj => ?_⟩
      have := hok j hj
      rw [List.getElem?_eq_getElem (by omega)] at this
      simpa using this
     simp [idxF, this]
   · exact hJ (by rw [e5]; simp [hb])
 · intro hok J
   have e1 : (((ys.length : Nat) : Int) < (ys.length : Nat)) = False := by simp
   simp -implicitDefEqProofs only [mkE, go_sem, e1]
   refine Fini.ret' rfl (int_congr ?_)
   have : ys.findIdx? p = none := by
    rw [List.findIdx?_eq_none_iff]
    intro y hy
    obtain ⟨j, hj, rfl⟩ := List.getElem_of_mem hy
    have := hok j hj
    rw [List.getElem?_eq_getElem hj] at this
    simpa using this
   simp [idxF, this]
theorem contains_ans (ys : List Rex) (g : FuncId) (fs cs : List AV) (p : Rex → Bool) (h : ∀ s ∈ ys, Ans Tryz.prog g (fs ++ [s.av] ++ cs) σ (Bo (p s)) σ) (hl : ys.length ≤ 1000) :
  Ans Tryz.prog 123 [.sl 6 (ys.map av), .fn g fs cs] σ (Bo (ys.any p)) σ := by
 refine Ans.of_run t123 ?_
 simp -implicitDefEqProofs only [c123, r123, go_sem]
 refine CO.intro (index_ans σ ys g fs cs p h hl) ?_
 simp -implicitDefEqProofs only [go_sem]
 have : decide (0 ≤ idxF p ys) = ys.any p := by
  unfold idxF
  cases hf : ys.findIdx? p with
  | none =>
    have := List.findIdx?_eq_none_iff.1 hf
    simp; intro x hx; simpa using this x hx
  | some k =>
    obtain ⟨hk, hp, hq⟩ := List.findIdx?_eq_some_iff_getElem.1 hf
    simp; exact ⟨ys[k], List.getElem_mem hk, hp⟩
 exact Fini.ret' rfl (bo_congr this)
theorem is_ans (x : Rex) (hn : x.nodes ≤ 1000) : Ans Tryz.prog 113 [x.av] σ (Bo x.is) σ := by
 have hk := nodes_eq x
 have hl := len_nodes x.ks
 have hc : Ans Tryz.prog 123 [.sl 6 (x.ks.map av), .fn 124 [] []] σ (Bo (x.ks.any fun k => !k.is)) σ := by
  refine contains_ans σ x.ks 124 [] [] _ (fun s hs => ?_) (by omega)
  obtain ⟨i, hi, rfl⟩ := List.getElem_of_mem hs
  have hni := nodes_get x.ks i hi
  show Ans Tryz.prog 124 [(x.ks[i]).av] σ (Bo (!(x.ks[i]).is)) σ
  have h1 := is_ans x.ks[i] (by omega)
  rw [av_eq] at h1 ⊢
  refine Ans.of_run t124 ?_
  simp -implicitDefEqProofs only [c124, r124, go_sem]
  refine CO.intro h1 ?_
  simp -implicitDefEqProofs only [go_sem]
  exact Fini.ret rfl
 rw [av_eq]
 refine Ans.of_run t113 ?_
 simp -implicitDefEqProofs only [c113, r113, go_sem, List.length_map]
 repeat' (first | (refine CO.intro hc ?_; simp -implicitDefEqProofs only [go_sem, Bool.true_xor]) | (refine C.split (fun hb => ?_) (fun hb => ?_) <;> simp -implicitDefEqProofs only [hb, go_sem, List.length_map, Bool.true_xor]) | (refine OG.split (fun hb => ?_) (fun hb => ?_) <;> simp -implicitDefEqProofs only [hb, go_sem, List.length_map, Bool.true_xor]))
 all_goals (refine Fini.ret' rfl (bo_congr ?_); rw [is_eq]; simp [plain, *])
termination_by SizeOf.sizeOf x
decreasing_by exact lt_of_mem (List.getElem_mem _)
def full (x : Rex) : Int := if !x.is then 0 else x.size + 1
theorem Size_ans (x : Rex) (hn : x.nodes ≤ 1000) : Ans Tryz.prog 102 [x.av] σ (I (full x)) σ := by
 have h1 := is_ans σ x hn
 have h2 := size_ans σ x hn
 have hs := size_le x
 have e1 : IntKind.i64.wrap (x.size + 1) = x.size + 1 := wrapN (by omega) (by omega)
 rw [av_eq] at h1 h2 ⊢
 refine Ans.of_run t102 ?_
 simp -implicitDefEqProofs only [c102, r102, go_sem]
 refine CO.intro h1 ?_
 simp -implicitDefEqProofs only [go_sem]
 refine C.splitN (fun hb => ?_) (fun hb => ?_) <;> simp -implicitDefEqProofs only [go_sem]
 · refine CO.intro h2 ?_
   simp -implicitDefEqProofs only [go_sem, e1]
   refine Fini.ret' rfl (int_congr ?_)
   simp [full, hb]
 · refine Fini.ret' rfl (int_congr ?_)
   simp [full, hb]
end
end Go.Proofs.YtoadgajhkhejiaaGreat
namespace Go.Proofs.YtoadgajhkhejiaaGreat
open Go Go.Ab
set_option maxRecDepth 100000
structure Stp where
 op : Int
 a : Int
 b : Int
 c : Int
 d : Int
 x : Int
 y : Int
def Stp.av (s : Stp) : AV := .agg [I s.op, U s.a, U s.b, U s.c, U s.d, I s.x, I s.y]
def inR (n at_ : Int) : Bool := decide (0 ≤ at_) && decide (at_ < n)
def Stp.none (s : Stp) : Bool := s.a == 0 && (s.b == 0 && (s.c == 0 && (s.d == 0 && true)))
def rightS (s : Stp) (n : Int) (last : Bool) : Bool :=
 if (s.op != 1) && !s.none then false
 else if s.op == 1 then (s.x == 0 && s.y == 0) && !last
 else if s.op == 2 then inR n s.x && inR n s.y
 else if s.op == 3 then inR n s.x && s.y == 0
 else (s.op == 4 && s.x == 0) && s.y == 0
section
variable (σ : St)
theorem in_ans (n at_ : Int) : Ans Tryz.prog 117 [I at_, .rp [I n]] σ (Bo (inR n at_)) σ := by
 refine Ans.of_run t117 ?_
 simp -implicitDefEqProofs only [c117, r117, go_sem]
 repeat' (first | (refine C.split (fun hb => ?_) (fun hb => ?_) <;> simp -implicitDefEqProofs only [hb, go_sem]) | (refine OG.split (fun hb => ?_) (fun hb => ?_) <;> simp -implicitDefEqProofs only [hb, go_sem]) | (refine DG.split (fun hb => ?_) (fun hb => ?_) <;> simp -implicitDefEqProofs only [hb, go_sem]))
 all_goals (refine Fini.ret' rfl (bo_congr ?_); simp [inR, *])
theorem right_ans (s : Stp) (n : Int) (last : Bool) : Ans Tryz.prog 106 [s.av, I n, Bo last] σ (Bo (rightS s n last)) σ := by
 refine Ans.of_run t106 ?_
 simp -implicitDefEqProofs only [c106, r106, Stp.av, go_sem, Bool.true_xor]
 repeat' (first | (refine CO.intro (in_ans _ _ _) ?_; simp -implicitDefEqProofs only [go_sem]) | (refine C.split (fun hb => ?_) (fun hb => ?_) <;> simp -implicitDefEqProofs only [hb, go_sem, Bool.true_xor]) | (refine OG.split (fun hb => ?_) (fun hb => ?_) <;> simp -implicitDefEqProofs only [hb, go_sem, Bool.true_xor]))
 all_goals (refine Fini.ret' rfl (bo_congr ?_); simp [rightS, Stp.none, *])
theorem right1_ans (xs : AV) (ys : List Stp) (hx : xs = .sl 7 (ys.map Stp.av)) (s : Stp) : Ans Tryz.prog 105 [s.av, .rp [xs]] σ (Bo (!rightS s ys.length false)) σ := by
 subst hx
 refine Ans.of_run t105 ?_
 simp -implicitDefEqProofs only [c105, r105, Stp.av, go_sem, List.length_map]
 refine CO.intro (right_ans _ s _ _) ?_
 simp -implicitDefEqProofs only [go_sem]
 exact Fini.ret rfl
theorem sindex_ans (ys : List Stp) (g : FuncId) (fs cs : List AV) (p : Stp → Bool) (h : ∀ s, Ans Tryz.prog g (fs ++ [s.av] ++ cs) σ (Bo (p s)) σ) (hl : ys.length ≤ 1000) :
  Ans Tryz.prog 116 [.sl 7 (ys.map Stp.av), .fn g fs cs] σ (I (idxF p ys)) σ := by
 have h1 : ∀ s, Ans Tryz.prog g (fs ++ [s.av] ++ cs) σ (Bo (p s)) σ := h
 simp only [Stp.av] at h1
 refine Ans.of_run t116 ?_
 simp -implicitDefEqProofs only [c116, r116, go_sem, List.length_map]
 have hget : ∀ i (hi : i < ys.length), (ys.map Stp.av)[i]? = some (ys[i]).av := fun i hi => by simp [hi]
 cases hf : ys.findIdx? p with
 | none =>
   refine L.count ys.length (fun i => mkE 19 [(0, .sl 7 (ys.map Stp.av)), (1, .fn g fs cs), (7, I ys.length), (8, I i)]) (fun _ => σ) ?_ ?_ rfl rfl
   · intro i hi J hJ
     have e1 : ((i : Int) < ys.length) = True := by simp; omega
     have e2 : IntKind.i64.wrap ((i : Int) + 1) = ((i + 1 : Nat) : Int) := by rw [wrapN (by omega) (by omega)]; rfl
     have e3 : p ys[i] = false := by
      have := List.findIdx?_eq_none_iff.1 hf (ys[i]) (List.getElem_mem hi)
      simpa using this
     simp -implicitDefEqProofs only [mkE, go_sem, e1, hget i hi, Stp.av]
     refine CO.intro (h1 _) ?_
     simp -implicitDefEqProofs only [go_sem, e2, e3]
     exact hJ
   · intro J
     have e1 : ((ys.length : Int) < ys.length) = False := by simp
     simp -implicitDefEqProofs only [mkE, go_sem, e1]
     refine Fini.ret' rfl (int_congr ?_)
     simp [idxF, hf]
 | some k =>
   obtain ⟨hk, hp, hq⟩ := List.findIdx?_eq_some_iff_getElem.1 hf
   refine L.count k (fun i => mkE 19 [(0, .sl 7 (ys.map Stp.av)), (1, .fn g fs cs), (7, I ys.length), (8, I i)]) (fun _ => σ) ?_ ?_ rfl rfl
   · intro i hi J hJ
     have e1 : ((i : Int) < ys.length) = True := by simp; omega
     have e2 : IntKind.i64.wrap ((i : Int) + 1) = ((i + 1 : Nat) : Int) := by rw [wrapN (by omega) (by omega)]; rfl
     have e3 : p (ys[i]'(by omega)) = false := by simpa using hq i hi
     simp -implicitDefEqProofs only [mkE, go_sem, e1, hget i (by omega), Stp.av]
     refine CO.intro (h1 _) ?_
     simp -implicitDefEqProofs only [go_sem, e2, e3]
     exact hJ
   · intro J
     have e1 : ((k : Int) < ys.length) = True := by simp; omega
     simp -implicitDefEqProofs only [mkE, go_sem, e1, hget k hk, Stp.av]
     refine CO.intro (h1 _) ?_
     simp -implicitDefEqProofs only [go_sem, hp]
     refine Fini.ret' rfl (int_congr ?_)
     simp [idxF, hf]
theorem scontains_ans (ys : List Stp) (g : FuncId) (fs cs : List AV) (p : Stp → Bool) (h : ∀ s, Ans Tryz.prog g (fs ++ [s.av] ++ cs) σ (Bo (p s)) σ) (hl : ys.length ≤ 1000) :
  Ans Tryz.prog 104 [.sl 7 (ys.map Stp.av), .fn g fs cs] σ (Bo (ys.any p)) σ := by
 refine Ans.of_run t104 ?_
 simp -implicitDefEqProofs only [c104, r104, go_sem]
 refine CO.intro (sindex_ans σ ys g fs cs p h hl) ?_
 simp -implicitDefEqProofs only [go_sem]
 have : decide (0 ≤ idxF p ys) = ys.any p := by
  unfold idxF
  cases hf : ys.findIdx? p with
  | none => 
    have := List.findIdx?_eq_none_iff.1 hf
    simp; intro x hx; simpa using this x hx
  | some k =>
    obtain ⟨hk, hp, hq⟩ := List.findIdx?_eq_some_iff_getElem.1 hf
    simp; exact ⟨ys[k], List.getElem_mem hk, hp⟩
 exact Fini.ret' rfl (bo_congr this)
def Lst (ys : List Stp) (x : AV) : Prop := (x = .nils ∧ ys = []) ∨ x = .sl 7 (ys.map Stp.av)
def pcheck (ys : List Stp) : Bool :=
 if decide ((ys.length : Int) < 1) then false else if decide ((40 : Int) < ys.length) then false
 else !((ys.take (ys.length - 1)).any fun s => !rightS s ys.length false) && (match ys[ys.length - 1]? with | some s => rightS s ys.length true | none => false)
theorem check_ans (ys : List Stp) (x : AV) (hx : Lst ys x) : Ans Tryz.prog 93 [x] σ (Bo (pcheck ys)) σ := by
 rcases hx with ⟨rfl, rfl⟩ | rfl
 · refine Ans.of_run t93 ?_
   simp -implicitDefEqProofs only [c93, r93, go_sem]
   exact Fini.ret rfl
 · refine Ans.of_run t93 ?_
   simp -implicitDefEqProofs only [c93, r93, go_sem, List.length_map]
   refine OG.splitN (fun hb => ?_) (fun hb => ?_) <;> simp -implicitDefEqProofs only [hb, go_sem, List.length_map]
   · refine Fini.ret' rfl (bo_congr ?_)
     simp [pcheck, hb]
   refine C.split (fun hc => ?_) (fun hc => ?_) <;> simp -implicitDefEqProofs only [hc, go_sem, List.length_map]
   · refine Fini.ret' rfl (bo_congr ?_)
     simp [pcheck, hb, hc]
   have hb' : 1 ≤ ys.length := by simp at hb; omega
   have hc' : ys.length ≤ 40 := by simp at hc; omega
   have e1 : IntKind.i64.wrap ((ys.length : Int) - 1) = ((ys.length - 1 : Nat) : Int) := by rw [wrapN (by omega) (by omega)]; omega
   have e2 : (0 : Int) ≤ ((ys.length - 1 : Nat) : Int) := by omega
   have e3 : ((ys.length - 1 : Nat) : Int) ≤ ys.length := by omega
   have e4 : (ys.map Stp.av)[ys.length - 1]? = some (ys[ys.length - 1]'(by omega)).av := by rw [List.getElem?_map, List.getElem?_eq_getElem (by omega)]; rfl
   have e5 : ys[ys.length - 1]? = some (ys[ys.length - 1]'(by omega)) := List.getElem?_eq_getElem (by omega)
   simp -implicitDefEqProofs only [e1, e2, e3, e4, go_sem, List.length_map]
   rw [← List.map_take]
   refine CD.intro (scontains_ans σ (ys.take (ys.length - 1)) 105 [] _ (fun s => !rightS s ys.length false) (fun s => right1_ans σ _ ys rfl s) (by simp; omega)) ?_
   simp -implicitDefEqProofs only [e1, e2, e3, e4, go_sem, List.length_map]
   refine DG.split (fun hd => ?_) (fun hd => ?_) <;> simp -implicitDefEqProofs only [hd, e1, e2, e3, e4, go_sem, List.length_map, Stp.av]
   · refine CD.intro (right_ans σ (ys[ys.length - 1]'(by omega)) _ _) ?_
     simp -implicitDefEqProofs only [go_sem]
     refine Fini.ret' rfl (bo_congr ?_)
     rw [pcheck, hb, hc, hd, e5]
     simp
   · refine Fini.ret' rfl (bo_congr ?_)
     rw [pcheck, hb, hc, hd]
     simp
end
end Go.Proofs.YtoadgajhkhejiaaGreat
