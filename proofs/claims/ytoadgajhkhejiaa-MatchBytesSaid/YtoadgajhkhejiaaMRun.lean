/- What the functions do, over abstract values: printed by a program, checked by the kernel. No condition. -/
import Derived.Test.YtoadgajhkhejiaaProg
import Derived.Test.YtoadgajhkhejiaaMCod
import Derived.Test.YtoadgajhkhejiaaMCode1
import Derived.Laws.Externs
set_option linter.unusedSimpArgs false
set_option linter.unusedVariables false
namespace Go.Proofs.Ytoadgajhkhejiaa
open Go Go.Ab
set_option maxRecDepth 100000
def c146 : ACode :=
 (.seq (.ops [⟨some 2, none, .prim (.allocm [.pl (.int .u64 0), .pl (.int .u64 0), .pl (.int .u64 0), .pl (.int .u64 0)])⟩])
 (.seq (.ops [⟨some 3, none, .prim (.allocm [.pl (.int .u64 0), .pl (.int .u64 0), .pl (.int .u64 0), .pl (.int .u64 0)])⟩])
 (.seq (.ops [⟨some 9, none, .prim (.mov (.tmp 0))⟩,
 ⟨some 10, none, .call (.func 118) [(.tmp 9), (.const (.int .u8 94))]⟩,
 ⟨some 4, none, .prim (.mov (.tmp 10))⟩])
 (.seq (.seq (.ops [⟨some 5, none, .prim (.mov (.const (.bool true)))⟩])
 (.block 0 (.loop [1, 6, 7, 8, 9, 10, 11, 12, 13, 14, 15, 16, 17, 18, 19, 20, 21, 22, 23, 24, 25, 26, 27, 28, 29, 30, 31, 32, 33, 34, 35, 36, 37, 38, 39, 40, 41, 42, 43, 44, 45, 46, 47, 48, 49, 50, 51, 52, 53, 54, 55, 56, 57, 58, 59, 60, 61, 62, 63, 64, 65, 66, 67] (.seq (.seq (.ops [⟨some 11, none, .prim (.mov (.tmp 5))⟩,
 ⟨some 12, none, .prim (.mov (.tmp 11))⟩,
 ⟨some 13, (some (12, false)), .prim (.mov (.tmp 0))⟩,
 ⟨some 14, (some (12, false)), .call (.func 132) [(.tmp 13)]⟩,
 ⟨some 15, (some (12, false)), .prim (.un .not (.tmp 14))⟩,
 ⟨some 16, (some (12, false)), .prim (.mov (.tmp 15))⟩,
 ⟨some 17, (some (16, true)), .prim (.mov (.tmp 0))⟩,
 ⟨some 18, (some (16, true)), .call (.func 133) [(.tmp 17), (.const (.int .u8 93))]⟩,
 ⟨some 19, (some (16, true)), .prim (.un .not (.tmp 18))⟩,
 ⟨some 20, (some (12, false)), .prim (.pick (.tmp 16) (.tmp 19) (.const (.bool false)))⟩,
 ⟨some 21, none, .prim (.pick (.tmp 12) (.const (.bool true)) (.tmp 20))⟩])
 (.cond (.tmp 21)
 .skip
 (.exit 0)))
 (.seq (.block 1 (.seq (.ops [⟨some 22, none, .prim (.mov (.tmp 0))⟩,
 ⟨some 23, none, .call (.func 156) [(.tmp 22)]⟩,
 ⟨some 6, none, .prim (.mov (.tmp 23))⟩])
 (.seq (.ops [⟨some 24, none, .prim (.mov (.tmp 6))⟩,
 ⟨some 7, none, .prim (.mov (.tmp 24))⟩])
 (.seq (.seq (.ops [⟨some 25, none, .prim (.mov (.tmp 0))⟩,
 ⟨some 26, none, .call (.func 118) [(.tmp 25), (.const (.int .u8 45))]⟩])
 (.cond (.tmp 26)
 (.ops [⟨some 27, none, .prim (.mov (.tmp 0))⟩,
 ⟨some 28, none, .call (.func 156) [(.tmp 27)]⟩,
 ⟨some 7, none, .prim (.mov (.tmp 28))⟩])
 .skip))
 (.seq (.ops [⟨some 29, none, .prim (.mov (.tmp 0))⟩,
 ⟨some 30, none, .prim (.mov (.tmp 0))⟩,
 ⟨some 31, none, .prim (.nilc (.tmp 30))⟩,
 ⟨some 32, none, .prim (.fadr 2 (.tmp 31))⟩,
 ⟨some 33, none, .prim (.load 1 false (.tmp 32))⟩,
 ⟨some 34, none, .prim (.mov (.tmp 33))⟩,
 ⟨some 35, (some (34, false)), .prim (.mov (.tmp 7))⟩,
 ⟨some 36, (some (34, false)), .prim (.mov (.tmp 6))⟩,
 ⟨some 37, (some (34, false)), .prim (.bin false .lss (.tmp 35) (.tmp 36))⟩,
 ⟨some 38, none, .prim (.pick (.tmp 34) (.const (.bool true)) (.tmp 37))⟩,
 ⟨some 39, none, .prim (.nilc (.tmp 29))⟩,
 ⟨some 40, none, .prim (.fadr 2 (.tmp 39))⟩,
 ⟨none, none, .prim (.store 1 (.tmp 40) (.tmp 38))⟩])
 (.seq (.ops [⟨some 41, none, .prim (.mov (.tmp 6))⟩,
 ⟨some 42, none, .prim (.convi .i64 (.tmp 41))⟩,
 ⟨some 8, none, .prim (.mov (.tmp 42))⟩])
 (.block 2 (.loop [1, 5, 6, 9, 10, 11, 12, 13, 14, 15, 16, 17, 18, 19, 20, 21, 22, 23, 24, 25, 26, 27, 28, 29, 30, 31, 32, 33, 34, 35, 36, 37, 38, 39, 40, 41, 42, 43, 44, 45, 46, 47, 48, 49, 50, 51, 52, 53, 54, 55, 56, 57, 58, 59, 60, 61, 62, 63, 64, 65, 66, 67] (.seq (.seq (.ops [⟨some 43, none, .prim (.mov (.tmp 8))⟩,
 ⟨some 44, none, .prim (.mov (.tmp 7))⟩,
 ⟨some 45, none, .prim (.convi .i64 (.tmp 44))⟩,
 ⟨some 46, none, .prim (.bin false .leq (.tmp 43) (.tmp 45))⟩])
 (.cond (.tmp 46)
 .skip
 (.exit 2)))
 (.seq (.block 3 (.ops [⟨some 49, none, .prim (.mov (.tmp 8))⟩,
 ⟨some 50, none, .prim (.convi .u8 (.tmp 49))⟩,
 ⟨some 51, none, .call (.func 148) [(.tmp 3), (.tmp 50)]⟩]))
 (.ops [⟨some 47, none, .prim (.mov (.tmp 8))⟩,
 ⟨some 48, none, .prim (.bin false .add (.tmp 47) (.const (.int .i64 1)))⟩,
 ⟨some 8, none, .prim (.mov (.tmp 48))⟩])))))))))))
 (.ops [⟨some 5, none, .prim (.mov (.const (.bool false)))⟩]))))))
 (.seq (.ops [⟨some 52, none, .prim (.mov (.tmp 0))⟩,
 ⟨some 53, none, .prim (.mov (.tmp 0))⟩,
 ⟨some 54, none, .call (.func 118) [(.tmp 53), (.const (.int .u8 93))]⟩,
 ⟨some 55, none, .prim (.un .not (.tmp 54))⟩,
 ⟨some 56, none, .prim (.mov (.tmp 55))⟩,
 ⟨some 57, (some (56, false)), .prim (.mov (.tmp 0))⟩,
 ⟨some 58, (some (56, false)), .prim (.nilc (.tmp 57))⟩,
 ⟨some 59, (some (56, false)), .prim (.fadr 2 (.tmp 58))⟩,
 ⟨some 60, (some (56, false)), .prim (.load 1 false (.tmp 59))⟩,
 ⟨some 61, none, .prim (.pick (.tmp 56) (.const (.bool true)) (.tmp 60))⟩,
 ⟨some 62, none, .prim (.nilc (.tmp 52))⟩,
 ⟨some 63, none, .prim (.fadr 2 (.tmp 62))⟩,
 ⟨none, none, .prim (.store 1 (.tmp 63) (.tmp 61))⟩])
 (.seq (.seq (.ops [⟨some 64, none, .prim (.mov (.tmp 4))⟩])
 (.cond (.tmp 64)
 (.seq (.ops [⟨some 65, none, .prim (.load 4 true (.tmp 3))⟩,
 ⟨some 66, none, .call (.func 147) [(.tmp 65)]⟩,
 ⟨none, none, .prim (.store 4 (.tmp 2) (.tmp 66))⟩])
 .ret)
 .skip))
 (.seq (.ops [⟨some 67, none, .prim (.load 4 true (.tmp 3))⟩,
 ⟨none, none, .prim (.store 4 (.tmp 2) (.tmp 67))⟩])
 .ret)))))))
def o146 : List Tmp := [2, 3]
def r146 : List RV := [.cell 2 4 true]
theorem t146 : Text Try.prog 146 o146 c146 r146 68 := ⟨⟨Try.f146, _, by kernel_rfl, by kernel_rfl, rfl, by kernel_rfl, by kernel_rfl, rfl⟩, by kernel_rfl⟩
def c147 : ACode :=
 (.seq (.ops [⟨some 1, none, .prim (.boxm (.tmp 0))⟩,
 ⟨some 2, none, .prim (.allocm [.pl (.int .u64 0), .pl (.int .u64 0), .pl (.int .u64 0), .pl (.int .u64 0)])⟩])
 (.seq (.seq (.ops [⟨some 4, none, .prim (.mov (.const (.int .i64 0)))⟩])
 (.block 0 (.loop [0, 3, 5, 6, 7, 8, 9, 10, 11, 12, 13, 14] (.seq (.ops [⟨some 5, none, .prim (.bin false .lss (.tmp 4) (.const (.int .i64 4)))⟩])
 (.seq (.cond (.tmp 5)
 .skip
 (.exit 0))
 (.seq (.block 1 (.seq (.ops [⟨some 6, none, .prim (.mov (.tmp 4))⟩,
 ⟨some 3, none, .prim (.mov (.tmp 6))⟩])
 (.ops [⟨some 7, none, .prim (.mov (.tmp 3))⟩,
 ⟨some 8, none, .prim (.mov (.tmp 3))⟩,
 ⟨some 9, none, .prim (.iadra 1 4 (.tmp 1) (.tmp 8))⟩,
 ⟨some 10, none, .prim (.load 1 false (.tmp 9))⟩,
 ⟨some 11, none, .prim (.un .xor (.tmp 10))⟩,
 ⟨some 12, none, .prim (.iadra 1 4 (.tmp 1) (.tmp 7))⟩,
 ⟨none, none, .prim (.store 1 (.tmp 12) (.tmp 11))⟩])))
 (.ops [⟨some 13, none, .prim (.bin false .add (.tmp 4) (.const (.int .i64 1)))⟩,
 ⟨some 4, none, .prim (.mov (.tmp 13))⟩])))))))
 (.seq (.ops [⟨some 14, none, .prim (.load 4 true (.tmp 1))⟩,
 ⟨none, none, .prim (.store 4 (.tmp 2) (.tmp 14))⟩])
 .ret)))
def o147 : List Tmp := [1, 2]
def r147 : List RV := [.cell 2 4 true]
theorem t147 : Text Try.prog 147 o147 c147 r147 15 := ⟨⟨Try.f147, _, by kernel_rfl, by kernel_rfl, rfl, by kernel_rfl, by kernel_rfl, rfl⟩, by kernel_rfl⟩
def c148 : ACode :=
 (.draw [⟨⟨some 4, none, .prim (.mov (.tmp 0))⟩, [], false, 0, 0⟩,
 ⟨⟨some 5, none, .prim (.mov (.tmp 1))⟩, [], false, 0, 0⟩,
 ⟨⟨some 6, none, .prim (.bin false .quo (.tmp 5) (.const (.int .u8 64)))⟩, [1], false, 0, 0⟩,
 ⟨⟨some 7, none, .prim (.nilc (.tmp 4))⟩, [0], false, 0, 0⟩,
 ⟨⟨some 8, none, .prim (.iadra 1 4 (.tmp 7) (.tmp 6))⟩, [0, 1, 2, 3], false, 0, 0⟩,
 ⟨⟨some 9, none, .prim (.load 1 false (.tmp 8))⟩, [0, 1, 2, 3, 4], false, 0, 0⟩,
 ⟨⟨some 10, none, .prim (.mov (.tmp 1))⟩, [], false, 0, 0⟩,
 ⟨⟨some 11, none, .prim (.bin false .rem (.tmp 10) (.const (.int .u8 64)))⟩, [6], false, 0, 0⟩,
 ⟨⟨some 12, none, .prim (.bin false .shl (.const (.int .u64 1)) (.tmp 11))⟩, [6, 7], false, 0, 0⟩,
 ⟨⟨some 13, none, .prim (.bin false .or (.tmp 9) (.tmp 12))⟩, [0, 1, 2, 3, 4, 5, 6, 7, 8], false, 0, 0⟩,
 ⟨⟨some 14, none, .prim (.nilc (.tmp 4))⟩, [0], false, 0, 0⟩,
 ⟨⟨some 15, none, .prim (.iadra 1 4 (.tmp 14) (.tmp 6))⟩, [0, 1, 2, 3, 4, 5, 6, 7, 8, 9, 10], false, 0, 0⟩,
 ⟨⟨none, none, .prim (.store 1 (.tmp 15) (.tmp 13))⟩, [0, 1, 2, 3, 4, 5, 6, 7, 8, 9, 10, 11], true, 0, 0⟩])
def o148 : List Tmp := []
def r148 : List RV := []
theorem t148 : Text Try.prog 148 o148 c148 r148 16 := ⟨⟨Try.f148, _, by kernel_rfl, by kernel_rfl, rfl, by kernel_rfl, by kernel_rfl, rfl⟩, by kernel_rfl⟩
def c149 : ACode :=
 (.seq (.ops [⟨some 2, none, .prim (.mov (.const (.int .u8 0)))⟩])
 (.seq (.ops [⟨some 4, none, .prim (.mov (.tmp 0))⟩,
 ⟨some 5, none, .call (.func 145) [(.tmp 4)]⟩,
 ⟨some 3, none, .prim (.mov (.tmp 5))⟩])
 (.seq (.ops [⟨some 6, none, .prim (.mov (.tmp 0))⟩,
 ⟨some 7, none, .prim (.mov (.tmp 0))⟩,
 ⟨some 8, none, .prim (.nilc (.tmp 7))⟩,
 ⟨some 9, none, .prim (.fadr 2 (.tmp 8))⟩,
 ⟨some 10, none, .prim (.load 1 false (.tmp 9))⟩,
 ⟨some 11, none, .prim (.mov (.tmp 10))⟩,
 ⟨some 12, (some (11, false)), .prim (.mov (.tmp 3))⟩,
 ⟨some 13, (some (11, false)), .call (.func 150) [(.const (.string (ByteArray.mk #[124, 42, 43, 63, 40, 41, 91, 93, 46, 92, 94, 45]))), (.tmp 12)]⟩,
 ⟨some 14, (some (11, false)), .prim (.bin false .lss (.tmp 13) (.const (.int .i64 0)))⟩,
 ⟨some 15, none, .prim (.pick (.tmp 11) (.const (.bool true)) (.tmp 14))⟩,
 ⟨some 16, none, .prim (.nilc (.tmp 6))⟩,
 ⟨some 17, none, .prim (.fadr 2 (.tmp 16))⟩,
 ⟨none, none, .prim (.store 1 (.tmp 17) (.tmp 15))⟩])
 (.seq (.ops [⟨some 18, none, .prim (.mov (.tmp 3))⟩,
 ⟨some 2, none, .prim (.mov (.tmp 18))⟩])
 .ret))))
def o149 : List Tmp := []
def r149 : List RV := [.tmp 2]
theorem t149 : Text Try.prog 149 o149 c149 r149 19 := ⟨⟨Try.f149, _, by kernel_rfl, by kernel_rfl, rfl, by kernel_rfl, by kernel_rfl, rfl⟩, by kernel_rfl⟩
def c150 : ACode :=
 (.seq (.ops [⟨some 4, none, .prim (.mov (.const (.int .i64 0)))⟩])
 (.seq (.ops [⟨some 5, none, .prim (.mov (.tmp 0))⟩,
 ⟨some 6, none, .prim (.mov (.tmp 1))⟩,
 ⟨some 7, none, .call (.func 157) [(.tmp 5), (.tmp 6)]⟩,
 ⟨some 4, none, .prim (.mov (.tmp 7))⟩])
 .ret))
def o150 : List Tmp := []
def r150 : List RV := [.tmp 4]
theorem t150 : Text Try.prog 150 o150 c150 r150 8 := ⟨⟨Try.f150, _, by kernel_rfl, by kernel_rfl, rfl, by kernel_rfl, by kernel_rfl, rfl⟩, by kernel_rfl⟩
def c151 : ACode :=
 (.seq (.ops [⟨some 2, none, .prim (.mov (.const (.bool false)))⟩])
 (.seq (.ops [⟨some 3, none, .prim (.mov (.tmp 0))⟩,
 ⟨some 4, none, .call (.func 155) [(.tmp 3)]⟩,
 ⟨some 5, none, .prim (.mov (.tmp 4))⟩,
 ⟨some 6, (some (5, false)), .prim (.mov (.tmp 0))⟩,
 ⟨some 7, (some (5, false)), .prim (.bin false .eql (.tmp 6) (.const (.int .u8 94)))⟩,
 ⟨some 8, none, .prim (.pick (.tmp 5) (.const (.bool true)) (.tmp 7))⟩,
 ⟨some 9, none, .prim (.mov (.tmp 8))⟩,
 ⟨some 10, (some (9, false)), .prim (.mov (.tmp 0))⟩,
 ⟨some 11, (some (9, false)), .prim (.bin false .eql (.tmp 10) (.const (.int .u8 45)))⟩,
 ⟨some 12, none, .prim (.pick (.tmp 9) (.const (.bool true)) (.tmp 11))⟩,
 ⟨some 2, none, .prim (.mov (.tmp 12))⟩])
 .ret))
def o151 : List Tmp := []
def r151 : List RV := [.tmp 2]
theorem t151 : Text Try.prog 151 o151 c151 r151 13 := ⟨⟨Try.f151, _, by kernel_rfl, by kernel_rfl, rfl, by kernel_rfl, by kernel_rfl, rfl⟩, by kernel_rfl⟩
def c152 : ACode :=
 (.ops [⟨some 2, none, .prim (.mov (.tmp 0))⟩,
 ⟨some 3, none, .prim (.nilc (.tmp 2))⟩,
 ⟨some 4, none, .prim (.fadr 3 (.tmp 3))⟩,
 ⟨none, none, .prim (.store 1 (.tmp 4) (.const (.bool true)))⟩])
def o152 : List Tmp := []
def r152 : List RV := []
theorem t152 : Text Try.prog 152 o152 c152 r152 5 := ⟨⟨Try.f152, _, by kernel_rfl, by kernel_rfl, rfl, by kernel_rfl, by kernel_rfl, rfl⟩, by kernel_rfl⟩
def c153 : ACode :=
 (.seq (.ops [⟨some 2, none, .prim (.allocm [.pl (.int .u64 0), .pl (.int .u64 0), .pl (.int .u64 0), .pl (.int .u64 0)])⟩])
 (.seq (.ops [⟨some 3, none, .prim (.allocm [.pl (.int .u64 0), .pl (.int .u64 0), .pl (.int .u64 0), .pl (.int .u64 0)])⟩])
 (.seq (.ops [⟨some 4, none, .prim (.mov (.tmp 0))⟩,
 ⟨some 5, none, .prim (.bin false .quo (.tmp 4) (.const (.int .u8 64)))⟩,
 ⟨some 6, none, .prim (.mov (.tmp 0))⟩,
 ⟨some 7, none, .prim (.bin false .rem (.tmp 6) (.const (.int .u8 64)))⟩,
 ⟨some 8, none, .prim (.convi .u64 (.tmp 7))⟩,
 ⟨some 9, none, .prim (.bin false .shl (.const (.int .u64 1)) (.tmp 8))⟩,
 ⟨some 10, none, .prim (.iadra 1 4 (.tmp 3) (.tmp 5))⟩,
 ⟨none, none, .prim (.store 1 (.tmp 10) (.tmp 9))⟩])
 (.seq (.ops [⟨some 11, none, .prim (.load 4 true (.tmp 3))⟩,
 ⟨none, none, .prim (.store 4 (.tmp 2) (.tmp 11))⟩])
 .ret))))
def o153 : List Tmp := [2, 3]
def r153 : List RV := [.cell 2 4 true]
theorem t153 : Text Try.prog 153 o153 c153 r153 12 := ⟨⟨Try.f153, _, by kernel_rfl, by kernel_rfl, rfl, by kernel_rfl, by kernel_rfl, rfl⟩, by kernel_rfl⟩
def c154 : ACode :=
 (.seq (.ops [⟨some 2, none, .prim (.allocm [.pl (.int .i64 0), .pl (.int .u64 0), .pl (.int .u64 0), .pl (.int .u64 0), .pl (.int .u64 0), .nils])⟩])
 (.seq (.draw [⟨⟨some 10, none, .prim (.mov (.tmp 0))⟩, [], false, 0, 0⟩,
 ⟨⟨some 11, none, .call (.func 120) [(.tmp 10)]⟩, [0], true, 0, 0⟩,
 ⟨⟨some 12, none, .prim (.mov (.tmp 11))⟩, [0, 1], false, 1, 1⟩,
 ⟨⟨some 13, (some (12, true)), .prim (.mov (.tmp 0))⟩, [0, 1, 2], false, 1, 1⟩,
 ⟨⟨some 14, (some (12, true)), .prim (.nilc (.tmp 13))⟩, [0, 1, 2, 3], false, 1, 1⟩,
 ⟨⟨some 15, (some (12, true)), .prim (.fadr 0 (.tmp 14))⟩, [0, 1, 2, 3, 4], false, 1, 1⟩,
 ⟨⟨some 16, (some (12, true)), .prim (.load 1 false (.tmp 15))⟩, [0, 1, 2, 3, 4, 5], false, 1, 1⟩,
 ⟨⟨some 17, (some (12, true)), .prim (.mov (.tmp 0))⟩, [0, 1, 2], false, 1, 1⟩,
 ⟨⟨some 18, (some (12, true)), .prim (.nilc (.tmp 17))⟩, [0, 1, 2, 7], false, 1, 1⟩,
 ⟨⟨some 19, (some (12, true)), .prim (.fadr 1 (.tmp 18))⟩, [0, 1, 2, 7, 8], false, 1, 1⟩,
 ⟨⟨some 20, (some (12, true)), .prim (.load 1 false (.tmp 19))⟩, [0, 1, 2, 7, 8, 9], false, 1, 1⟩,
 ⟨⟨some 21, (some (12, true)), .prim (.idxs (.tmp 16) (.tmp 20))⟩, [0, 1, 2, 3, 4, 5, 6, 7, 8, 9, 10], false, 1, 1⟩,
 ⟨⟨some 22, (some (12, true)), .prim (.bin false .eql (.tmp 21) (.const (.int .u8 94)))⟩, [0, 1, 2, 3, 4, 5, 6, 7, 8, 9, 10, 11], false, 1, 1⟩,
 ⟨⟨some 23, none, .prim (.pick (.tmp 12) (.tmp 22) (.const (.bool false)))⟩, [0, 1, 2, 3, 4, 5, 6, 7, 8, 9, 10, 11, 12], false, 1, 1⟩,
 ⟨⟨some 3, none, .prim (.mov (.tmp 23))⟩, [0, 1, 2, 3, 4, 5, 6, 7, 8, 9, 10, 11, 12, 13], false, 1, 1⟩])
 (.seq (.seq (.ops [⟨some 24, none, .prim (.mov (.tmp 3))⟩])
 (.cond (.tmp 24)
 (.ops [⟨some 25, none, .prim (.mov (.tmp 0))⟩,
 ⟨some 26, none, .prim (.nilc (.tmp 25))⟩,
 ⟨some 27, none, .prim (.fadr 1 (.tmp 26))⟩,
 ⟨some 28, none, .prim (.load 1 false (.tmp 27))⟩,
 ⟨some 29, none, .prim (.bin false .add (.tmp 28) (.const (.int .i64 1)))⟩,
 ⟨some 30, none, .prim (.nilc (.tmp 25))⟩,
 ⟨some 31, none, .prim (.fadr 1 (.tmp 30))⟩,
 ⟨none, none, .prim (.store 1 (.tmp 31) (.tmp 29))⟩])
 .skip))
 (.seq (.ops [⟨some 4, none, .prim (.allocm [.pl (.int .u64 0), .pl (.int .u64 0), .pl (.int .u64 0), .pl (.int .u64 0)])⟩])
 (.seq (.ops [⟨some 5, none, .prim (.mov (.const (.int .i64 0)))⟩])
 (.seq (.block 0 (.loop [1, 6, 7, 8, 9, 10, 11, 12, 13, 14, 15, 16, 17, 18, 19, 20, 21, 22, 23, 24, 25, 26, 27, 28, 29, 30, 31, 32, 33, 34, 35, 36, 37, 38, 39, 40, 41, 42, 43, 44, 45, 46, 47, 48, 49, 50, 51, 52, 53, 54, 55, 56, 57, 58, 59, 60, 61, 62, 63, 64, 65, 66, 67, 68, 69, 70, 71, 72, 73, 74, 75, 76, 77, 78, 79, 80, 81, 82, 83, 84, 85, 86, 87, 88, 89, 90, 91, 92, 93, 94, 95, 96, 97, 98, 99, 100, 101, 102, 103, 104, 105, 106, 107, 108, 109, 110, 111, 112, 113, 114, 115, 116, 117, 118, 119, 120, 121, 122, 123, 124, 125, 126, 127, 128] (.seq (.seq (.draw [⟨⟨some 32, none, .prim (.mov (.tmp 0))⟩, [], false, 0, 0⟩,
 ⟨⟨some 33, none, .call (.func 120) [(.tmp 32)]⟩, [0], true, 0, 0⟩,
 ⟨⟨some 34, none, .prim (.mov (.tmp 33))⟩, [0, 1], false, 1, 1⟩,
 ⟨⟨some 35, (some (34, true)), .prim (.mov (.tmp 0))⟩, [0, 1, 2], false, 1, 1⟩,
 ⟨⟨some 36, (some (34, true)), .prim (.nilc (.tmp 35))⟩, [0, 1, 2, 3], false, 1, 1⟩,
 ⟨⟨some 37, (some (34, true)), .prim (.fadr 0 (.tmp 36))⟩, [0, 1, 2, 3, 4], false, 1, 1⟩,
 ⟨⟨some 38, (some (34, true)), .prim (.load 1 false (.tmp 37))⟩, [0, 1, 2, 3, 4, 5], false, 1, 1⟩,
 ⟨⟨some 39, (some (34, true)), .prim (.mov (.tmp 0))⟩, [0, 1, 2], false, 1, 1⟩,
 ⟨⟨some 40, (some (34, true)), .prim (.nilc (.tmp 39))⟩, [0, 1, 2, 7], false, 1, 1⟩,
 ⟨⟨some 41, (some (34, true)), .prim (.fadr 1 (.tmp 40))⟩, [0, 1, 2, 7, 8], false, 1, 1⟩,
 ⟨⟨some 42, (some (34, true)), .prim (.load 1 false (.tmp 41))⟩, [0, 1, 2, 7, 8, 9], false, 1, 1⟩,
 ⟨⟨some 43, (some (34, true)), .prim (.idxs (.tmp 38) (.tmp 42))⟩, [0, 1, 2, 3, 4, 5, 6, 7, 8, 9, 10], false, 1, 1⟩,
 ⟨⟨some 44, (some (34, true)), .prim (.bin false .neq (.tmp 43) (.const (.int .u8 93)))⟩, [0, 1, 2, 3, 4, 5, 6, 7, 8, 9, 10, 11], false, 1, 1⟩,
 ⟨⟨some 45, none, .prim (.pick (.tmp 34) (.tmp 44) (.const (.bool false)))⟩, [0, 1, 2, 3, 4, 5, 6, 7, 8, 9, 10, 11, 12], false, 1, 1⟩])
 (.cond (.tmp 45)
 .skip
 (.exit 0)))
 (.block 1 (.seq (.ops [⟨some 46, none, .prim (.mov (.tmp 0))⟩,
 ⟨some 47, none, .call (.func 158) [(.tmp 46)]⟩,
 ⟨some 6, none, .prim (.mov (.tmp 47))⟩])
 (.seq (.ops [⟨some 48, none, .prim (.mov (.tmp 6))⟩,
 ⟨some 7, none, .prim (.mov (.tmp 48))⟩])
 (.seq (.seq (.draw [⟨⟨some 49, none, .prim (.mov (.tmp 0))⟩, [], false, 0, 0⟩,
 ⟨⟨some 50, none, .call (.func 120) [(.tmp 49)]⟩, [0], true, 0, 0⟩,
 ⟨⟨some 51, none, .prim (.mov (.tmp 50))⟩, [0, 1], false, 1, 1⟩,
 ⟨⟨some 52, (some (51, true)), .prim (.mov (.tmp 0))⟩, [0, 1, 2], false, 1, 1⟩,
 ⟨⟨some 53, (some (51, true)), .prim (.nilc (.tmp 52))⟩, [0, 1, 2, 3], false, 1, 1⟩,
 ⟨⟨some 54, (some (51, true)), .prim (.fadr 0 (.tmp 53))⟩, [0, 1, 2, 3, 4], false, 1, 1⟩,
 ⟨⟨some 55, (some (51, true)), .prim (.load 1 false (.tmp 54))⟩, [0, 1, 2, 3, 4, 5], false, 1, 1⟩,
 ⟨⟨some 56, (some (51, true)), .prim (.mov (.tmp 0))⟩, [0, 1, 2], false, 1, 1⟩,
 ⟨⟨some 57, (some (51, true)), .prim (.nilc (.tmp 56))⟩, [0, 1, 2, 7], false, 1, 1⟩,
 ⟨⟨some 58, (some (51, true)), .prim (.fadr 1 (.tmp 57))⟩, [0, 1, 2, 7, 8], false, 1, 1⟩,
 ⟨⟨some 59, (some (51, true)), .prim (.load 1 false (.tmp 58))⟩, [0, 1, 2, 7, 8, 9], false, 1, 1⟩,
 ⟨⟨some 60, (some (51, true)), .prim (.idxs (.tmp 55) (.tmp 59))⟩, [0, 1, 2, 3, 4, 5, 6, 7, 8, 9, 10], false, 1, 1⟩,
 ⟨⟨some 61, (some (51, true)), .prim (.bin false .eql (.tmp 60) (.const (.int .u8 45)))⟩, [0, 1, 2, 3, 4, 5, 6, 7, 8, 9, 10, 11], false, 1, 1⟩,
 ⟨⟨some 62, none, .prim (.pick (.tmp 51) (.tmp 61) (.const (.bool false)))⟩, [0, 1, 2, 3, 4, 5, 6, 7, 8, 9, 10, 11, 12], false, 1, 1⟩])
 (.cond (.tmp 62)
 (.seq (.ops [⟨some 63, none, .prim (.mov (.tmp 0))⟩,
 ⟨some 64, none, .prim (.nilc (.tmp 63))⟩,
 ⟨some 65, none, .prim (.fadr 1 (.tmp 64))⟩,
 ⟨some 66, none, .prim (.load 1 false (.tmp 65))⟩,
 ⟨some 67, none, .prim (.bin false .add (.tmp 66) (.const (.int .i64 1)))⟩,
 ⟨some 68, none, .prim (.nilc (.tmp 63))⟩,
 ⟨some 69, none, .prim (.fadr 1 (.tmp 68))⟩,
 ⟨none, none, .prim (.store 1 (.tmp 69) (.tmp 67))⟩])
 (.ops [⟨some 70, none, .prim (.mov (.tmp 0))⟩,
 ⟨some 71, none, .call (.func 158) [(.tmp 70)]⟩,
 ⟨some 7, none, .prim (.mov (.tmp 71))⟩]))
 .skip))
 (.seq (.seq (.ops [⟨some 72, none, .prim (.mov (.tmp 7))⟩,
 ⟨some 73, none, .prim (.mov (.tmp 6))⟩,
 ⟨some 74, none, .prim (.bin false .lss (.tmp 72) (.tmp 73))⟩])
 (.cond (.tmp 74)
 (.ops [⟨some 75, none, .prim (.mov (.tmp 0))⟩,
 ⟨some 76, none, .call (.func 152) [(.tmp 75)]⟩])
 .skip))
 (.seq (.seq (.ops [⟨some 77, none, .prim (.mov (.tmp 6))⟩,
 ⟨some 78, none, .prim (.convi .i64 (.tmp 77))⟩,
 ⟨some 8, none, .prim (.mov (.tmp 78))⟩])
 (.block 2 (.loop [1, 6, 9, 10, 11, 12, 13, 14, 15, 16, 17, 18, 19, 20, 21, 22, 23, 24, 25, 26, 27, 28, 29, 30, 31, 32, 33, 34, 35, 36, 37, 38, 39, 40, 41, 42, 43, 44, 45, 46, 47, 48, 49, 50, 51, 52, 53, 54, 55, 56, 57, 58, 59, 60, 61, 62, 63, 64, 65, 66, 67, 68, 69, 70, 71, 72, 73, 74, 75, 76, 77, 78, 79, 80, 81, 82, 83, 84, 85, 86, 87, 88, 89, 90, 91, 92, 93, 94, 95, 96, 97, 98, 99, 100, 101, 102, 103, 104, 105, 106, 107, 108, 109, 110, 111, 112, 113, 114, 115, 116, 117, 118, 119, 120, 121, 122, 123, 124, 125, 126, 127, 128] (.seq (.seq (.ops [⟨some 79, none, .prim (.mov (.tmp 8))⟩,
 ⟨some 80, none, .prim (.mov (.tmp 7))⟩,
 ⟨some 81, none, .prim (.convi .i64 (.tmp 80))⟩,
 ⟨some 82, none, .prim (.bin false .leq (.tmp 79) (.tmp 81))⟩])
 (.cond (.tmp 82)
 .skip
 (.exit 2)))
 (.seq (.block 3 (.ops [⟨some 85, none, .prim (.mov (.tmp 8))⟩,
 ⟨some 86, none, .prim (.bin false .quo (.tmp 85) (.const (.int .i64 64)))⟩,
 ⟨some 87, none, .prim (.mov (.tmp 8))⟩,
 ⟨some 88, none, .prim (.bin false .quo (.tmp 87) (.const (.int .i64 64)))⟩,
 ⟨some 89, none, .prim (.iadra 1 4 (.tmp 4) (.tmp 88))⟩,
 ⟨some 90, none, .prim (.load 1 false (.tmp 89))⟩,
 ⟨some 91, none, .prim (.mov (.tmp 8))⟩,
 ⟨some 92, none, .prim (.bin false .rem (.tmp 91) (.const (.int .i64 64)))⟩,
 ⟨some 93, none, .prim (.convi .u64 (.tmp 92))⟩,
 ⟨some 94, none, .prim (.bin false .shl (.const (.int .u64 1)) (.tmp 93))⟩,
 ⟨some 95, none, .prim (.bin false .or (.tmp 90) (.tmp 94))⟩,
 ⟨some 96, none, .prim (.iadra 1 4 (.tmp 4) (.tmp 86))⟩,
 ⟨none, none, .prim (.store 1 (.tmp 96) (.tmp 95))⟩]))
 (.ops [⟨some 83, none, .prim (.mov (.tmp 8))⟩,
 ⟨some 84, none, .prim (.bin false .add (.tmp 83) (.const (.int .i64 1)))⟩,
 ⟨some 8, none, .prim (.mov (.tmp 84))⟩]))))))
 (.ops [⟨some 97, none, .prim (.mov (.tmp 5))⟩,
 ⟨some 98, none, .prim (.bin false .add (.tmp 97) (.const (.int .i64 1)))⟩,
 ⟨some 5, none, .prim (.mov (.tmp 98))⟩]))))))))))
 (.seq (.seq (.ops [⟨some 99, none, .prim (.mov (.tmp 0))⟩,
 ⟨some 100, none, .call (.func 120) [(.tmp 99)]⟩,
 ⟨some 101, none, .prim (.un .not (.tmp 100))⟩,
 ⟨some 102, none, .prim (.mov (.tmp 101))⟩,
 ⟨some 103, (some (102, false)), .prim (.mov (.tmp 5))⟩,
 ⟨some 104, (some (102, false)), .prim (.bin false .eql (.tmp 103) (.const (.int .i64 0)))⟩,
 ⟨some 105, none, .prim (.pick (.tmp 102) (.const (.bool true)) (.tmp 104))⟩])
 (.cond (.tmp 105)
 (.seq (.ops [⟨some 106, none, .prim (.mov (.tmp 0))⟩,
 ⟨some 107, none, .call (.func 152) [(.tmp 106)]⟩])
 (.seq (.ops [⟨some 108, none, .prim (.build [.pl (.int .i64 0), .pl (.int .u64 0), .pl (.int .u64 0), .pl (.int .u64 0), .pl (.int .u64 0), .nils] [])⟩,
 ⟨none, none, .prim (.store 6 (.tmp 2) (.tmp 108))⟩])
 .ret))
 .skip))
 (.seq (.ops [⟨some 109, none, .prim (.mov (.tmp 0))⟩,
 ⟨some 110, none, .prim (.nilc (.tmp 109))⟩,
 ⟨some 111, none, .prim (.fadr 1 (.tmp 110))⟩,
 ⟨some 112, none, .prim (.load 1 false (.tmp 111))⟩,
 ⟨some 113, none, .prim (.bin false .add (.tmp 112) (.const (.int .i64 1)))⟩,
 ⟨some 114, none, .prim (.nilc (.tmp 109))⟩,
 ⟨some 115, none, .prim (.fadr 1 (.tmp 114))⟩,
 ⟨none, none, .prim (.store 1 (.tmp 115) (.tmp 113))⟩])
 (.seq (.seq (.ops [⟨some 116, none, .prim (.mov (.tmp 3))⟩])
 (.cond (.tmp 116)
 (.seq (.ops [⟨some 9, none, .prim (.mov (.const (.int .i64 0)))⟩])
 (.block 4 (.loop [0, 1, 3, 5, 6, 7, 8, 10, 11, 12, 13, 14, 15, 16, 17, 18, 19, 20, 21, 22, 23, 24, 25, 26, 27, 28, 29, 30, 31, 32, 33, 34, 35, 36, 37, 38, 39, 40, 41, 42, 43, 44, 45, 46, 47, 48, 49, 50, 51, 52, 53, 54, 55, 56, 57, 58, 59, 60, 61, 62, 63, 64, 65, 66, 67, 68, 69, 70, 71, 72, 73, 74, 75, 76, 77, 78, 79, 80, 81, 82, 83, 84, 85, 86, 87, 88, 89, 90, 91, 92, 93, 94, 95, 96, 97, 98, 99, 100, 101, 102, 103, 104, 105, 106, 107, 108, 109, 110, 111, 112, 113, 114, 115, 116, 117, 118, 119, 120, 121, 122, 123, 124, 125, 126, 127, 128] (.seq (.seq (.ops [⟨some 117, none, .prim (.mov (.tmp 9))⟩,
 ⟨some 118, none, .prim (.bin false .lss (.tmp 117) (.const (.int .i64 4)))⟩])
 (.cond (.tmp 118)
 .skip
 (.exit 4)))
 (.seq (.block 5 (.ops [⟨some 121, none, .prim (.mov (.tmp 9))⟩,
 ⟨some 122, none, .prim (.mov (.tmp 9))⟩,
 ⟨some 123, none, .prim (.iadra 1 4 (.tmp 4) (.tmp 122))⟩,
 ⟨some 124, none, .prim (.load 1 false (.tmp 123))⟩,
 ⟨some 125, none, .prim (.un .xor (.tmp 124))⟩,
 ⟨some 126, none, .prim (.iadra 1 4 (.tmp 4) (.tmp 121))⟩,
 ⟨none, none, .prim (.store 1 (.tmp 126) (.tmp 125))⟩]))
 (.ops [⟨some 119, none, .prim (.mov (.tmp 9))⟩,
 ⟨some 120, none, .prim (.bin false .add (.tmp 119) (.const (.int .i64 1)))⟩,
 ⟨some 9, none, .prim (.mov (.tmp 120))⟩]))))))
 .skip))
 (.seq (.ops [⟨some 127, none, .prim (.load 4 true (.tmp 4))⟩,
 ⟨some 128, none, .prim (.build [.pl (.int .i64 0), .pl (.int .u64 0), .pl (.int .u64 0), .pl (.int .u64 0), .pl (.int .u64 0), .nils] [(0, 1, (.const (.int .i64 1))), (1, 4, (.tmp 127))])⟩,
 ⟨none, none, .prim (.store 6 (.tmp 2) (.tmp 128))⟩])
 .ret))))))))))
def o154 : List Tmp := [2, 4]
def r154 : List RV := [.cell 2 6 true]
theorem t154 : Text Try.prog 154 o154 c154 r154 129 := ⟨⟨Try.f154, _, by kernel_rfl, by kernel_rfl, rfl, by kernel_rfl, by kernel_rfl, rfl⟩, by kernel_rfl⟩
def c155 : ACode :=
 (.seq (.ops [⟨some 2, none, .prim (.mov (.const (.bool false)))⟩])
 (.seq (.seq (.ops [⟨some 3, none, .prim (.mov (.tmp 0))⟩])
 (.block 0 (.seq (.seq (.ops [⟨some 5, none, .prim (.bin false .eql (.tmp 3) (.const (.int .u8 124)))⟩,
 ⟨some 4, none, .prim (.mov (.tmp 5))⟩])
 (.cond (.tmp 4)
 .skip
 (.seq (.ops [⟨some 6, none, .prim (.bin false .eql (.tmp 3) (.const (.int .u8 42)))⟩,
 ⟨some 4, none, .prim (.mov (.tmp 6))⟩])
 (.cond (.tmp 4)
 .skip
 (.seq (.ops [⟨some 7, none, .prim (.bin false .eql (.tmp 3) (.const (.int .u8 43)))⟩,
 ⟨some 4, none, .prim (.mov (.tmp 7))⟩])
 (.cond (.tmp 4)
 .skip
 (.seq (.ops [⟨some 8, none, .prim (.bin false .eql (.tmp 3) (.const (.int .u8 63)))⟩,
 ⟨some 4, none, .prim (.mov (.tmp 8))⟩])
 (.cond (.tmp 4)
 .skip
 (.seq (.ops [⟨some 9, none, .prim (.bin false .eql (.tmp 3) (.const (.int .u8 40)))⟩,
 ⟨some 4, none, .prim (.mov (.tmp 9))⟩])
 (.cond (.tmp 4)
 .skip
 (.seq (.ops [⟨some 10, none, .prim (.bin false .eql (.tmp 3) (.const (.int .u8 41)))⟩,
 ⟨some 4, none, .prim (.mov (.tmp 10))⟩])
 (.cond (.tmp 4)
 .skip
 (.seq (.ops [⟨some 11, none, .prim (.bin false .eql (.tmp 3) (.const (.int .u8 91)))⟩,
 ⟨some 4, none, .prim (.mov (.tmp 11))⟩])
 (.cond (.tmp 4)
 .skip
 (.seq (.ops [⟨some 12, none, .prim (.bin false .eql (.tmp 3) (.const (.int .u8 93)))⟩,
 ⟨some 4, none, .prim (.mov (.tmp 12))⟩])
 (.cond (.tmp 4)
 .skip
 (.seq (.ops [⟨some 13, none, .prim (.bin false .eql (.tmp 3) (.const (.int .u8 46)))⟩,
 ⟨some 4, none, .prim (.mov (.tmp 13))⟩])
 (.cond (.tmp 4)
 .skip
 (.ops [⟨some 14, none, .prim (.bin false .eql (.tmp 3) (.const (.int .u8 92)))⟩,
 ⟨some 4, none, .prim (.mov (.tmp 14))⟩])))))))))))))))))))
 (.cond (.tmp 4)
 (.seq (.ops [⟨some 2, none, .prim (.mov (.const (.bool true)))⟩])
 .ret)
 .skip))))
 (.seq (.ops [⟨some 2, none, .prim (.mov (.const (.bool false)))⟩])
 .ret)))
def o155 : List Tmp := []
def r155 : List RV := [.tmp 2]
theorem t155 : Text Try.prog 155 o155 c155 r155 15 := ⟨⟨Try.f155, _, by kernel_rfl, by kernel_rfl, rfl, by kernel_rfl, by kernel_rfl, rfl⟩, by kernel_rfl⟩
def c156 : ACode :=
 (.seq (.ops [⟨some 2, none, .prim (.mov (.const (.int .u8 0)))⟩])
 (.seq (.ops [⟨some 4, none, .prim (.mov (.tmp 0))⟩,
 ⟨some 5, none, .call (.func 145) [(.tmp 4)]⟩,
 ⟨some 3, none, .prim (.mov (.tmp 5))⟩])
 (.seq (.seq (.ops [⟨some 6, none, .prim (.mov (.tmp 3))⟩,
 ⟨some 7, none, .prim (.bin false .eql (.tmp 6) (.const (.int .u8 92)))⟩])
 (.cond (.tmp 7)
 (.seq (.ops [⟨some 8, none, .prim (.mov (.tmp 0))⟩,
 ⟨some 9, none, .call (.func 149) [(.tmp 8)]⟩,
 ⟨some 2, none, .prim (.mov (.tmp 9))⟩])
 .ret)
 .skip))
 (.seq (.ops [⟨some 10, none, .prim (.mov (.tmp 0))⟩,
 ⟨some 11, none, .prim (.mov (.tmp 0))⟩,
 ⟨some 12, none, .prim (.nilc (.tmp 11))⟩,
 ⟨some 13, none, .prim (.fadr 2 (.tmp 12))⟩,
 ⟨some 14, none, .prim (.load 1 false (.tmp 13))⟩,
 ⟨some 15, none, .prim (.mov (.tmp 14))⟩,
 ⟨some 16, (some (15, false)), .prim (.mov (.tmp 3))⟩,
 ⟨some 17, (some (15, false)), .call (.func 150) [(.const (.string (ByteArray.mk #[92, 93, 91, 94, 45]))), (.tmp 16)]⟩,
 ⟨some 18, (some (15, false)), .prim (.bin false .geq (.tmp 17) (.const (.int .i64 0)))⟩,
 ⟨some 19, none, .prim (.pick (.tmp 15) (.const (.bool true)) (.tmp 18))⟩,
 ⟨some 20, none, .prim (.nilc (.tmp 10))⟩,
 ⟨some 21, none, .prim (.fadr 2 (.tmp 20))⟩,
 ⟨none, none, .prim (.store 1 (.tmp 21) (.tmp 19))⟩])
 (.seq (.ops [⟨some 22, none, .prim (.mov (.tmp 3))⟩,
 ⟨some 2, none, .prim (.mov (.tmp 22))⟩])
 .ret)))))
def o156 : List Tmp := []
def r156 : List RV := [.tmp 2]
theorem t156 : Text Try.prog 156 o156 c156 r156 23 := ⟨⟨Try.f156, _, by kernel_rfl, by kernel_rfl, rfl, by kernel_rfl, by kernel_rfl, rfl⟩, by kernel_rfl⟩
def c157 : ACode :=
 (.seq (.ops [⟨some 4, none, .prim (.mov (.const (.int .i64 0)))⟩])
 (.seq (.ops [⟨some 5, none, .prim (.mov (.tmp 0))⟩,
 ⟨some 6, none, .prim (.mov (.tmp 1))⟩,
 ⟨some 7, none, .call (.func 159) [(.tmp 5), (.tmp 6)]⟩,
 ⟨some 4, none, .prim (.mov (.tmp 7))⟩])
 .ret))
def o157 : List Tmp := []
def r157 : List RV := [.tmp 4]
theorem t157 : Text Try.prog 157 o157 c157 r157 8 := ⟨⟨Try.f157, _, by kernel_rfl, by kernel_rfl, rfl, by kernel_rfl, by kernel_rfl, rfl⟩, by kernel_rfl⟩
def c158 : ACode :=
 (.seq (.ops [⟨some 2, none, .prim (.mov (.const (.int .u8 0)))⟩])
 (.seq (.seq (.ops [⟨some 4, none, .prim (.mov (.tmp 0))⟩,
 ⟨some 5, none, .call (.func 120) [(.tmp 4)]⟩,
 ⟨some 6, none, .prim (.un .not (.tmp 5))⟩])
 (.cond (.tmp 6)
 (.seq (.ops [⟨some 7, none, .prim (.mov (.tmp 0))⟩,
 ⟨some 8, none, .call (.func 152) [(.tmp 7)]⟩])
 (.seq (.ops [⟨some 2, none, .prim (.mov (.const (.int .u8 0)))⟩])
 .ret))
 .skip))
 (.seq (.draw [⟨⟨some 9, none, .prim (.mov (.tmp 0))⟩, [], false, 0, 0⟩,
 ⟨⟨some 10, none, .prim (.nilc (.tmp 9))⟩, [0], false, 0, 0⟩,
 ⟨⟨some 11, none, .prim (.fadr 0 (.tmp 10))⟩, [0, 1], false, 0, 0⟩,
 ⟨⟨some 12, none, .prim (.load 1 false (.tmp 11))⟩, [0, 1, 2], false, 0, 0⟩,
 ⟨⟨some 13, none, .prim (.mov (.tmp 0))⟩, [], false, 0, 0⟩,
 ⟨⟨some 14, none, .prim (.nilc (.tmp 13))⟩, [4], false, 0, 0⟩,
 ⟨⟨some 15, none, .prim (.fadr 1 (.tmp 14))⟩, [4, 5], false, 0, 0⟩,
 ⟨⟨some 16, none, .prim (.load 1 false (.tmp 15))⟩, [4, 5, 6], false, 0, 0⟩,
 ⟨⟨some 17, none, .prim (.idxs (.tmp 12) (.tmp 16))⟩, [0, 1, 2, 3, 4, 5, 6, 7], false, 0, 0⟩,
 ⟨⟨some 3, none, .prim (.mov (.tmp 17))⟩, [0, 1, 2, 3, 4, 5, 6, 7, 8], false, 0, 0⟩])
 (.seq (.ops [⟨some 18, none, .prim (.mov (.tmp 0))⟩,
 ⟨some 19, none, .prim (.nilc (.tmp 18))⟩,
 ⟨some 20, none, .prim (.fadr 1 (.tmp 19))⟩,
 ⟨some 21, none, .prim (.load 1 false (.tmp 20))⟩,
 ⟨some 22, none, .prim (.bin false .add (.tmp 21) (.const (.int .i64 1)))⟩,
 ⟨some 23, none, .prim (.nilc (.tmp 18))⟩,
 ⟨some 24, none, .prim (.fadr 1 (.tmp 23))⟩,
 ⟨none, none, .prim (.store 1 (.tmp 24) (.tmp 22))⟩])
 (.seq (.seq (.ops [⟨some 25, none, .prim (.mov (.tmp 3))⟩,
 ⟨some 26, none, .prim (.bin false .eql (.tmp 25) (.const (.int .u8 92)))⟩])
 (.cond (.tmp 26)
 (.seq (.seq (.draw [⟨⟨some 27, none, .prim (.mov (.tmp 0))⟩, [], false, 0, 0⟩,
 ⟨⟨some 28, none, .call (.func 120) [(.tmp 27)]⟩, [0], true, 0, 0⟩,
 ⟨⟨some 29, none, .prim (.un .not (.tmp 28))⟩, [0, 1], false, 1, 1⟩,
 ⟨⟨some 30, none, .prim (.mov (.tmp 29))⟩, [0, 1, 2], false, 1, 1⟩,
 ⟨⟨some 31, (some (30, false)), .prim (.mov (.tmp 0))⟩, [0, 1, 2, 3], false, 1, 1⟩,
 ⟨⟨some 32, (some (30, false)), .prim (.nilc (.tmp 31))⟩, [0, 1, 2, 3, 4], false, 1, 1⟩,
 ⟨⟨some 33, (some (30, false)), .prim (.fadr 0 (.tmp 32))⟩, [0, 1, 2, 3, 4, 5], false, 1, 1⟩,
 ⟨⟨some 34, (some (30, false)), .prim (.load 1 false (.tmp 33))⟩, [0, 1, 2, 3, 4, 5, 6], false, 1, 1⟩,
 ⟨⟨some 35, (some (30, false)), .prim (.mov (.tmp 0))⟩, [0, 1, 2, 3], false, 1, 1⟩,
 ⟨⟨some 36, (some (30, false)), .prim (.nilc (.tmp 35))⟩, [0, 1, 2, 3, 8], false, 1, 1⟩,
 ⟨⟨some 37, (some (30, false)), .prim (.fadr 1 (.tmp 36))⟩, [0, 1, 2, 3, 8, 9], false, 1, 1⟩,
 ⟨⟨some 38, (some (30, false)), .prim (.load 1 false (.tmp 37))⟩, [0, 1, 2, 3, 8, 9, 10], false, 1, 1⟩,
 ⟨⟨some 39, (some (30, false)), .prim (.idxs (.tmp 34) (.tmp 38))⟩, [0, 1, 2, 3, 4, 5, 6, 7, 8, 9, 10, 11], false, 1, 1⟩,
 ⟨⟨some 40, (some (30, false)), .call (.func 151) [(.tmp 39)]⟩, [0, 1, 2, 3, 4, 5, 6, 7, 8, 9, 10, 11, 12], true, 0, 0⟩,
 ⟨⟨some 41, (some (30, false)), .prim (.un .not (.tmp 40))⟩, [0, 1, 2, 3, 4, 5, 6, 7, 8, 9, 10, 11, 12, 13], false, 2, 2⟩,
 ⟨⟨some 42, none, .prim (.pick (.tmp 30) (.const (.bool true)) (.tmp 41))⟩, [0, 1, 2, 3, 4, 5, 6, 7, 8, 9, 10, 11, 12, 13, 14], false, 2, 2⟩])
 (.cond (.tmp 42)
 (.seq (.ops [⟨some 43, none, .prim (.mov (.tmp 0))⟩,
 ⟨some 44, none, .call (.func 152) [(.tmp 43)]⟩])
 (.seq (.ops [⟨some 2, none, .prim (.mov (.const (.int .u8 0)))⟩])
 .ret))
 .skip))
 (.seq (.ops [⟨some 45, none, .prim (.mov (.tmp 0))⟩,
 ⟨some 46, none, .prim (.nilc (.tmp 45))⟩,
 ⟨some 47, none, .prim (.fadr 1 (.tmp 46))⟩,
 ⟨some 48, none, .prim (.load 1 false (.tmp 47))⟩,
 ⟨some 49, none, .prim (.bin false .add (.tmp 48) (.const (.int .i64 1)))⟩,
 ⟨some 50, none, .prim (.nilc (.tmp 45))⟩,
 ⟨some 51, none, .prim (.fadr 1 (.tmp 50))⟩,
 ⟨none, none, .prim (.store 1 (.tmp 51) (.tmp 49))⟩])
 (.seq (.draw [⟨⟨some 52, none, .prim (.mov (.tmp 0))⟩, [], false, 0, 0⟩,
 ⟨⟨some 53, none, .prim (.nilc (.tmp 52))⟩, [0], false, 0, 0⟩,
 ⟨⟨some 54, none, .prim (.fadr 0 (.tmp 53))⟩, [0, 1], false, 0, 0⟩,
 ⟨⟨some 55, none, .prim (.load 1 false (.tmp 54))⟩, [0, 1, 2], false, 0, 0⟩,
 ⟨⟨some 56, none, .prim (.mov (.tmp 0))⟩, [], false, 0, 0⟩,
 ⟨⟨some 57, none, .prim (.nilc (.tmp 56))⟩, [4], false, 0, 0⟩,
 ⟨⟨some 58, none, .prim (.fadr 1 (.tmp 57))⟩, [4, 5], false, 0, 0⟩,
 ⟨⟨some 59, none, .prim (.load 1 false (.tmp 58))⟩, [4, 5, 6], false, 0, 0⟩,
 ⟨⟨some 60, none, .prim (.bin false .sub (.tmp 59) (.const (.int .i64 1)))⟩, [4, 5, 6, 7], false, 0, 0⟩,
 ⟨⟨some 61, none, .prim (.idxs (.tmp 55) (.tmp 60))⟩, [0, 1, 2, 3, 4, 5, 6, 7, 8], false, 0, 0⟩,
 ⟨⟨some 2, none, .prim (.mov (.tmp 61))⟩, [0, 1, 2, 3, 4, 5, 6, 7, 8, 9], false, 0, 0⟩])
 .ret)))
 .skip))
 (.seq (.seq (.ops [⟨some 62, none, .prim (.mov (.tmp 3))⟩,
 ⟨some 63, none, .prim (.bin false .eql (.tmp 62) (.const (.int .u8 93)))⟩,
 ⟨some 64, none, .prim (.mov (.tmp 63))⟩,
 ⟨some 65, (some (64, false)), .prim (.mov (.tmp 3))⟩,
 ⟨some 66, (some (64, false)), .prim (.bin false .eql (.tmp 65) (.const (.int .u8 91)))⟩,
 ⟨some 67, none, .prim (.pick (.tmp 64) (.const (.bool true)) (.tmp 66))⟩,
 ⟨some 68, none, .prim (.mov (.tmp 67))⟩,
 ⟨some 69, (some (68, false)), .prim (.mov (.tmp 3))⟩,
 ⟨some 70, (some (68, false)), .prim (.bin false .eql (.tmp 69) (.const (.int .u8 94)))⟩,
 ⟨some 71, none, .prim (.pick (.tmp 68) (.const (.bool true)) (.tmp 70))⟩,
 ⟨some 72, none, .prim (.mov (.tmp 71))⟩,
 ⟨some 73, (some (72, false)), .prim (.mov (.tmp 3))⟩,
 ⟨some 74, (some (72, false)), .prim (.bin false .eql (.tmp 73) (.const (.int .u8 45)))⟩,
 ⟨some 75, none, .prim (.pick (.tmp 72) (.const (.bool true)) (.tmp 74))⟩])
 (.cond (.tmp 75)
 (.ops [⟨some 76, none, .prim (.mov (.tmp 0))⟩,
 ⟨some 77, none, .call (.func 152) [(.tmp 76)]⟩])
 .skip))
 (.seq (.ops [⟨some 78, none, .prim (.mov (.tmp 3))⟩,
 ⟨some 2, none, .prim (.mov (.tmp 78))⟩])
 .ret)))))))
def o158 : List Tmp := []
def r158 : List RV := [.tmp 2]
theorem t158 : Text Try.prog 158 o158 c158 r158 79 := ⟨⟨Try.f158, _, by kernel_rfl, by kernel_rfl, rfl, by kernel_rfl, by kernel_rfl, rfl⟩, by kernel_rfl⟩
end Go.Proofs.Ytoadgajhkhejiaa
namespace Go.Ab
open Go
inductive Fr where
  | seq (b : ACode)
  | block (id : Nat)
  | after (g : Ghost)
  | loop (I : Env → St → Prop) (clr : List Tmp)
abbrev Bs := AExit → Env → St → Prop
def kk (P : Program) (n0 : Nat) : List Fr → Bs → Bs
  | [], B => B
  | .seq b :: k, B => fun e env σ => match e with
      | .normal => ax P n0 b (kk P n0 k B) env σ
      | e => kk P n0 k B e env σ
  | .block id :: k, B => fun e env σ => match e with
      | .exit j => if j = id then kk P n0 k B .normal env σ else kk P n0 k B (.exit j) env σ
      | e => kk P n0 k B e env σ
  | .after g :: k, B => fun e env σ => match e with
      | .normal => gh n0 g env σ (kk P n0 k B .normal)
      | e => kk P n0 k B e env σ
  | .loop I clr :: k, B => fun e env σ => match e with
      | .normal => I (clearA env clr) σ
      | e => kk P n0 k B e env σ
section
variable (P : Program) (n0 : Nat)
def R (x : ACode) (k : List Fr) (B : Bs) (env : Env) (σ : St) : Prop := ax P n0 x (kk P n0 k B) env σ
def N (k : List Fr) (B : Bs) (env : Env) (σ : St) : Prop := kk P n0 k B .normal env σ
def X (id : Nat) (k : List Fr) (B : Bs) (env : Env) (σ : St) : Prop := kk P n0 k B (.exit id) env σ
def T (k : List Fr) (B : Bs) (env : Env) (σ : St) : Prop := kk P n0 k B .ret env σ
def O (l : List AOper) (k : List Fr) (B : Bs) (env : Env) (σ : St) : Prop := axops P (fun env σ => N P n0 k B env σ) l env σ
def D (l : List DOper) (k : List Fr) (B : Bs) (env : Env) (S : List St) (σ : St) (ob : List St → Prop) : Prop := axd P (fun env σ => N P n0 k B env σ) l env S σ ob
def C (t : Bool) (x y : ACode) (k : List Fr) (B : Bs) (env : Env) (σ : St) : Prop := if t then R P n0 x k B env σ else R P n0 y k B env σ
def L (clr : List Tmp) (x : ACode) (k : List Fr) (B : Bs) (env : Env) (σ : St) : Prop := LoopP (fun I env σ => R P n0 x (.loop I clr :: k) B env σ) env σ
def G (g : Ghost) (env : Env) (σ : St) (x : ACode) (k : List Fr) (B : Bs) : Prop := gh n0 g env σ fun env σ => R P n0 x k B env σ
def OG (w : Bool) (d : Option Tmp) (op : AOp) (l : List AOper) (k : List Fr) (B : Bs) (env : Env) (σ : St) : Prop :=
  if w then O P n0 (⟨d, none, op⟩ :: l) k B env σ else O P n0 l k B (putA env d (.tup [])) σ
def DG (w : Bool) (d : Option Tmp) (op : AOp) (bef : List Nat) (eff : Bool) (lo hi : Nat) (l : List DOper) (k : List Fr) (B : Bs) (env : Env) (S : List St) (σ : St) (ob : List St → Prop) : Prop :=
  if w then D P n0 (⟨⟨d, none, op⟩, bef, eff, lo, hi⟩ :: l) k B env S σ ob else D P n0 l k B (putA env d (.tup [])) (if eff then S ++ [σ] else S) σ ob
def CO (f : FuncId) (args : List AV) (d : Option Tmp) (l : List AOper) (k : List Fr) (B : Bs) (env : Env) (σ : St) : Prop :=
  ∃ r σ', Ans P f args σ r σ' ∧ O P n0 l k B (putA env d r) σ'
def CD (f : FuncId) (args : List AV) (d : Option Tmp) (l : List DOper) (k : List Fr) (B : Bs) (env : Env) (S : List St) (σ : St) (ob : List St → Prop) : Prop :=
  ∃ r σ', Ans P f args σ r σ' ∧ D P n0 l k B (putA env d r) (S ++ [σ']) σ' ob
section
variable {P n0} {k : List Fr} {B : Bs} {env : Env} {σ : St} {S : List St} {ob : List St → Prop}
theorem R_seq (a b : ACode) : R P n0 (.seq a b) k B env σ = R P n0 a (.seq b :: k) B env σ := by
  unfold R; simp only [ax]; rfl
theorem R_skip : R P n0 .skip k B env σ = N P n0 k B env σ := rfl
theorem R_ret : R P n0 .ret k B env σ = T P n0 k B env σ := rfl
theorem R_exit (id : Nat) : R P n0 (.exit id) k B env σ = X P n0 id k B env σ := rfl
theorem R_ops (l : List AOper) : R P n0 (.ops l) k B env σ = O P n0 l k B env σ := rfl
theorem R_draw (l : List DOper) : R P n0 (.draw l) k B env σ = D P n0 l k B env [σ] σ (fun _ => True) := rfl
theorem R_block (id : Nat) (a : ACode) : R P n0 (.block id a) k B env σ = R P n0 a (.block id :: k) B env σ := by
  unfold R; simp only [ax]; rfl
theorem R_after (a : ACode) (g : Ghost) : R P n0 (.after a g) k B env σ = R P n0 a (.after g :: k) B env σ := by
  unfold R; simp only [ax]; rfl
theorem R_ghost (a : ACode) (g : Ghost) : R P n0 (.ghost g a) k B env σ = G P n0 g env σ a k B := rfl
theorem R_cond (c : Operand) (a b : ACode) : R P n0 (.cond c a b) k B env σ = (match boolA (aev env c) with
    | some t => C P n0 t a b k B env σ
    | none => False) := by
  unfold R; simp only [ax]; cases boolA (aev env c) with
  | none => rfl
  | some t => cases t <;> rfl
theorem R_loop (clr : List Tmp) (a : ACode) : R P n0 (.loop clr a) k B env σ = L P n0 clr a k B (clearA env clr) σ := by
  unfold R L; simp only [ax]
  rfl
theorem N_seq (b : ACode) : N P n0 (.seq b :: k) B env σ = R P n0 b k B env σ := rfl
theorem N_block (id : Nat) : N P n0 (.block id :: k) B env σ = N P n0 k B env σ := rfl
theorem N_after (g : Ghost) : N P n0 (.after g :: k) B env σ = G P n0 g env σ .skip k B := rfl
theorem N_loop (I : Env → St → Prop) (clr : List Tmp) : N P n0 (.loop I clr :: k) B env σ = I (clearA env clr) σ := rfl
theorem N_nil : N P n0 [] B env σ = B .normal env σ := rfl
theorem X_seq (id : Nat) (b : ACode) : X P n0 id (.seq b :: k) B env σ = X P n0 id k B env σ := rfl
theorem X_after (id : Nat) (g : Ghost) : X P n0 id (.after g :: k) B env σ = X P n0 id k B env σ := rfl
theorem X_loop (id : Nat) (I : Env → St → Prop) (clr : List Tmp) : X P n0 id (.loop I clr :: k) B env σ = X P n0 id k B env σ := rfl
theorem X_block (id j : Nat) : X P n0 id (.block j :: k) B env σ = if id = j then N P n0 k B env σ else X P n0 id k B env σ := rfl
theorem T_seq (b : ACode) : T P n0 (.seq b :: k) B env σ = T P n0 k B env σ := rfl
theorem T_block (id : Nat) : T P n0 (.block id :: k) B env σ = T P n0 k B env σ := rfl
theorem T_after (g : Ghost) : T P n0 (.after g :: k) B env σ = T P n0 k B env σ := rfl
theorem T_loop (I : Env → St → Prop) (clr : List Tmp) : T P n0 (.loop I clr :: k) B env σ = T P n0 k B env σ := rfl
theorem T_nil : T P n0 [] B env σ = B .ret env σ := rfl
theorem C_true (x y : ACode) : C P n0 true x y k B env σ = R P n0 x k B env σ := rfl
theorem C_false (x y : ACode) : C P n0 false x y k B env σ = R P n0 y k B env σ := rfl
theorem O_nil : O P n0 [] k B env σ = N P n0 k B env σ := rfl
theorem O_prim (d : Option Tmp) (ao : AO) (l : List AOper) : O P n0 (⟨d, none, .prim ao⟩ :: l) k B env σ = (match aop (aev env) σ ao with
    | some (r, σ') => O P n0 l k B (putA env d r) σ'
    | none => False) := rfl
theorem O_fresh (t : Option Tmp) (n d : Nat) (x : Operand) (l : List AOper) : O P n0 (⟨t, none, .fresh n d x⟩ :: l) k B env σ =
    if d < env.length ∧ (aev env x).okc ∧ (aev env x).cells.length = n then O P n0 l k B (putA env t (.rp (aev env x).cells)) σ else False := rfl
theorem O_guard (d : Option Tmp) (t : Tmp) (w : Bool) (op : AOp) (l : List AOper) : O P n0 (⟨d, some (t, w), op⟩ :: l) k B env σ = (match wantA env (some (t, w)) with
    | some b => OG P n0 b d op l k B env σ
    | none => False) := by
  unfold O; simp only [axops]; cases wantA env (some (t, w)) with
  | none => rfl
  | some b => cases b <;> rfl
theorem OG_true (d : Option Tmp) (op : AOp) (l : List AOper) : OG P n0 true d op l k B env σ = O P n0 (⟨d, none, op⟩ :: l) k B env σ := rfl
theorem OG_false (d : Option Tmp) (op : AOp) (l : List AOper) : OG P n0 false d op l k B env σ = O P n0 l k B (putA env d (.tup [])) σ := rfl
theorem O_call (d : Option Tmp) (f : Operand) (args : List Operand) (l : List AOper) : O P n0 (⟨d, none, .call f args⟩ :: l) k B env σ = (match aev env f with
    | .fn g fs cs => CO P n0 g (fs ++ args.map (aev env) ++ cs) d l k B env σ
    | _ => False) := rfl
theorem CO.intro {f : FuncId} {args : List AV} {d : Option Tmp} {l : List AOper} {r : AV} {σ' : St} (h : Ans P f args σ r σ') (h' : O P n0 l k B (putA env d r) σ') : CO P n0 f args d l k B env σ := ⟨r, σ', h, h'⟩
theorem D_nil : D P n0 [] k B env S σ ob = (ob S ∧ N P n0 k B env σ) := rfl
theorem D_eff (d : Option Tmp) (ao : AO) (bef : List Nat) (lo hi : Nat) (l : List DOper) : D P n0 (⟨⟨d, none, .prim ao⟩, bef, true, lo, hi⟩ :: l) k B env S σ ob = (match aop (aev env) σ ao with
    | some (r, σ') => D P n0 l k B (putA env d r) (S ++ [σ']) σ' ob
    | none => False) := rfl
theorem D_stay (d : Option Tmp) (ao : AO) (bef : List Nat) (lo hi : Nat) (l : List DOper) : D P n0 (⟨⟨d, none, .prim ao⟩, bef, false, lo, hi⟩ :: l) k B env S σ ob = (match aop (aev env) σ ao with
    | some (r, σ') => σ' = σ ∧ D P n0 l k B (putA env d r) S σ (fun T => ob T ∧ ∀ s ∈ (T.take (hi + 1)).drop lo, aop (aev env) s ao = some (r, s))
    | none => False) := by
  unfold D
  simp only [axd, wantA, Bool.false_eq_true, if_false, stay]
  cases h : aop (aev env) σ ao with
  | none => simp
  | some x =>
    obtain ⟨r, σ'⟩ := x
    simp only [Option.some.injEq, Prod.mk.injEq]
    apply propext
    constructor
    · rintro ⟨r', ⟨rfl, rfl⟩, h2⟩; exact ⟨rfl, h2⟩
    · rintro ⟨rfl, h2⟩; exact ⟨r, ⟨rfl, rfl⟩, h2⟩
theorem D_flo (d : Option Tmp) (n : Nat) (bef : List Nat) (lo hi : Nat) (l : List DOper) : D P n0 (⟨⟨d, none, .flo n⟩, bef, false, lo, hi⟩ :: l) k B env S σ ob =
    D P n0 l k B (putA env d .any) S σ (fun T => ob T ∧ ∀ s ∈ (T.take (hi + 1)).drop lo, True) := by
  unfold D
  simp only [axd, wantA, Bool.false_eq_true, if_false, stay]
  apply propext
  constructor
  · rintro ⟨r, rfl, h⟩; simpa using h
  · intro h; exact ⟨.any, rfl, by simpa using h⟩
theorem D_adopt (t : Option Tmp) (own : Bool) (d n : Nat) (x : Operand) (bef : List Nat) (lo hi : Nat) (l : List DOper) : D P n0 (⟨⟨t, none, .adopt own d n x⟩, bef, true, lo, hi⟩ :: l) k B env S σ ob =
    if d < env.length ∧ (aev env x).okc ∧ (aev env x).cells.length = n then
      D P n0 l k B (putA env t (if own then .ptr σ.length 0 else .rp (aev env x).cells)) (S ++ [if own then σ ++ [.box (aev env x).cells] else σ]) (if own then σ ++ [.box (aev env x).cells] else σ) ob else False := by
  unfold D
  simp only [axd, wantA, if_true, axop]
  split
  · cases own <;> rfl
  · rfl
theorem D_guard (d : Option Tmp) (t : Tmp) (w : Bool) (op : AOp) (bef : List Nat) (eff : Bool) (lo hi : Nat) (l : List DOper) : D P n0 (⟨⟨d, some (t, w), op⟩, bef, eff, lo, hi⟩ :: l) k B env S σ ob =
    (match wantA env (some (t, w)) with
    | some b => DG P n0 b d op bef eff lo hi l k B env S σ ob
    | none => False) := by
  unfold D; simp only [axd]; cases wantA env (some (t, w)) with
  | none => rfl
  | some b => cases b <;> rfl
theorem DG_true (d : Option Tmp) (op : AOp) (bef : List Nat) (eff : Bool) (lo hi : Nat) (l : List DOper) : DG P n0 true d op bef eff lo hi l k B env S σ ob = D P n0 (⟨⟨d, none, op⟩, bef, eff, lo, hi⟩ :: l) k B env S σ ob := rfl
theorem DG_false (d : Option Tmp) (op : AOp) (bef : List Nat) (eff : Bool) (lo hi : Nat) (l : List DOper) : DG P n0 false d op bef eff lo hi l k B env S σ ob = D P n0 l k B (putA env d (.tup [])) (if eff then S ++ [σ] else S) σ ob := rfl
theorem D_call (d : Option Tmp) (f : Operand) (args : List Operand) (bef : List Nat) (lo hi : Nat) (l : List DOper) : D P n0 (⟨⟨d, none, .call f args⟩, bef, true, lo, hi⟩ :: l) k B env S σ ob = (match aev env f with
    | .fn g fs cs => CD P n0 g (fs ++ args.map (aev env) ++ cs) d l k B env S σ ob
    | _ => False) := by
  unfold D CD; simp only [axd, wantA, if_true, axop]
  cases aev env f <;> rfl
theorem CD.intro {f : FuncId} {args : List AV} {d : Option Tmp} {l : List DOper} {r : AV} {σ' : St} (h : Ans P f args σ r σ') (h' : D P n0 l k B (putA env d r) (S ++ [σ']) σ' ob) : CD P n0 f args d l k B env S σ ob := ⟨r, σ', h, h'⟩
theorem put_some (d : Tmp) (r : AV) : putA env (some d) r = env.set d r := rfl
theorem put_none (r : AV) : putA env none r = env := rfl
theorem L.intro {α : Type} (m : α → Nat) (E : α → Env) (Z : α → St) {clr : List Tmp} {x : ACode}
    (h : ∀ (a : α) (I : Env → St → Prop), (∀ a', m a' < m a → I (E a') (Z a')) → R P n0 x (.loop I clr :: k) B (E a) (Z a)) (a : α) (he : env = E a) (hs : σ = Z a) : L P n0 clr x k B env σ := by
  subst he; subst hs
  intro I hI
  have key : ∀ n a, m a = n → I (E a) (Z a) := by
    intro n
    induction n using Nat.strongRecOn with
    | ind n ih =>
      intro a ha
      exact hI _ _ (h a I fun a' ha' => ih (m a') (ha ▸ ha') a' rfl)
  exact key _ a rfl
theorem L.count (n : Nat) (E : Nat → Env) (Z : Nat → St) {clr : List Tmp} {x : ACode}
    (h : ∀ i, i < n → ∀ I : Env → St → Prop, I (E (i + 1)) (Z (i + 1)) → R P n0 x (.loop I clr :: k) B (E i) (Z i))
    (h' : ∀ I : Env → St → Prop, R P n0 x (.loop I clr :: k) B (E n) (Z n)) (he : env = E 0) (hs : σ = Z 0) : L P n0 clr x k B env σ := by
  refine L.intro (α := { i : Nat // i ≤ n }) (fun i => n - i.1) (fun i => E i.1) (fun i => Z i.1) (fun ⟨i, hi⟩ I hI => ?_) ⟨0, Nat.zero_le _⟩ he hs
  by_cases hlt : i < n
  · exact h i hlt I (hI ⟨i + 1, hlt⟩ (by simp only; omega))
  · have : i = n := by omega
    subst this
    exact h' I
theorem Rep.bel {M : Nat → Prop} {ν : Nat → Value} {w : World} {x : AV} {v : Value} (h : Rep M (RefOK σ ν) w x v) : Bel σ.length x := by
  have key : ∀ l, (σ[l]?).isSome → l < σ.length := fun l h => by
    obtain ⟨o, ho⟩ := Option.isSome_iff_exists.1 h
    exact (List.getElem?_eq_some_iff.1 ho).1
  have cells : ∀ x : AV, (∀ j (hj : j < x.cells.length), Bel σ.length (x.cells[j])) → Bel σ.length x := by
    intro x hx
    cases x with
    | agg cs => exact .agg cs hx
    | _ => exact hx 0 (by simp [AV.cells])
  induction h with
  | any v => exact .any
  | pl v => exact .pl v
  | nils => exact .nils
  | sl0 sz a cap => exact .sl sz [] (fun j hj => by simp at hj)
  | sl sz xs b o cap f hcap hc _ ih => exact .sl sz xs fun i hi => cells _ fun j hj => ih i j hi hj
  | rp cs b o f hc _ ih => exact .rp cs ih
  | ptr l off b o h =>
    refine .ptr l off (key l ?_)
    simp only [RefOK] at h
    cases hh : σ[l]? with
    | none => simp [hh] at h
    | some o => rfl
  | osl l n a len cap h =>
    refine .osl l n (key l ?_)
    simp only [RefOK] at h
    cases hh : σ[l]? with
    | none => simp [hh] at h
    | some o => rfl
  | ep l n i off b o h =>
    refine .ep l n i off (key l ?_)
    simp only [RefOK] at h
    cases hh : σ[l]? with
    | none => simp [hh] at h
    | some o => rfl
  | psl l off n b o h =>
    refine .psl l off n (key l ?_)
    simp only [RefOK] at h
    cases hh : σ[l]? with
    | none => simp [hh] at h
    | some o => rfl
  | zsl a => exact .zsl
  | win sz l n lo b o cap hl0 h =>
    refine .win sz l n lo (key l ?_)
    simp only [RefOK] at h
    cases hh : σ[l]? with
    | none => simp [hh] at h
    | some o => rfl
  | agg cs vs hl _ ih => exact .agg cs fun j hj => ih j hj (by omega)
  | tup cs vs hl _ ih => exact .tup cs fun j hj => ih j hj (by omega)
  | fn g fs cs us vs hl hl' _ _ ih ih' => exact .fn g fs cs (fun j hj => ih j hj (by omega)) (fun j hj => ih' j hj (by omega))
theorem ObOK.bel {M : Nat → Prop} {ν : Nat → Value} {w : World} {o : Ob} {v : Value} (h : ObOK M (RefOK σ ν) w o v) : BelO σ.length o := by
  cases h with
  | dead => trivial
  | box cs b o c e fr hM hh hs hf hr =>
    intro x hx
    obtain ⟨j, hj, rfl⟩ := List.getElem_of_mem hx
    exact (hr j hj c[o + j] (by simp [show o + j < c.size by omega])).bel
  | glo g vs v hv2 hv3 hc => trivial
  | row0 => intro x hx; cases hx
  | row sz xs b o cap c e fr hM hh hlen hs hf hr =>
    intro x hx
    obtain ⟨i, hi, rfl⟩ := List.getElem_of_mem hx
    have cells : ∀ x : AV, (∀ j (hj : j < x.cells.length), Bel σ.length (x.cells[j])) → Bel σ.length x := by
      intro x hx
      cases x with
      | agg cs => exact .agg cs hx
      | _ => exact hx 0 (by simp [AV.cells])
    refine cells _ fun j hj => ?_
    obtain ⟨q1, q2⟩ := hr i j hi hj
    have := idx_lt (i := i) (k := cap) (by omega) q1
    exact (q2 c[o + (i * sz + j)] (by simp [show o + (i * sz + j) < c.size by omega])).bel
theorem Good.bel {M : Nat → Prop} {ν : Nat → Value} {w : World} (g : Good M σ ν w) : ∀ o ∈ σ, BelO σ.length o := by
  intro o ho
  obtain ⟨l, hl⟩ := List.mem_iff_getElem?.1 ho
  exact (g.ob l o hl).bel
theorem Ans.of_run {f : FuncId} {own : List Tmp} {x : ACode} {rvs : List RV} {n : Nat} {args : List AV} {r : AV} {σ' : St} (ht : Text P f own x rvs n)
    (h : R P σ.length x [] (Fini σ.length rvs r σ') (args ++ List.replicate (n - args.length) .any) σ) : Ans P f args σ r σ' := Ans.of_ax ht h
theorem Ans.of_run' {f : FuncId} {own : List Tmp} {x : ACode} {rvs : List RV} {n : Nat} {args : List AV} {r : AV} {σ' : St} (ht : Text P f own x rvs n)
    (h : (∀ o ∈ σ, BelO σ.length o) → (∀ x ∈ args, Bel σ.length x) → R P σ.length x [] (Fini σ.length rvs r σ') (args ++ List.replicate (n - args.length) .any) σ) : Ans P f args σ r σ' := by
  intro M ν w vs g hvs
  refine Ans.of_ax ht (h g.bel (fun x hx => ?_)) M ν w vs g hvs
  obtain ⟨j, hj, rfl⟩ := List.getElem_of_mem hx
  exact (hvs.2 j hj (by have := hvs.1; omega)).bel
theorem Fini.ret {m : Nat} {rvs : List RV} {r : AV} (h : resA env σ rvs = some r) : Fini m rvs r σ .ret env σ := ⟨r, σ, h, rfl, rfl, .inl rfl⟩
theorem Fini.normal {m : Nat} {rvs : List RV} {r : AV} (h : resA env σ rvs = some r) : Fini m rvs r σ .normal env σ := ⟨r, σ, h, rfl, rfl, .inl rfl⟩
theorem bel_set {m l : Nat} {o : Ob} (h : ∀ o ∈ σ, BelO m o) (ho : BelO m o) : ∀ x ∈ σ.set l o, BelO m x := by
  intro x hx
  rcases List.mem_or_eq_of_mem_set hx with h' | h'
  · exact h x h'
  · rw [h']; exact ho
def mkE (n : Nat) (l : List (Nat × AV)) : Env := l.foldl (fun e p => e.set p.1 p.2) (List.replicate n .any)
end
end
attribute [irreducible] R N X T O D C L G OG DG CO CD
end Go.Ab
namespace Go.Ab
open Go
def sameVal : Value → Value → Bool
  | .bool a, .bool b => a == b
  | .int k a, .int k' b => decide (k = k') && decide (a = b)
  | .float k a, .float k' b => decide (k = k') && decide (a = b)
  | .string a, .string b => decide (a.data.toList = b.data.toList)
  | .pointer none, .pointer none => true
  | .slice none 0 0, .slice none 0 0 => true
  | .nilFunc, .nilFunc => true
  | .nilIface, .nilIface => true
  | .map none, .map none => true
  | _, _ => false
theorem sameVal_eq {a b : Value} (h : sameVal a b = true) : a = b := by
  unfold sameVal at h
  split at h <;> simp at h
  · rw [h]
  · rw [h.1, h.2]
  · rw [h.1, h.2]
  · rename_i a b
    have : a.data = b.data := h
    cases a; cases b; simp at this; rw [this]
  all_goals rfl
mutual
def AV.same : AV → AV → Bool
  | .any, .any => true
  | .pl u, .pl v => sameVal u v
  | .nils, .nils => true
  | .sl n xs, .sl m ys => decide (n = m) && sameL xs ys
  | .rp xs, .rp ys => sameL xs ys
  | .ptr a b, .ptr c d => decide (a = c) && decide (b = d)
  | .osl a b, .osl c d => decide (a = c) && decide (b = d)
  | .ep a b c d, .ep a' b' c' d' => decide (a = a') && decide (b = b') && decide (c = c') && decide (d = d')
  | .psl a b c, .psl a' b' c' => decide (a = a') && decide (b = b') && decide (c = c')
  | .zsl, .zsl => true
  | .win a b c d, .win a' b' c' d' => decide (a = a') && decide (b = b') && decide (c = c') && decide (d = d')
  | .agg xs, .agg ys => sameL xs ys
  | .tup xs, .tup ys => sameL xs ys
  | .fn f as bs, .fn g cs ds => decide (f = g) && sameL as cs && sameL bs ds
  | _, _ => false
def sameL : List AV → List AV → Bool
  | [], [] => true
  | x :: xs, y :: ys => x.same y && sameL xs ys
  | _, _ => false
end
mutual
theorem AV.same_eq : ∀ (a b : AV), a.same b = true → a = b
  | .any, b, h => by cases b <;> simp [AV.same] at h; rfl
  | .pl u, b, h => by cases b <;> simp [AV.same] at h; rw [sameVal_eq h]
  | .nils, b, h => by cases b <;> simp [AV.same] at h; rfl
  | .sl n xs, b, h => by cases b <;> simp [AV.same] at h; rw [h.1, sameL_eq _ _ h.2]
  | .rp xs, b, h => by cases b <;> simp [AV.same] at h; rw [sameL_eq _ _ h]
  | .ptr _ _, b, h => by cases b <;> simp [AV.same] at h; rw [h.1, h.2]
  | .osl _ _, b, h => by cases b <;> simp [AV.same] at h; rw [h.1, h.2]
  | .ep _ _ _ _, b, h => by cases b <;> simp [AV.same] at h; obtain ⟨⟨⟨h1, h2⟩, h3⟩, h4⟩ := h; rw [h1, h2, h3, h4]
  | .psl _ _ _, b, h => by cases b <;> simp [AV.same] at h; obtain ⟨⟨h1, h2⟩, h3⟩ := h; rw [h1, h2, h3]
  | .zsl, b, h => by cases b <;> simp [AV.same] at h; rfl
  | .win _ _ _ _, b, h => by cases b <;> simp [AV.same] at h; obtain ⟨⟨⟨h1, h2⟩, h3⟩, h4⟩ := h; rw [h1, h2, h3, h4]
  | .agg xs, b, h => by cases b <;> simp [AV.same] at h; rw [sameL_eq _ _ h]
  | .tup xs, b, h => by cases b <;> simp [AV.same] at h; rw [sameL_eq _ _ h]
  | .fn f as bs, b, h => by cases b <;> simp [AV.same] at h; obtain ⟨⟨h1, h2⟩, h3⟩ := h; rw [h1, sameL_eq _ _ h2, sameL_eq _ _ h3]
theorem sameL_eq : ∀ (a b : List AV), sameL a b = true → a = b
  | [], b, h => by cases b <;> simp [sameL] at h; rfl
  | x :: xs, b, h => by cases b <;> simp [sameL] at h; rw [AV.same_eq _ _ h.1, sameL_eq _ _ h.2]
end
def AO.still : AO → Bool
  | .boxm _ | .allocm _ | .bsl true .. | .store .. | .app .. | .strm _ | .mks .. | .copy .. | .appz .. | .slco .. | .clr .. => false
  | _ => true
def AO.free : AO → Bool
  | .boxm _ | .allocm _ | .bsl true .. | .store .. | .app .. | .load .. | .iadrs .. | .lenv _ | .giadr .. | .strm _ | .mks .. | .copy .. | .appz .. | .slco .. | .clr .. | .slcw .. | .isnil .. | .b2s _ => false
  | _ => true
theorem aop_still {ρ : Operand → AV} {σ σ' : St} {ao : AO} {r : AV} (hs : ao.still = true) (h : aop ρ σ ao = some (r, σ')) : σ' = σ := by
  cases ao with
  | bsl own sz ag n z ps => cases own <;> simp [AO.still] at hs; simp [aop] at h; grind
  | boxm x => simp [AO.still] at hs
  | allocm z => simp [AO.still] at hs
  | store n a x => simp [AO.still] at hs
  | app sz x y => simp [AO.still] at hs
  | strm x => simp [AO.still] at hs
  | mks sz ag z x y => simp [AO.still] at hs
  | copy x y => simp [AO.still] at hs
  | appz sz ag z x y => simp [AO.still] at hs
  | slco sz x lo hi => simp [AO.still] at hs
  | clr sz ag z x => simp [AO.still] at hs
  | _ => simp only [aop] at h <;> grind [Option.map_eq_some_iff]
theorem aop_free {ρ : Operand → AV} {σ σ' : St} {ao : AO} {r : AV} (hs : ao.free = true) (h : aop ρ σ ao = some (r, σ')) (s : St) : aop ρ s ao = some (r, s) := by
  cases ao with
  | bsl own sz ag n z ps => cases own <;> simp [AO.free] at hs; simp [aop] at h ⊢; grind
  | boxm x => simp [AO.free] at hs
  | allocm z => simp [AO.free] at hs
  | store n a x => simp [AO.free] at hs
  | app sz x y => simp [AO.free] at hs
  | strm x => simp [AO.free] at hs
  | mks sz ag z x y => simp [AO.free] at hs
  | copy x y => simp [AO.free] at hs
  | appz sz ag z x y => simp [AO.free] at hs
  | slco sz x lo hi => simp [AO.free] at hs
  | clr sz ag z x => simp [AO.free] at hs
  | slcw sz x lo => simp [AO.free] at hs
  | isnil neg p x => simp [AO.free] at hs
  | b2s x => simp [AO.free] at hs
  | giadr k sz len i => simp [AO.free] at hs
  | load n ag x => simp [AO.free] at hs
  | iadrs sz x i => simp [AO.free] at hs
  | lenv x => simp [AO.free] at hs
  | _ => simp only [aop] at h ⊢ <;> (repeat' split at h) <;> simp_all <;> grind
/- What is reckoned is reckoned at once: each such step hands on what it was given, brought to its form. -/
def frcL {α β : Type} : List β → (List β → α) → α
  | [], k => k []
  | x :: xs, k => frcL xs fun ys => k (x :: ys)
@[simp] theorem frcL_eq {α β : Type} : ∀ (l : List β) (k : List β → α), frcL l k = k l
  | [], _ => rfl
  | x :: xs, k => by rw [frcL, frcL_eq xs]
def frcN {α : Type} (n : Nat) (k : Nat → α) : α :=
  match n with
  | 0 => k 0
  | m + 1 => k (m + 1)
@[simp] theorem frcN_eq {α : Type} (n : Nat) (k : Nat → α) : frcN n k = k n := by cases n <;> rfl
def frcI {α : Type} (n : Int) (k : Int → α) : α :=
  match n with
  | .ofNat m => frcN m fun m => k (.ofNat m)
  | .negSucc m => frcN m fun m => k (.negSucc m)
@[simp] theorem frcI_eq {α : Type} (n : Int) (k : Int → α) : frcI n k = k n := by cases n <;> simp [frcI]
def frcV {α : Type} (v : AV) (k : AV → α) : α :=
  match v with
  | .pl (.int d n) => frcI n fun n => k (.pl (.int d n))
  | .pl (.bool true) => k (.pl (.bool true))
  | .pl (.bool false) => k (.pl (.bool false))
  | .pl (.float d n) => frcN n fun n => k (.pl (.float d n))
  | .pl (.string ⟨⟨l⟩⟩) => frcL l fun l => k (.pl (.string ⟨⟨l⟩⟩))
  | .sl n xs => frcL xs fun xs => k (.sl n xs)
  | .rp xs => frcL xs fun xs => k (.rp xs)
  | .agg xs => frcL xs fun xs => k (.agg xs)
  | .tup xs => frcL xs fun xs => k (.tup xs)
  | .ptr a b => frcN a fun a => frcN b fun b => k (.ptr a b)
  | .osl a b => frcN a fun a => frcN b fun b => k (.osl a b)
  | .ep a b c d => frcN a fun a => frcN b fun b => frcN c fun c => frcN d fun d => k (.ep a b c d)
  | .psl a b c => frcN a fun a => frcN b fun b => frcN c fun c => k (.psl a b c)
  | v => k v
@[simp] theorem frcV_eq {α : Type} (v : AV) (k : AV → α) : frcV v k = k v := by
  unfold frcV
  split <;> simp
def frcT {α : Type} : St → (St → α) → α
  | [], k => k []
  | .box cs :: s, k => frcL cs fun cs => frcT s fun s => k (.box cs :: s)
  | .row n cs :: s, k => frcL cs fun cs => frcT s fun s => k (.row n cs :: s)
  | o :: s, k => frcT s fun s => k (o :: s)
@[simp] theorem frcT_eq {α : Type} : ∀ (l : St) (k : St → α), frcT l k = k l
  | [], _ => rfl
  | .box cs :: s, k => by simp [frcT, frcT_eq s]
  | .row n cs :: s, k => by simp [frcT, frcT_eq s]
  | .dead :: s, k => by simp [frcT, frcT_eq s]
  | .glo g vs :: s, k => by simp [frcT, frcT_eq s]
def frcO {α : Type} (o : AOp) (σ : St) (k : St → α) : α :=
  match o with
  | .prim ao => if ao.still then k σ else frcT σ k
  | .call _ _ => frcL σ k
  | .fresh _ _ _ => k σ
  | .flo _ => k σ
  | .adopt _ _ _ _ => k σ
@[simp] theorem frcO_eq {α : Type} (o : AOp) (σ : St) (k : St → α) : frcO o σ k = k σ := by
  unfold frcO
  split
  · split <;> simp
  · simp
  · rfl
  · rfl
  · rfl
def sameOb : Ob → Ob → Bool
  | .dead, .dead => true
  | .box a, .box b => sameL a b
  | .row n a, .row m b => decide (n = m) && sameL a b
  | _, _ => false
def sameSt : St → St → Bool
  | [], [] => true
  | .glo g vs :: s, .glo g' vs' :: s' => decide (g = g') && (vs.length == vs'.length) && (vs.zip vs').all (fun p => sameVal p.1 p.2) && sameSt s s'
  | a :: s, b :: s' => sameOb a b && sameSt s s'
  | _, _ => false
theorem zip_same : ∀ {vs vs' : List Value}, (vs.length == vs'.length) = true → (vs.zip vs').all (fun p => sameVal p.1 p.2) = true → vs = vs'
  | [], [], _, _ => rfl
  | [], _ :: _, h, _ => by simp at h
  | _ :: _, [], h, _ => by simp at h
  | a :: vs, b :: vs', h, h' => by
    simp only [List.zip_cons_cons, List.all_cons, Bool.and_eq_true] at h'
    rw [sameVal_eq h'.1, zip_same (by simpa using h) h'.2]
theorem sameOb_eq {a b : Ob} (h : sameOb a b = true) : a = b := by
  unfold sameOb at h
  split at h
  · rfl
  · rw [sameL_eq _ _ h]
  · simp only [Bool.and_eq_true, decide_eq_true_eq] at h
    rw [h.1, sameL_eq _ _ h.2]
  · cases h
theorem sameSt_eq : ∀ {a b : St}, sameSt a b = true → a = b
  | [], [], _ => rfl
  | [], _ :: _, h => by simp [sameSt] at h
  | a :: s, [], h => by cases a <;> simp [sameSt] at h
  | a :: s, b :: s', h => by
    unfold sameSt at h
    split at h
    · rename_i h1 h2; cases h1
    · rename_i g vs t g' vs' t' h1 h2
      simp only [List.cons.injEq] at h1 h2
      obtain ⟨rfl, rfl⟩ := h1
      obtain ⟨rfl, rfl⟩ := h2
      simp only [Bool.and_eq_true, decide_eq_true_eq] at h
      rw [h.1.1.1, zip_same h.1.1.2 h.1.2, sameSt_eq h.2]
    · rename_i x t y t' _ h1 h2
      simp only [List.cons.injEq] at h1 h2
      obtain ⟨rfl, rfl⟩ := h1
      obtain ⟨rfl, rfl⟩ := h2
      simp only [Bool.and_eq_true] at h
      rw [sameOb_eq h.1, sameSt_eq h.2]
    · cases h
abbrev Run := FuncId → List AV → St → Option (AV × St)
def evOp (run : Run) (env : Env) (σ : St) : AOp → Option (AV × St)
  | .prim ao => aop (aev env) σ ao
  | .call f args => match aev env f with
    | .fn g fs cs => run g (fs ++ args.map (aev env) ++ cs) σ
    | _ => none
  | .fresh n d x => if d < env.length ∧ (aev env x).okc ∧ (aev env x).cells.length = n then some (.rp (aev env x).cells, σ) else none
  | .flo _ | .adopt _ _ _ _ => none
def evOps (run : Run) : List AOper → Env → St → Option (Env × St)
  | [], env, σ => some (env, σ)
  | o :: os, env, σ => match wantA env o.guard with
    | some true => match evOp run env σ o.op with
      | some (r, σ') => frcV r fun r => frcL (putA env o.dst r) fun env' => frcO o.op σ' fun σ' => evOps run os env' σ'
      | none => none
    | some false => frcL (putA env o.dst (.tup [])) fun env' => evOps run os env' σ
    | none => none
def stayB (env : Env) (ao : AO) (r : AV) (s : St) : Bool :=
  match aop (aev env) s ao with
  | some (r', _) => r.same r'
  | none => false
def stayC (run : Run) (env : Env) (o : AOp) (r : AV) (s : St) : Bool :=
  match evOp run env s o with
  | some (r', s') => r.same r' && sameSt s s'
  | none => false
def evDs (run : Run) : List DOper → Env → List St → St → (List St → Bool) → Option (Env × St)
  | [], env, S, σ, ob => if ob S then some (env, σ) else none
  | d :: ds, env, S, σ, ob => match wantA env d.o.guard with
    | some true => if d.eff then (match evOp run env σ d.o.op with
        | some (r, σ') => frcV r fun r => frcL (putA env d.o.dst r) fun env' => frcO d.o.op σ' fun σ' => evDs run ds env' (S ++ [σ']) σ' ob
        | none => none)
      else (match d.o.op with
        | .prim ao => match aop (aev env) σ ao with
          | some (r, _) => frcV r fun r => frcL (putA env d.o.dst r) fun env' => if ao.free then evDs run ds env' S σ ob
            else if ao.still then evDs run ds env' S σ (fun T => ob T && ((T.take (d.hi + 1)).drop d.lo).all (stayB env ao r))
            else none
          | none => none
        | .call f args => match evOp run env σ (.call f args) with
          | some (r, σ') => frcV r fun r => frcL (putA env d.o.dst r) fun env' => if sameSt σ σ' then
              evDs run ds env' S σ (fun T => ob T && ((T.take (d.hi + 1)).drop d.lo).all (stayC run env (.call f args) r)) else none
          | none => none
        | _ => none)
    | some false => frcL (putA env d.o.dst (.tup [])) fun env' => evDs run ds env' (if d.eff then S ++ [σ] else S) σ ob
    | none => none
mutual
def belB (n : Nat) : AV → Bool
  | .any | .pl _ | .nils | .zsl => true
  | .psl l _ _ => decide (l < n)
  | .win _ l _ _ => decide (l < n)
  | .sl _ xs => belL n xs
  | .rp cs => belL n cs
  | .ptr l _ => decide (l < n)
  | .osl l _ => decide (l < n)
  | .ep l _ _ _ => decide (l < n)
  | .agg cs => belL n cs
  | .tup cs => belL n cs
  | .fn _ fs cs => belL n fs && belL n cs
def belL (n : Nat) : List AV → Bool
  | [] => true
  | x :: xs => belB n x && belL n xs
end
mutual
theorem belB_ok (n : Nat) : ∀ a : AV, belB n a = true → Bel n a
  | .any, _ => .any
  | .pl v, _ => .pl v
  | .nils, _ => .nils
  | .sl sz xs, h => .sl sz xs (Bel.of_mem (belL_ok n xs (by simpa [belB] using h)))
  | .rp cs, h => .rp cs (Bel.of_mem (belL_ok n cs (by simpa [belB] using h)))
  | .ptr l o, h => .ptr l o (by simpa [belB] using h)
  | .osl l o, h => .osl l o (by simpa [belB] using h)
  | .ep l a b c, h => .ep l a b c (by simpa [belB] using h)
  | .psl l a b, h => .psl l a b (by simpa [belB] using h)
  | .zsl, _ => .zsl
  | .win a l b c, h => .win a l b c (by simpa [belB] using h)
  | .agg cs, h => .agg cs (Bel.of_mem (belL_ok n cs (by simpa [belB] using h)))
  | .tup cs, h => .tup cs (Bel.of_mem (belL_ok n cs (by simpa [belB] using h)))
  | .fn f fs cs, h => by
    simp [belB] at h
    exact .fn f fs cs (Bel.of_mem (belL_ok n fs h.1)) (Bel.of_mem (belL_ok n cs h.2))
theorem belL_ok (n : Nat) : ∀ xs : List AV, belL n xs = true → ∀ x ∈ xs, Bel n x
  | [], _ => by simp
  | x :: xs, h => by
    simp [belL] at h
    intro y hy
    rcases List.mem_cons.1 hy with hxy | hy
    · rw [hxy]; exact belB_ok n x h.1
    · exact belL_ok n xs h.2 y hy
end
def belOB (n : Nat) : Ob → Bool
  | .dead | .glo _ _ => true
  | .box cs => belL n cs
  | .row _ xs => belL n xs
theorem belOB_ok {n : Nat} {o : Ob} (h : belOB n o = true) : BelO n o := by
  cases o with
  | dead => trivial
  | glo g vs => trivial
  | box cs => exact belL_ok n cs h
  | row sz xs => exact belL_ok n xs h
def evG (n0 : Nat) (g : Ghost) (env : Env) (σ : St) : Option (Env × St) :=
  match g with
  | .clear ts => some (clearA env ts, σ)
  | .shut t => match tmpA env t with
    | .agg cs => match sealL σ cs with
      | some (cs', σ') => some (env.set t (.agg cs'), σ')
      | none => none
    | v => match sealV σ v with
      | some (v', σ') => some (env.set t v', σ')
      | none => none
  | .own t sz => match tmpA env t with
    | .nils => some (env.set t (.osl σ.length 0), σ ++ [.row sz []])
    | _ => none
  | .keep j => if belL (n0 + j) env && (σ.take (n0 + j)).all (belOB (n0 + j)) && decide (n0 + j ≤ σ.length) then some (env, σ.take (n0 + j)) else none
def iter (step : Env → St → Option (AExit × Env × St)) (clr : List Tmp) : Nat → Env → St → Option (AExit × Env × St)
  | 0, _, _ => none
  | n + 1, env, σ => match step env σ with
    | some (.normal, env', σ') => frcL (clearA env' clr) fun env' => iter step clr n env' σ'
    | r => r
def evC (run : Run) (n0 m : Nat) : ACode → Env → St → Option (AExit × Env × St)
  | .skip, env, σ => some (.normal, env, σ)
  | .ops l, env, σ => match evOps run l env σ with
    | some (env', σ') => some (.normal, env', σ')
    | none => none
  | .draw l, env, σ => match evDs run l env [σ] σ (fun _ => true) with
    | some (env', σ') => some (.normal, env', σ')
    | none => none
  | .seq a b, env, σ => match evC run n0 m a env σ with
    | some (.normal, env', σ') => evC run n0 m b env' σ'
    | r => r
  | .cond c a b, env, σ => match boolA (aev env c) with
    | some true => evC run n0 m a env σ
    | some false => evC run n0 m b env σ
    | none => none
  | .block id a, env, σ => match evC run n0 m a env σ with
    | some (.exit j, env', σ') => if j = id then some (.normal, env', σ') else some (.exit j, env', σ')
    | r => r
  | .loop clr a, env, σ => frcL (clearA env clr) fun env => iter (evC run n0 m a) clr m env σ
  | .exit id, env, σ => some (.exit id, env, σ)
  | .ret, env, σ => some (.ret, env, σ)
  | .ghost g a, env, σ => match evG n0 g env σ with
    | some (env', σ') => frcL env' fun env' => frcT σ' fun σ' => evC run n0 m a env' σ'
    | none => none
  | .after a g, env, σ => match evC run n0 m a env σ with
    | some (.normal, env', σ') => (match evG n0 g env' σ' with
      | some (env'', σ'') => frcL env'' fun env'' => frcT σ'' fun σ'' => some (.normal, env'', σ'')
      | none => none)
    | r => r
structure Fun (P : Program) where
  f : FuncId
  own : List Tmp
  x : ACode
  rvs : List RV
  n : Nat
  t : Text P f own x rvs n
structure Ext (P : Program) where
  f : FuncId
  go : List AV → St → Option (AV × St)
  ok : ∀ args σ r σ', go args σ = some (r, σ') → Ans P f args σ r σ'
def findF {P : Program} (f : FuncId) : List (Fun P) → Option (Fun P)
  | [] => none
  | F :: Fs => if F.f = f then some F else findF f Fs
def findE {P : Program} (f : FuncId) : List (Ext P) → Option (Ext P)
  | [] => none
  | F :: Fs => if F.f = f then some F else findE f Fs
def trimmed (n0 : Nat) (r : AV) (σ : St) : AV × St :=
  if belB n0 r && (σ.take n0).all (belOB n0) && decide (n0 ≤ σ.length) then (r, σ.take n0) else (r, σ)
def evFB {P : Program} (C : List (Fun P)) (E : List (Ext P)) (m : Nat) (run : Run) : Run := fun f args σ =>
  match findF f C with
  | some F => match frcL (args ++ List.replicate (F.n - args.length) .any) fun env => evC run σ.length m F.x env σ with
    | some (.exit _, _, _) => none
    | some (_, env', σ') => match resA env' σ' F.rvs with
      | some r => some (trimmed σ.length r σ')
      | none => none
    | none => none
  | none => match findE f E with
    | some X => X.go args σ
    | none => none
section
variable {P : Program} {run : Run} (hrun : ∀ f args σ r σ', run f args σ = some (r, σ') → Ans P f args σ r σ')
include hrun
theorem evOp_ok {env : Env} {σ : St} {o : AOp} {r : AV} {σ' : St} {K : AV → St → Prop} (h : evOp run env σ o = some (r, σ')) (hK : K r σ') : axop P env σ o K := by
  cases o with
  | prim ao => simp only [evOp] at h; simp only [axop, h]; exact hK
  | call f args =>
    simp only [evOp] at h
    simp only [axop]
    cases hf : aev env f <;> rw [hf] at h <;> simp only [reduceCtorEq] at h
    exact ⟨r, σ', hrun _ _ _ _ _ h, hK⟩
  | fresh n d x =>
    simp only [evOp] at h
    simp only [axop]
    split at h
    · rename_i hc
      rw [if_pos hc]
      simp only [Option.some.injEq, Prod.mk.injEq] at h
      rw [← h.1, ← h.2] at hK; exact hK
    · simp at h
  | flo n => cases h
  | adopt own d n x => cases h
theorem evOps_ok {K : Env → St → Prop} : ∀ (l : List AOper) (env : Env) (σ : St) (env' : Env) (σ' : St), evOps run l env σ = some (env', σ') → K env' σ' → axops P K l env σ := by
  intro l
  induction l with
  | nil => intro env σ env' σ' h hK; simp only [evOps, Option.some.injEq, Prod.mk.injEq] at h; rw [← h.1, ← h.2] at hK; exact hK
  | cons o os ih =>
    intro env σ env' σ' h hK
    simp only [evOps, frcV_eq, frcL_eq, frcO_eq] at h
    simp only [axops]
    split at h
    · rename_i hw
      simp only [hw]
      split at h
      · rename_i r s he
        exact evOp_ok hrun he (ih _ _ _ _ h hK)
      · simp at h
    · rename_i hw
      simp only [hw]
      exact ih _ _ _ _ h hK
    · simp at h
theorem evDs_ok {K : Env → St → Prop} : ∀ (l : List DOper) (env : Env) (S : List St) (σ : St) (ob : List St → Bool) (obP : List St → Prop) (env' : Env) (σ' : St), (∀ T, ob T = true → obP T) →
    evDs run l env S σ ob = some (env', σ') → K env' σ' → axd P K l env S σ obP := by
  intro l
  induction l with
  | nil =>
    intro env S σ ob obP env' σ' hob h hK
    simp only [evDs] at h
    split at h
    · rename_i hb
      simp only [Option.some.injEq, Prod.mk.injEq] at h; rw [← h.1, ← h.2] at hK
      exact ⟨hob _ hb, hK⟩
    · simp at h
  | cons d ds ih =>
    intro env S σ ob obP env' σ' hob h hK
    simp only [evDs, frcV_eq, frcL_eq, frcO_eq] at h
    simp only [axd]
    split at h
    · rename_i hw
      simp only [hw]
      split at h
      · rename_i he
        simp only [he, if_true]
        split at h
        · rename_i r s hr
          exact evOp_ok hrun hr (ih _ _ _ _ _ _ _ hob h hK)
        · simp at h
      · rename_i he
        simp only [he, Bool.false_eq_true, if_false]
        split at h
        · rename_i ao hao
          split at h
          · rename_i r s hr
            split at h
            · rename_i hf
              refine ⟨r, ?_, ih _ _ _ ob _ _ _ (fun T hT => ⟨hob T hT, fun s _ => ?_⟩) h hK⟩
              · simp only [hao, stay]; exact aop_free hf hr _
              · simp only [hao, stay]; exact aop_free hf hr _
            · split at h
              · rename_i hs
                refine ⟨r, ?_, ih _ _ _ _ _ _ _ (fun T hT => ?_) h hK⟩
                · simp only [hao, stay]
                  have := aop_still hs hr
                  rw [hr, this]
                · simp only [Bool.and_eq_true] at hT
                  refine ⟨hob T hT.1, fun s hsm => ?_⟩
                  have h2 := List.all_eq_true.1 hT.2 s hsm
                  simp only [hao, stay]
                  simp only [stayB] at h2
                  split at h2
                  · rename_i r' s' hr'
                    rw [hr', AV.same_eq _ _ h2, aop_still hs hr']
                  · simp at h2
              · simp at h
          · simp at h
        · rename_i f args hao
          split at h
          · rename_i r s hr
            split at h
            · rename_i hs
              have hst := sameSt_eq hs
              subst hst
              have stayOf : ∀ (s0 : St) (r0 : AV), evOp run env s0 (.call f args) = some (r0, s0) → stay P env (.call f args) r0 s0 := by
                intro s0 r0 h0
                simp only [evOp] at h0
                simp only [stay]
                cases hf : aev env f <;> rw [hf] at h0 <;> simp only [reduceCtorEq] at h0
                exact hrun _ _ _ _ _ h0
              refine ⟨r, ?_, ih _ _ _ _ _ _ _ (fun T hT => ?_) h hK⟩
              · rw [hao]; exact stayOf _ _ hr
              · simp only [Bool.and_eq_true] at hT
                refine ⟨hob T hT.1, fun s hsm => ?_⟩
                have h2 := List.all_eq_true.1 hT.2 s hsm
                simp only [stayC] at h2
                split at h2
                · rename_i r' s' hr'
                  simp only [Bool.and_eq_true] at h2
                  have e1 := AV.same_eq _ _ h2.1
                  have e2 := sameSt_eq h2.2
                  subst e1; subst e2
                  rw [hao]; exact stayOf _ _ hr'
                · cases h2
            · simp at h
          · simp at h
        · simp at h
    · rename_i hw
      simp only [hw]
      exact ih _ _ _ _ _ _ _ hob h hK
    · simp at h
omit hrun in
theorem evG_ok {n0 : Nat} {g : Ghost} {env env' : Env} {σ σ' : St} {K : Env → St → Prop} (h : evG n0 g env σ = some (env', σ')) (hK : K env' σ') : gh n0 g env σ K := by
  cases g with
  | clear ts => simp only [evG, Option.some.injEq, Prod.mk.injEq] at h; rw [← h.1, ← h.2] at hK; exact hK
  | shut t =>
    simp only [evG] at h
    simp only [gh]
    split at h
    · rename_i cs hc
      split at h
      · rename_i cs' s hs
        simp only [Option.some.injEq, Prod.mk.injEq] at h; rw [← h.1, ← h.2] at hK
        simp only [hc, hs]; exact hK
      · simp at h
    · rename_i v hv
      split at h
      · rename_i v' s hs
        simp only [Option.some.injEq, Prod.mk.injEq] at h; rw [← h.1, ← h.2] at hK
        rcases hc : tmpA env t with _ | _ | _ | _ | _ | _ | _ | _ | _ | _ | _ | cs | _ | _
        case agg => exact absurd hc (hv cs)
        all_goals (rw [hc] at hs; simp only [hs]; exact hK)
      · simp at h
  | own t sz =>
    simp only [evG] at h
    simp only [gh]
    split at h
    · rename_i hc
      simp only [Option.some.injEq, Prod.mk.injEq] at h; rw [← h.1, ← h.2] at hK
      simp only [hc]; exact hK
    · simp at h
  | keep j =>
    simp only [evG] at h
    simp only [gh]
    split at h
    · rename_i hc
      simp only [Bool.and_eq_true, decide_eq_true_eq] at hc
      simp only [Option.some.injEq, Prod.mk.injEq] at h; rw [← h.1, ← h.2] at hK
      exact ⟨belL_ok _ _ hc.1.1, fun o ho => belOB_ok (List.all_eq_true.1 hc.1.2 o ho), hc.2, hK⟩
    · simp at h
theorem evC_ok (n0 m : Nat) : ∀ (x : ACode) (K : AExit → Env → St → Prop) (env : Env) (σ : St) (e : AExit) (env' : Env) (σ' : St), evC run n0 m x env σ = some (e, env', σ') → K e env' σ' → ax P n0 x K env σ := by
  intro x
  induction x with
  | skip => intro K env σ e env' σ' h hK; simp only [evC, Option.some.injEq, Prod.mk.injEq] at h; obtain ⟨rfl, rfl, rfl⟩ := h; exact hK
  | ops l =>
    intro K env σ e env' σ' h hK
    simp only [evC, frcL_eq, frcT_eq] at h
    split at h
    · rename_i h1
      simp only [Option.some.injEq, Prod.mk.injEq] at h; obtain ⟨rfl, rfl, rfl⟩ := h
      exact evOps_ok hrun _ _ _ _ _ h1 hK
    · simp at h
  | draw l =>
    intro K env σ e env' σ' h hK
    simp only [evC, frcL_eq, frcT_eq] at h
    split at h
    · rename_i h1
      simp only [Option.some.injEq, Prod.mk.injEq] at h; obtain ⟨rfl, rfl, rfl⟩ := h
      exact evDs_ok hrun _ _ _ _ _ _ _ _ (fun _ _ => trivial) h1 hK
    · simp at h
  | seq a b iha ihb =>
    intro K env σ e env' σ' h hK
    simp only [evC, frcL_eq, frcT_eq] at h
    simp only [ax]
    split at h
    · rename_i h1
      exact iha _ _ _ _ _ _ h1 (ihb _ _ _ _ _ _ h hK)
    · rename_i hn
      refine iha _ _ _ _ _ _ h ?_
      cases e with
      | normal => exact absurd h (hn _ _)
      | exit => exact hK
      | ret => exact hK
  | cond c a b iha ihb =>
    intro K env σ e env' σ' h hK
    simp only [evC, frcL_eq, frcT_eq] at h
    simp only [ax]
    split at h
    · rename_i h1; simp only [h1]; exact iha _ _ _ _ _ _ h hK
    · rename_i h1; simp only [h1]; exact ihb _ _ _ _ _ _ h hK
    · simp at h
  | block id a iha =>
    intro K env σ e env' σ' h hK
    simp only [evC, frcL_eq, frcT_eq] at h
    simp only [ax]
    split at h
    · rename_i j _ _ h1
      refine iha _ _ _ _ _ _ h1 ?_
      simp only
      split at h
      · rename_i hj
        rw [if_pos hj]
        simp only [Option.some.injEq, Prod.mk.injEq] at h; obtain ⟨rfl, rfl, rfl⟩ := h
        exact hK
      · rename_i hj
        rw [if_neg hj]
        simp only [Option.some.injEq, Prod.mk.injEq] at h; obtain ⟨rfl, rfl, rfl⟩ := h
        exact hK
    · rename_i hn
      refine iha _ _ _ _ _ _ h ?_
      cases e with
      | normal => exact hK
      | exit j => exact absurd h (hn _ _ _)
      | ret => exact hK
  | loop clr a iha =>
    intro K env σ e env' σ' h hK
    simp only [evC, frcL_eq, frcT_eq] at h
    simp only [ax]
    intro I hI
    have key : ∀ (k : Nat) (env : Env) (σ : St), iter (evC run n0 m a) clr k env σ = some (e, env', σ') → I env σ := by
      intro k
      induction k with
      | zero => intro env σ h; simp [iter] at h
      | succ k ih =>
        intro env σ h
        simp only [iter, frcL_eq] at h
        refine hI _ _ ?_
        split at h
        · rename_i h1
          exact iha _ _ _ _ _ _ h1 (ih _ _ h)
        · rename_i hn
          refine iha _ _ _ _ _ _ h ?_
          cases e with
          | normal => exact absurd h (hn _ _)
          | exit => exact hK
          | ret => exact hK
    exact key _ _ _ h
  | exit id => intro K env σ e env' σ' h hK; simp only [evC, Option.some.injEq, Prod.mk.injEq] at h; obtain ⟨rfl, rfl, rfl⟩ := h; exact hK
  | ret => intro K env σ e env' σ' h hK; simp only [evC, Option.some.injEq, Prod.mk.injEq] at h; obtain ⟨rfl, rfl, rfl⟩ := h; exact hK
  | ghost g a iha =>
    intro K env σ e env' σ' h hK
    simp only [evC, frcL_eq, frcT_eq] at h
    simp only [ax]
    split at h
    · rename_i h1
      exact evG_ok h1 (iha _ _ _ _ _ _ h hK)
    · simp at h
  | after a g iha =>
    intro K env σ e env' σ' h hK
    simp only [evC, frcL_eq, frcT_eq] at h
    simp only [ax]
    split at h
    · rename_i h1
      refine iha _ _ _ _ _ _ h1 ?_
      simp only
      split at h
      · rename_i h2
        simp only [Option.some.injEq, Prod.mk.injEq] at h; obtain ⟨rfl, rfl, rfl⟩ := h
        exact evG_ok h2 hK
      · simp at h
    · rename_i hn
      refine iha _ _ _ _ _ _ h ?_
      cases e with
      | normal => exact absurd h (hn _ _)
      | exit => exact hK
      | ret => exact hK
end
theorem findF_f {P : Program} {f : FuncId} {F : Fun P} : ∀ {C : List (Fun P)}, findF f C = some F → F.f = f := by
  intro C
  induction C with
  | nil => intro h; simp [findF] at h
  | cons G C ih =>
    intro h
    simp only [findF] at h
    split at h
    · rename_i hg; simp only [Option.some.injEq] at h; rw [← h]; exact hg
    · exact ih h
theorem findE_f {P : Program} {f : FuncId} {F : Ext P} : ∀ {C : List (Ext P)}, findE f C = some F → F.f = f := by
  intro C
  induction C with
  | nil => intro h; simp [findE] at h
  | cons G C ih =>
    intro h
    simp only [findE] at h
    split at h
    · rename_i hg; simp only [Option.some.injEq] at h; rw [← h]; exact hg
    · exact ih h
theorem evFB_ok {P : Program} (C : List (Fun P)) (E : List (Ext P)) (m : Nat) {run : Run} (ih : ∀ f args σ r σ', run f args σ = some (r, σ') → Ans P f args σ r σ') :
    ∀ (f : FuncId) (args : List AV) (σ : St) (r : AV) (σ' : St), evFB C E m run f args σ = some (r, σ') → Ans P f args σ r σ' := by
    intro f args σ r σ' h
    simp only [evFB, frcL_eq] at h
    split at h
    · rename_i F hF
      have hf := findF_f hF
      subst hf
      have fin : ∀ env' s r1, resA env' s F.rvs = some r1 → some (trimmed σ.length r1 s) = some (r, σ') → Fini σ.length F.rvs r σ' .ret env' s ∧ Fini σ.length F.rvs r σ' .normal env' s := by
        intro env' s r1 h1 h2
        have : ∃ r1 σ1, resA env' s F.rvs = some r1 ∧ r1 = r ∧ σ1 = s ∧ (σ' = σ1 ∨ (σ.length ≤ σ'.length ∧ σ' = σ1.take σ'.length ∧ Bel σ'.length r ∧ ∀ o ∈ σ', BelO σ'.length o)) := by
          simp only [Option.some.injEq, trimmed] at h2
          split at h2
          · rename_i hc
            simp only [Bool.and_eq_true, decide_eq_true_eq] at hc
            obtain ⟨⟨hb, ho⟩, hl⟩ := hc
            simp only [Prod.mk.injEq] at h2
            obtain ⟨rfl, rfl⟩ := h2
            refine ⟨_, _, h1, rfl, rfl, .inr ?_⟩
            have hlen : (s.take σ.length).length = σ.length := by simp; omega
            rw [hlen]
            exact ⟨Nat.le_refl _, rfl, belB_ok _ _ hb, fun o hm => belOB_ok (List.all_eq_true.1 ho o hm)⟩
          · simp only [Prod.mk.injEq] at h2
            obtain ⟨rfl, rfl⟩ := h2
            exact ⟨_, _, h1, rfl, rfl, .inl rfl⟩
        exact ⟨this, this⟩
      refine Ans.of_ax F.t ?_
      split at h
      · simp at h
      · rename_i e env' s hne he
        split at h
        · rename_i r1 hr
          refine evC_ok (run := run) ih _ _ _ _ _ _ e env' s he ?_
          cases e with
          | exit id => exact (hne id rfl).elim
          | ret => exact (fin _ _ _ hr h).1
          | normal => exact (fin _ _ _ hr h).2
        · simp at h
      · simp at h
    · split at h
      · rename_i X hX
        have hf := findE_f hX
        subst hf
        exact X.ok _ _ _ _ h
      · simp at h
end Go.Ab
namespace Go.Proofs.Ytoadgajhkhejiaa
open Go Go.Ab
theorem ext1_ok (f : FuncId) (fn : Func) (hf : Try.prog.funcs[f]? = some fn) (hname : (fn.name == "runtime.NumGoroutine") = false) (hb : fn.body.isNone = true) (hn : Extern.findNext fn = none)
    (e : Array Value → Sem Value) (he : Extern.find fn = some e) (g : Value → Option Value) (hg : ∀ v r w, g v = some r → (e #[v]).run Try.prog w = .ok r w)
    (args : List AV) (σ : St) (r : AV) (σ' : St) (h : (match args with | [.pl v] => (g v).map fun r => (AV.pl r, σ) | _ => none) = some (r, σ')) : Ans Try.prog f args σ r σ' := by
  split at h
  · rename_i v
    obtain ⟨q, hq, h⟩ := opt_map_some h
    simp only [Prod.mk.injEq] at h
    obtain ⟨rfl, rfl⟩ := h
    intro M ν w vs gd hvs
    refine .inr ⟨q, w, ?_, M, ν, gd, .refl, .pl _⟩
    obtain ⟨hl, hr⟩ := hvs
    match vs, hl with
    | [a], _ =>
      have h0 := hr 0 (by simp) (by simp)
      simp only [List.getElem_cons_zero] at h0
      cases h0
      rw [run_callFunc_extern hf hname hb hn he]
      rw [show ([v].toArray) = #[v] from rfl, hg v q w hq]
      rfl
  · simp at h
def bitsG : Value → Option Value
  | .float .f64 b => some (.int .u64 b)
  | _ => none
theorem bitsG_ok (v r : Value) (w : World) (h : bitsG v = some r) : (Extern.MathFloatBits.float64bits #[v]).run Try.prog w = .ok r w := by
  unfold bitsG at h
  split at h <;> simp at h
  subst h; rfl
def ext_bits : Ext Try.prog := ⟨126, fun args σ => match args with | [.pl v] => (bitsG v).map fun r => (AV.pl r, σ) | _ => none,
  ext1_ok 126 Try.f126 (by kernel_rfl) (by kernel_rfl) (by kernel_rfl) (by kernel_rfl) Extern.MathFloatBits.float64bits (by kernel_rfl) bitsG bitsG_ok⟩
theorem cmp_ok (args : List AV) (σ : St) (r : AV) (σ' : St) (h : (match args with
  | [.pl (.string a), .pl (.string b)] => some (AV.pl (.int .i64 (Extern.BytealgCompare.cmp a b)), σ)
  | _ => none) = some (r, σ')) : Ans Try.prog 139 args σ r σ' := by
  split at h
  · rename_i s c
    simp only [Option.some.injEq, Prod.mk.injEq] at h
    obtain ⟨rfl, rfl⟩ := h
    intro M ν w vs g hvs
    refine .inr ⟨_, w, ?_, M, ν, g, .refl, .pl _⟩
    obtain ⟨hl, hr⟩ := hvs
    match vs, hl with
    | [a, b], _ =>
      have h0 := hr 0 (by simp) (by simp)
      have h1 := hr 1 (by simp) (by simp)
      simp only [List.getElem_cons_zero, List.getElem_cons_succ] at h0 h1
      cases h0; cases h1
      rw [run_callFunc_extern (e := Extern.BytealgCompare.compare) (P := Try.prog) (f := 139) (fn := Try.f139) (by kernel_rfl) (by kernel_rfl) (by kernel_rfl) (by kernel_rfl) (by kernel_rfl)]
      rfl
  · simp at h
def ext_cmp : Ext Try.prog := ⟨139, fun args σ => match args with
  | [.pl (.string a), .pl (.string b)] => some (.pl (.int .i64 (Extern.BytealgCompare.cmp a b)), σ)
  | _ => none, cmp_ok⟩
theorem idx_ok (args : List AV) (σ : St) (r : AV) (σ' : St) (h : (match args with
  | [.pl (.string s), .pl (.int .u8 c)] => some (AV.pl (.int .i64 (firstIdx s c.toNat.toUInt8)), σ)
  | _ => none) = some (r, σ')) : Ans Try.prog 159 args σ r σ' := by
  split at h
  · rename_i s c
    simp only [Option.some.injEq, Prod.mk.injEq] at h
    obtain ⟨rfl, rfl⟩ := h
    intro M ν w vs g hvs
    refine .inr ⟨_, w, ?_, M, ν, g, .refl, .pl _⟩
    obtain ⟨hl, hr⟩ := hvs
    match vs, hl with
    | [a, b], _ =>
      have h0 := hr 0 (by simp) (by simp)
      have h1 := hr 1 (by simp) (by simp)
      simp only [List.getElem_cons_zero, List.getElem_cons_succ] at h0 h1
      cases h0; cases h1
      rw [run_callFunc_extern (e := Extern.BytealgIndexByte.indexByte) (P := Try.prog) (f := 159) (fn := Try.f159) (by kernel_rfl) (by kernel_rfl) (by kernel_rfl) (by kernel_rfl) (by kernel_rfl)]
      have := run_indexByte_string (P := Try.prog) s c w
      rw [this]
      rfl
  · simp at h
def ext_idx : Ext Try.prog := ⟨159, fun args σ => match args with
  | [.pl (.string s), .pl (.int .u8 c)] => some (.pl (.int .i64 (firstIdx s c.toNat.toUInt8)), σ)
  | _ => none, idx_ok⟩
def extF : List (Ext Try.prog) := [ext_bits, ext_cmp, ext_idx]
def allF : List (Fun Try.prog) := [⟨14, o14, c14, r14, 35, t14⟩, ⟨15, o15, c15, r15, 44, t15⟩, ⟨16, o16, c16, r16, 32, t16⟩, ⟨48, o48, c48, r48, 16, t48⟩, ⟨49, o49, c49, r49, 18, t49⟩, ⟨50, o50, c50, r50, 44, t50⟩, ⟨51, o51, c51, r51, 41, t51⟩, ⟨52, o52, c52, r52, 11, t52⟩, ⟨53, o53, c53, r53, 29, t53⟩, ⟨88, o88, c88, r88, 19, t88⟩, ⟨89, o89, c89, r89, 8, t89⟩, ⟨90, o90, c90, r90, 18, t90⟩, ⟨91, o91, c91, r91, 30, t91⟩, ⟨92, o92, c92, r92, 6, t92⟩, ⟨93, o93, c93, r93, 48, t93⟩, ⟨94, o94, c94, r94, 21, t94⟩, ⟨95, o95, c95, r95, 26, t95⟩, ⟨111, o111, c111, r111, 9, t111⟩, ⟨112, o112, c112, r112, 99, t112⟩, ⟨113, o113, c113, r113, 9, t113⟩, ⟨114, o114, c114, r114, 9, t114⟩, ⟨115, o115, c115, r115, 70, t115⟩, ⟨116, o116, c116, r116, 50, t116⟩, ⟨117, o117, c117, r117, 33, t117⟩, ⟨118, o118, c118, r118, 16, t118⟩, ⟨127, o127, c127, r127, 35, t127⟩, ⟨128, o128, c128, r128, 41, t128⟩, ⟨129, o129, c129, r129, 69, t129⟩, ⟨130, o130, c130, r130, 19, t130⟩, ⟨131, o131, c131, r131, 11, t131⟩, ⟨132, o132, c132, r132, 19, t132⟩, ⟨133, o133, c133, r133, 21, t133⟩, ⟨134, o134, c134, r134, 28, t134⟩, ⟨140, o140, c140, r140, 9, t140⟩, ⟨141, o141, c141, r141, 6, t141⟩, ⟨142, o142, c142, r142, 78, t142⟩, ⟨144, o144, c144, r144, 19, t144⟩, ⟨145, o145, c145, r145, 25, t145⟩, ⟨146, o146, c146, r146, 68, t146⟩, ⟨147, o147, c147, r147, 15, t147⟩, ⟨148, o148, c148, r148, 16, t148⟩, ⟨149, o149, c149, r149, 19, t149⟩, ⟨150, o150, c150, r150, 8, t150⟩, ⟨156, o156, c156, r156, 23, t156⟩, ⟨157, o157, c157, r157, 8, t157⟩]
end Go.Proofs.Ytoadgajhkhejiaa
