/- What the functions do, over abstract values: printed by a program, checked by the kernel. No condition. -/
import Derived.Test.YtoadgajhkhejiaaProg
import Derived.Test.YtoadgajhkhejiaaAbSpec
namespace Go.Proofs.Ytoadgajhkhejiaa
open Go Go.Ab
set_option maxRecDepth 100000
def c146 : ACode :=
 (.seq (.ops [⟨some 2, none, .prim (.allocm [.pl (.int .u64 0), .pl (.int .u64 0), .pl (.int .u64 0), .pl (.int .u64 0)])⟩])
 (.seq (.ops [⟨some 3, none, .prim (.allocm [.pl (.int .u64 0), .pl (.int .u64 0), .pl (.int .u64 0), .pl (.int .u64 0)])⟩])
 (.seq (.ops [⟨some 9, none, .prim (.mov (.tmp 0))⟩,
 ⟨some 10, none, .call (.func 118) [(.tmp 9), (.const (.int .u8 94))]⟩,
 ⟨some 4, none, .prim (.mov (.tmp 10))⟩])
 (.seq (.seq (.ops [⟨some 5, none, .prim (.mov (.const (.bool true)))⟩])
 (.block 0 (.loop [1, 6, 7, 8, 9, 10, 11, 12, 13, 14, 15, 16, 17, 18, 19, 20, 21, 22, 23, 24, 25, 26, 27, 28, 29, 30, 31, 32, 33, 34, 35, 36, 37, 38, 39, 40, 41, 42, 43, 44, 45, 46, 47, 48, 49, 50, 51, 52, 53, 54, 55, 56, 57, 58, 59, 60, 61, 62, 63, 64, 65, 66, 67] (.seq (.seq (.ops [⟨some 11, none, .prim (.mov (.tmp 5))⟩,
 ⟨some 12, none, .prim (.mov (.tmp 11))⟩,
 ⟨some 13, (some (12, false)), .prim (.mov (.tmp 0))⟩,
 ⟨some 14, (some (12, false)), .call (.func 132) [(.tmp 13)]⟩,
 ⟨some 15, (some (12, false)), .prim (.un .not (.tmp 14))⟩,
 ⟨some 16, (some (12, false)), .prim (.mov (.tmp 15))⟩,
 ⟨some 17, (some (16, true)), .prim (.mov (.tmp 0))⟩,
 ⟨some 18, (some (16, true)), .call (.func 133) [(.tmp 17), (.const (.int .u8 93))]⟩,
 ⟨some 19, (some (16, true)), .prim (.un .not (.tmp 18))⟩,
 ⟨some 20, (some (12, false)), .prim (.pick (.tmp 16) (.tmp 19) (.const (.bool false)))⟩,
 ⟨some 21, none, .prim (.pick (.tmp 12) (.const (.bool true)) (.tmp 20))⟩])
 (.cond (.tmp 21)
 .skip
 (.exit 0)))
 (.seq (.block 1 (.seq (.ops [⟨some 22, none, .prim (.mov (.tmp 0))⟩,
 ⟨some 23, none, .call (.func 156) [(.tmp 22)]⟩,
 ⟨some 6, none, .prim (.mov (.tmp 23))⟩])
 (.seq (.ops [⟨some 24, none, .prim (.mov (.tmp 6))⟩,
 ⟨some 7, none, .prim (.mov (.tmp 24))⟩])
 (.seq (.seq (.ops [⟨some 25, none, .prim (.mov (.tmp 0))⟩,
 ⟨some 26, none, .call (.func 118) [(.tmp 25), (.const (.int .u8 45))]⟩])
 (.cond (.tmp 26)
 (.ops [⟨some 27, none, .prim (.mov (.tmp 0))⟩,
 ⟨some 28, none, .call (.func 156) [(.tmp 27)]⟩,
 ⟨some 7, none, .prim (.mov (.tmp 28))⟩])
 .skip))
 (.seq (.ops [⟨some 29, none, .prim (.mov (.tmp 0))⟩,
 ⟨some 30, none, .prim (.mov (.tmp 0))⟩,
 ⟨some 31, none, .prim (.nilc (.tmp 30))⟩,
 ⟨some 32, none, .prim (.fadr 2 (.tmp 31))⟩,
 ⟨some 33, none, .prim (.load 1 false (.tmp 32))⟩,
 ⟨some 34, none, .prim (.mov (.tmp 33))⟩,
 ⟨some 35, (some (34, false)), .prim (.mov (.tmp 7))⟩,
 ⟨some 36, (some (34, false)), .prim (.mov (.tmp 6))⟩,
 ⟨some 37, (some (34, false)), .prim (.bin false .lss (.tmp 35) (.tmp 36))⟩,
 ⟨some 38, none, .prim (.pick (.tmp 34) (.const (.bool true)) (.tmp 37))⟩,
 ⟨some 39, none, .prim (.nilc (.tmp 29))⟩,
 ⟨some 40, none, .prim (.fadr 2 (.tmp 39))⟩,
 ⟨none, none, .prim (.store 1 (.tmp 40) (.tmp 38))⟩])
 (.seq (.ops [⟨some 41, none, .prim (.mov (.tmp 6))⟩,
 ⟨some 42, none, .prim (.convi .i64 (.tmp 41))⟩,
 ⟨some 8, none, .prim (.mov (.tmp 42))⟩])
 (.block 2 (.loop [1, 5, 6, 9, 10, 11, 12, 13, 14, 15, 16, 17, 18, 19, 20, 21, 22, 23, 24, 25, 26, 27, 28, 29, 30, 31, 32, 33, 34, 35, 36, 37, 38, 39, 40, 41, 42, 43, 44, 45, 46, 47, 48, 49, 50, 51, 52, 53, 54, 55, 56, 57, 58, 59, 60, 61, 62, 63, 64, 65, 66, 67] (.seq (.seq (.ops [⟨some 43, none, .prim (.mov (.tmp 8))⟩,
 ⟨some 44, none, .prim (.mov (.tmp 7))⟩,
 ⟨some 45, none, .prim (.convi .i64 (.tmp 44))⟩,
 ⟨some 46, none, .prim (.bin false .leq (.tmp 43) (.tmp 45))⟩])
 (.cond (.tmp 46)
 .skip
 (.exit 2)))
 (.seq (.block 3 (.ops [⟨some 49, none, .prim (.mov (.tmp 8))⟩,
 ⟨some 50, none, .prim (.convi .u8 (.tmp 49))⟩,
 ⟨some 51, none, .call (.func 148) [(.tmp 3), (.tmp 50)]⟩]))
 (.ops [⟨some 47, none, .prim (.mov (.tmp 8))⟩,
 ⟨some 48, none, .prim (.bin false .add (.tmp 47) (.const (.int .i64 1)))⟩,
 ⟨some 8, none, .prim (.mov (.tmp 48))⟩])))))))))))
 (.ops [⟨some 5, none, .prim (.mov (.const (.bool false)))⟩]))))))
 (.seq (.ops [⟨some 52, none, .prim (.mov (.tmp 0))⟩,
 ⟨some 53, none, .prim (.mov (.tmp 0))⟩,
 ⟨some 54, none, .call (.func 118) [(.tmp 53), (.const (.int .u8 93))]⟩,
 ⟨some 55, none, .prim (.un .not (.tmp 54))⟩,
 ⟨some 56, none, .prim (.mov (.tmp 55))⟩,
 ⟨some 57, (some (56, false)), .prim (.mov (.tmp 0))⟩,
 ⟨some 58, (some (56, false)), .prim (.nilc (.tmp 57))⟩,
 ⟨some 59, (some (56, false)), .prim (.fadr 2 (.tmp 58))⟩,
 ⟨some 60, (some (56, false)), .prim (.load 1 false (.tmp 59))⟩,
 ⟨some 61, none, .prim (.pick (.tmp 56) (.const (.bool true)) (.tmp 60))⟩,
 ⟨some 62, none, .prim (.nilc (.tmp 52))⟩,
 ⟨some 63, none, .prim (.fadr 2 (.tmp 62))⟩,
 ⟨none, none, .prim (.store 1 (.tmp 63) (.tmp 61))⟩])
 (.seq (.seq (.ops [⟨some 64, none, .prim (.mov (.tmp 4))⟩])
 (.cond (.tmp 64)
 (.seq (.ops [⟨some 65, none, .prim (.load 4 true (.tmp 3))⟩,
 ⟨some 66, none, .call (.func 147) [(.tmp 65)]⟩,
 ⟨none, none, .prim (.store 4 (.tmp 2) (.tmp 66))⟩])
 .ret)
 .skip))
 (.seq (.ops [⟨some 67, none, .prim (.load 4 true (.tmp 3))⟩,
 ⟨none, none, .prim (.store 4 (.tmp 2) (.tmp 67))⟩])
 .ret)))))))
def o146 : List Tmp := [2, 3]
def r146 : List RV := [.cell 2 4 true]
theorem t146 : Text Try.prog 146 o146 c146 r146 68 := ⟨⟨Try.f146, _, by kernel_rfl, by kernel_rfl, rfl, by kernel_rfl, by kernel_rfl, rfl⟩, by kernel_rfl⟩
def c147 : ACode :=
 (.seq (.ops [⟨some 1, none, .prim (.boxm (.tmp 0))⟩,
 ⟨some 2, none, .prim (.allocm [.pl (.int .u64 0), .pl (.int .u64 0), .pl (.int .u64 0), .pl (.int .u64 0)])⟩])
 (.seq (.seq (.ops [⟨some 4, none, .prim (.mov (.const (.int .i64 0)))⟩])
 (.block 0 (.loop [0, 3, 5, 6, 7, 8, 9, 10, 11, 12, 13, 14] (.seq (.ops [⟨some 5, none, .prim (.bin false .lss (.tmp 4) (.const (.int .i64 4)))⟩])
 (.seq (.cond (.tmp 5)
 .skip
 (.exit 0))
 (.seq (.block 1 (.seq (.ops [⟨some 6, none, .prim (.mov (.tmp 4))⟩,
 ⟨some 3, none, .prim (.mov (.tmp 6))⟩])
 (.ops [⟨some 7, none, .prim (.mov (.tmp 3))⟩,
 ⟨some 8, none, .prim (.mov (.tmp 3))⟩,
 ⟨some 9, none, .prim (.iadra 1 4 (.tmp 1) (.tmp 8))⟩,
 ⟨some 10, none, .prim (.load 1 false (.tmp 9))⟩,
 ⟨some 11, none, .prim (.un .xor (.tmp 10))⟩,
 ⟨some 12, none, .prim (.iadra 1 4 (.tmp 1) (.tmp 7))⟩,
 ⟨none, none, .prim (.store 1 (.tmp 12) (.tmp 11))⟩])))
 (.ops [⟨some 13, none, .prim (.bin false .add (.tmp 4) (.const (.int .i64 1)))⟩,
 ⟨some 4, none, .prim (.mov (.tmp 13))⟩])))))))
 (.seq (.ops [⟨some 14, none, .prim (.load 4 true (.tmp 1))⟩,
 ⟨none, none, .prim (.store 4 (.tmp 2) (.tmp 14))⟩])
 .ret)))
def o147 : List Tmp := [1, 2]
def r147 : List RV := [.cell 2 4 true]
theorem t147 : Text Try.prog 147 o147 c147 r147 15 := ⟨⟨Try.f147, _, by kernel_rfl, by kernel_rfl, rfl, by kernel_rfl, by kernel_rfl, rfl⟩, by kernel_rfl⟩
def c148 : ACode :=
 (.draw [⟨⟨some 4, none, .prim (.mov (.tmp 0))⟩, [], false, 0, 0⟩,
 ⟨⟨some 5, none, .prim (.mov (.tmp 1))⟩, [], false, 0, 0⟩,
 ⟨⟨some 6, none, .prim (.bin false .quo (.tmp 5) (.const (.int .u8 64)))⟩, [1], false, 0, 0⟩,
 ⟨⟨some 7, none, .prim (.nilc (.tmp 4))⟩, [0], false, 0, 0⟩,
 ⟨⟨some 8, none, .prim (.iadra 1 4 (.tmp 7) (.tmp 6))⟩, [0, 1, 2, 3], false, 0, 0⟩,
 ⟨⟨some 9, none, .prim (.load 1 false (.tmp 8))⟩, [0, 1, 2, 3, 4], false, 0, 0⟩,
 ⟨⟨some 10, none, .prim (.mov (.tmp 1))⟩, [], false, 0, 0⟩,
 ⟨⟨some 11, none, .prim (.bin false .rem (.tmp 10) (.const (.int .u8 64)))⟩, [6], false, 0, 0⟩,
 ⟨⟨some 12, none, .prim (.bin false .shl (.const (.int .u64 1)) (.tmp 11))⟩, [6, 7], false, 0, 0⟩,
 ⟨⟨some 13, none, .prim (.bin false .or (.tmp 9) (.tmp 12))⟩, [0, 1, 2, 3, 4, 5, 6, 7, 8], false, 0, 0⟩,
 ⟨⟨some 14, none, .prim (.nilc (.tmp 4))⟩, [0], false, 0, 0⟩,
 ⟨⟨some 15, none, .prim (.iadra 1 4 (.tmp 14) (.tmp 6))⟩, [0, 1, 2, 3, 4, 5, 6, 7, 8, 9, 10], false, 0, 0⟩,
 ⟨⟨none, none, .prim (.store 1 (.tmp 15) (.tmp 13))⟩, [0, 1, 2, 3, 4, 5, 6, 7, 8, 9, 10, 11], true, 0, 0⟩])
def o148 : List Tmp := []
def r148 : List RV := []
theorem t148 : Text Try.prog 148 o148 c148 r148 16 := ⟨⟨Try.f148, _, by kernel_rfl, by kernel_rfl, rfl, by kernel_rfl, by kernel_rfl, rfl⟩, by kernel_rfl⟩
def c149 : ACode :=
 (.seq (.ops [⟨some 2, none, .prim (.mov (.const (.int .u8 0)))⟩])
 (.seq (.ops [⟨some 4, none, .prim (.mov (.tmp 0))⟩,
 ⟨some 5, none, .call (.func 145) [(.tmp 4)]⟩,
 ⟨some 3, none, .prim (.mov (.tmp 5))⟩])
 (.seq (.ops [⟨some 6, none, .prim (.mov (.tmp 0))⟩,
 ⟨some 7, none, .prim (.mov (.tmp 0))⟩,
 ⟨some 8, none, .prim (.nilc (.tmp 7))⟩,
 ⟨some 9, none, .prim (.fadr 2 (.tmp 8))⟩,
 ⟨some 10, none, .prim (.load 1 false (.tmp 9))⟩,
 ⟨some 11, none, .prim (.mov (.tmp 10))⟩,
 ⟨some 12, (some (11, false)), .prim (.mov (.tmp 3))⟩,
 ⟨some 13, (some (11, false)), .call (.func 150) [(.const (.string (ByteArray.mk #[124, 42, 43, 63, 40, 41, 91, 93, 46, 92, 94, 45]))), (.tmp 12)]⟩,
 ⟨some 14, (some (11, false)), .prim (.bin false .lss (.tmp 13) (.const (.int .i64 0)))⟩,
 ⟨some 15, none, .prim (.pick (.tmp 11) (.const (.bool true)) (.tmp 14))⟩,
 ⟨some 16, none, .prim (.nilc (.tmp 6))⟩,
 ⟨some 17, none, .prim (.fadr 2 (.tmp 16))⟩,
 ⟨none, none, .prim (.store 1 (.tmp 17) (.tmp 15))⟩])
 (.seq (.ops [⟨some 18, none, .prim (.mov (.tmp 3))⟩,
 ⟨some 2, none, .prim (.mov (.tmp 18))⟩])
 .ret))))
def o149 : List Tmp := []
def r149 : List RV := [.tmp 2]
theorem t149 : Text Try.prog 149 o149 c149 r149 19 := ⟨⟨Try.f149, _, by kernel_rfl, by kernel_rfl, rfl, by kernel_rfl, by kernel_rfl, rfl⟩, by kernel_rfl⟩
def c150 : ACode :=
 (.seq (.ops [⟨some 4, none, .prim (.mov (.const (.int .i64 0)))⟩])
 (.seq (.ops [⟨some 5, none, .prim (.mov (.tmp 0))⟩,
 ⟨some 6, none, .prim (.mov (.tmp 1))⟩,
 ⟨some 7, none, .call (.func 157) [(.tmp 5), (.tmp 6)]⟩,
 ⟨some 4, none, .prim (.mov (.tmp 7))⟩])
 .ret))
def o150 : List Tmp := []
def r150 : List RV := [.tmp 4]
theorem t150 : Text Try.prog 150 o150 c150 r150 8 := ⟨⟨Try.f150, _, by kernel_rfl, by kernel_rfl, rfl, by kernel_rfl, by kernel_rfl, rfl⟩, by kernel_rfl⟩
def c151 : ACode :=
 (.seq (.ops [⟨some 2, none, .prim (.mov (.const (.bool false)))⟩])
 (.seq (.ops [⟨some 3, none, .prim (.mov (.tmp 0))⟩,
 ⟨some 4, none, .call (.func 155) [(.tmp 3)]⟩,
 ⟨some 5, none, .prim (.mov (.tmp 4))⟩,
 ⟨some 6, (some (5, false)), .prim (.mov (.tmp 0))⟩,
 ⟨some 7, (some (5, false)), .prim (.bin false .eql (.tmp 6) (.const (.int .u8 94)))⟩,
 ⟨some 8, none, .prim (.pick (.tmp 5) (.const (.bool true)) (.tmp 7))⟩,
 ⟨some 9, none, .prim (.mov (.tmp 8))⟩,
 ⟨some 10, (some (9, false)), .prim (.mov (.tmp 0))⟩,
 ⟨some 11, (some (9, false)), .prim (.bin false .eql (.tmp 10) (.const (.int .u8 45)))⟩,
 ⟨some 12, none, .prim (.pick (.tmp 9) (.const (.bool true)) (.tmp 11))⟩,
 ⟨some 2, none, .prim (.mov (.tmp 12))⟩])
 .ret))
def o151 : List Tmp := []
def r151 : List RV := [.tmp 2]
theorem t151 : Text Try.prog 151 o151 c151 r151 13 := ⟨⟨Try.f151, _, by kernel_rfl, by kernel_rfl, rfl, by kernel_rfl, by kernel_rfl, rfl⟩, by kernel_rfl⟩
def c152 : ACode :=
 (.ops [⟨some 2, none, .prim (.mov (.tmp 0))⟩,
 ⟨some 3, none, .prim (.nilc (.tmp 2))⟩,
 ⟨some 4, none, .prim (.fadr 3 (.tmp 3))⟩,
 ⟨none, none, .prim (.store 1 (.tmp 4) (.const (.bool true)))⟩])
def o152 : List Tmp := []
def r152 : List RV := []
theorem t152 : Text Try.prog 152 o152 c152 r152 5 := ⟨⟨Try.f152, _, by kernel_rfl, by kernel_rfl, rfl, by kernel_rfl, by kernel_rfl, rfl⟩, by kernel_rfl⟩
def c153 : ACode :=
 (.seq (.ops [⟨some 2, none, .prim (.allocm [.pl (.int .u64 0), .pl (.int .u64 0), .pl (.int .u64 0), .pl (.int .u64 0)])⟩])
 (.seq (.ops [⟨some 3, none, .prim (.allocm [.pl (.int .u64 0), .pl (.int .u64 0), .pl (.int .u64 0), .pl (.int .u64 0)])⟩])
 (.seq (.ops [⟨some 4, none, .prim (.mov (.tmp 0))⟩,
 ⟨some 5, none, .prim (.bin false .quo (.tmp 4) (.const (.int .u8 64)))⟩,
 ⟨some 6, none, .prim (.mov (.tmp 0))⟩,
 ⟨some 7, none, .prim (.bin false .rem (.tmp 6) (.const (.int .u8 64)))⟩,
 ⟨some 8, none, .prim (.convi .u64 (.tmp 7))⟩,
 ⟨some 9, none, .prim (.bin false .shl (.const (.int .u64 1)) (.tmp 8))⟩,
 ⟨some 10, none, .prim (.iadra 1 4 (.tmp 3) (.tmp 5))⟩,
 ⟨none, none, .prim (.store 1 (.tmp 10) (.tmp 9))⟩])
 (.seq (.ops [⟨some 11, none, .prim (.load 4 true (.tmp 3))⟩,
 ⟨none, none, .prim (.store 4 (.tmp 2) (.tmp 11))⟩])
 .ret))))
def o153 : List Tmp := [2, 3]
def r153 : List RV := [.cell 2 4 true]
theorem t153 : Text Try.prog 153 o153 c153 r153 12 := ⟨⟨Try.f153, _, by kernel_rfl, by kernel_rfl, rfl, by kernel_rfl, by kernel_rfl, rfl⟩, by kernel_rfl⟩
def c154 : ACode :=
 (.seq (.ops [⟨some 2, none, .prim (.allocm [.pl (.int .i64 0), .pl (.int .u64 0), .pl (.int .u64 0), .pl (.int .u64 0), .pl (.int .u64 0), .nils])⟩])
 (.seq (.draw [⟨⟨some 10, none, .prim (.mov (.tmp 0))⟩, [], false, 0, 0⟩,
 ⟨⟨some 11, none, .call (.func 120) [(.tmp 10)]⟩, [0], true, 0, 0⟩,
 ⟨⟨some 12, none, .prim (.mov (.tmp 11))⟩, [0, 1], false, 1, 1⟩,
 ⟨⟨some 13, (some (12, true)), .prim (.mov (.tmp 0))⟩, [0, 1, 2], false, 1, 1⟩,
 ⟨⟨some 14, (some (12, true)), .prim (.nilc (.tmp 13))⟩, [0, 1, 2, 3], false, 1, 1⟩,
 ⟨⟨some 15, (some (12, true)), .prim (.fadr 0 (.tmp 14))⟩, [0, 1, 2, 3, 4], false, 1, 1⟩,
 ⟨⟨some 16, (some (12, true)), .prim (.load 1 false (.tmp 15))⟩, [0, 1, 2, 3, 4, 5], false, 1, 1⟩,
 ⟨⟨some 17, (some (12, true)), .prim (.mov (.tmp 0))⟩, [0, 1, 2], false, 1, 1⟩,
 ⟨⟨some 18, (some (12, true)), .prim (.nilc (.tmp 17))⟩, [0, 1, 2, 7], false, 1, 1⟩,
 ⟨⟨some 19, (some (12, true)), .prim (.fadr 1 (.tmp 18))⟩, [0, 1, 2, 7, 8], false, 1, 1⟩,
 ⟨⟨some 20, (some (12, true)), .prim (.load 1 false (.tmp 19))⟩, [0, 1, 2, 7, 8, 9], false, 1, 1⟩,
 ⟨⟨some 21, (some (12, true)), .prim (.idxs (.tmp 16) (.tmp 20))⟩, [0, 1, 2, 3, 4, 5, 6, 7, 8, 9, 10], false, 1, 1⟩,
 ⟨⟨some 22, (some (12, true)), .prim (.bin false .eql (.tmp 21) (.const (.int .u8 94)))⟩, [0, 1, 2, 3, 4, 5, 6, 7, 8, 9, 10, 11], false, 1, 1⟩,
 ⟨⟨some 23, none, .prim (.pick (.tmp 12) (.tmp 22) (.const (.bool false)))⟩, [0, 1, 2, 3, 4, 5, 6, 7, 8, 9, 10, 11, 12], false, 1, 1⟩,
 ⟨⟨some 3, none, .prim (.mov (.tmp 23))⟩, [0, 1, 2, 3, 4, 5, 6, 7, 8, 9, 10, 11, 12, 13], false, 1, 1⟩])
 (.seq (.seq (.ops [⟨some 24, none, .prim (.mov (.tmp 3))⟩])
 (.cond (.tmp 24)
 (.ops [⟨some 25, none, .prim (.mov (.tmp 0))⟩,
 ⟨some 26, none, .prim (.nilc (.tmp 25))⟩,
 ⟨some 27, none, .prim (.fadr 1 (.tmp 26))⟩,
 ⟨some 28, none, .prim (.load 1 false (.tmp 27))⟩,
 ⟨some 29, none, .prim (.bin false .add (.tmp 28) (.const (.int .i64 1)))⟩,
 ⟨some 30, none, .prim (.nilc (.tmp 25))⟩,
 ⟨some 31, none, .prim (.fadr 1 (.tmp 30))⟩,
 ⟨none, none, .prim (.store 1 (.tmp 31) (.tmp 29))⟩])
 .skip))
 (.seq (.ops [⟨some 4, none, .prim (.allocm [.pl (.int .u64 0), .pl (.int .u64 0), .pl (.int .u64 0), .pl (.int .u64 0)])⟩])
 (.seq (.ops [⟨some 5, none, .prim (.mov (.const (.int .i64 0)))⟩])
 (.seq (.block 0 (.loop [1, 6, 7, 8, 9, 10, 11, 12, 13, 14, 15, 16, 17, 18, 19, 20, 21, 22, 23, 24, 25, 26, 27, 28, 29, 30, 31, 32, 33, 34, 35, 36, 37, 38, 39, 40, 41, 42, 43, 44, 45, 46, 47, 48, 49, 50, 51, 52, 53, 54, 55, 56, 57, 58, 59, 60, 61, 62, 63, 64, 65, 66, 67, 68, 69, 70, 71, 72, 73, 74, 75, 76, 77, 78, 79, 80, 81, 82, 83, 84, 85, 86, 87, 88, 89, 90, 91, 92, 93, 94, 95, 96, 97, 98, 99, 100, 101, 102, 103, 104, 105, 106, 107, 108, 109, 110, 111, 112, 113, 114, 115, 116, 117, 118, 119, 120, 121, 122, 123, 124, 125, 126, 127, 128] (.seq (.seq (.draw [⟨⟨some 32, none, .prim (.mov (.tmp 0))⟩, [], false, 0, 0⟩,
 ⟨⟨some 33, none, .call (.func 120) [(.tmp 32)]⟩, [0], true, 0, 0⟩,
 ⟨⟨some 34, none, .prim (.mov (.tmp 33))⟩, [0, 1], false, 1, 1⟩,
 ⟨⟨some 35, (some (34, true)), .prim (.mov (.tmp 0))⟩, [0, 1, 2], false, 1, 1⟩,
 ⟨⟨some 36, (some (34, true)), .prim (.nilc (.tmp 35))⟩, [0, 1, 2, 3], false, 1, 1⟩,
 ⟨⟨some 37, (some (34, true)), .prim (.fadr 0 (.tmp 36))⟩, [0, 1, 2, 3, 4], false, 1, 1⟩,
 ⟨⟨some 38, (some (34, true)), .prim (.load 1 false (.tmp 37))⟩, [0, 1, 2, 3, 4, 5], false, 1, 1⟩,
 ⟨⟨some 39, (some (34, true)), .prim (.mov (.tmp 0))⟩, [0, 1, 2], false, 1, 1⟩,
 ⟨⟨some 40, (some (34, true)), .prim (.nilc (.tmp 39))⟩, [0, 1, 2, 7], false, 1, 1⟩,
 ⟨⟨some 41, (some (34, true)), .prim (.fadr 1 (.tmp 40))⟩, [0, 1, 2, 7, 8], false, 1, 1⟩,
 ⟨⟨some 42, (some (34, true)), .prim (.load 1 false (.tmp 41))⟩, [0, 1, 2, 7, 8, 9], false, 1, 1⟩,
 ⟨⟨some 43, (some (34, true)), .prim (.idxs (.tmp 38) (.tmp 42))⟩, [0, 1, 2, 3, 4, 5, 6, 7, 8, 9, 10], false, 1, 1⟩,
 ⟨⟨some 44, (some (34, true)), .prim (.bin false .neq (.tmp 43) (.const (.int .u8 93)))⟩, [0, 1, 2, 3, 4, 5, 6, 7, 8, 9, 10, 11], false, 1, 1⟩,
 ⟨⟨some 45, none, .prim (.pick (.tmp 34) (.tmp 44) (.const (.bool false)))⟩, [0, 1, 2, 3, 4, 5, 6, 7, 8, 9, 10, 11, 12], false, 1, 1⟩])
 (.cond (.tmp 45)
 .skip
 (.exit 0)))
 (.block 1 (.seq (.ops [⟨some 46, none, .prim (.mov (.tmp 0))⟩,
 ⟨some 47, none, .call (.func 158) [(.tmp 46)]⟩,
 ⟨some 6, none, .prim (.mov (.tmp 47))⟩])
 (.seq (.ops [⟨some 48, none, .prim (.mov (.tmp 6))⟩,
 ⟨some 7, none, .prim (.mov (.tmp 48))⟩])
 (.seq (.seq (.draw [⟨⟨some 49, none, .prim (.mov (.tmp 0))⟩, [], false, 0, 0⟩,
 ⟨⟨some 50, none, .call (.func 120) [(.tmp 49)]⟩, [0], true, 0, 0⟩,
 ⟨⟨some 51, none, .prim (.mov (.tmp 50))⟩, [0, 1], false, 1, 1⟩,
 ⟨⟨some 52, (some (51, true)), .prim (.mov (.tmp 0))⟩, [0, 1, 2], false, 1, 1⟩,
 ⟨⟨some 53, (some (51, true)), .prim (.nilc (.tmp 52))⟩, [0, 1, 2, 3], false, 1, 1⟩,
 ⟨⟨some 54, (some (51, true)), .prim (.fadr 0 (.tmp 53))⟩, [0, 1, 2, 3, 4], false, 1, 1⟩,
 ⟨⟨some 55, (some (51, true)), .prim (.load 1 false (.tmp 54))⟩, [0, 1, 2, 3, 4, 5], false, 1, 1⟩,
 ⟨⟨some 56, (some (51, true)), .prim (.mov (.tmp 0))⟩, [0, 1, 2], false, 1, 1⟩,
 ⟨⟨some 57, (some (51, true)), .prim (.nilc (.tmp 56))⟩, [0, 1, 2, 7], false, 1, 1⟩,
 ⟨⟨some 58, (some (51, true)), .prim (.fadr 1 (.tmp 57))⟩, [0, 1, 2, 7, 8], false, 1, 1⟩,
 ⟨⟨some 59, (some (51, true)), .prim (.load 1 false (.tmp 58))⟩, [0, 1, 2, 7, 8, 9], false, 1, 1⟩,
 ⟨⟨some 60, (some (51, true)), .prim (.idxs (.tmp 55) (.tmp 59))⟩, [0, 1, 2, 3, 4, 5, 6, 7, 8, 9, 10], false, 1, 1⟩,
 ⟨⟨some 61, (some (51, true)), .prim (.bin false .eql (.tmp 60) (.const (.int .u8 45)))⟩, [0, 1, 2, 3, 4, 5, 6, 7, 8, 9, 10, 11], false, 1, 1⟩,
 ⟨⟨some 62, none, .prim (.pick (.tmp 51) (.tmp 61) (.const (.bool false)))⟩, [0, 1, 2, 3, 4, 5, 6, 7, 8, 9, 10, 11, 12], false, 1, 1⟩])
 (.cond (.tmp 62)
 (.seq (.ops [⟨some 63, none, .prim (.mov (.tmp 0))⟩,
 ⟨some 64, none, .prim (.nilc (.tmp 63))⟩,
 ⟨some 65, none, .prim (.fadr 1 (.tmp 64))⟩,
 ⟨some 66, none, .prim (.load 1 false (.tmp 65))⟩,
 ⟨some 67, none, .prim (.bin false .add (.tmp 66) (.const (.int .i64 1)))⟩,
 ⟨some 68, none, .prim (.nilc (.tmp 63))⟩,
 ⟨some 69, none, .prim (.fadr 1 (.tmp 68))⟩,
 ⟨none, none, .prim (.store 1 (.tmp 69) (.tmp 67))⟩])
 (.ops [⟨some 70, none, .prim (.mov (.tmp 0))⟩,
 ⟨some 71, none, .call (.func 158) [(.tmp 70)]⟩,
 ⟨some 7, none, .prim (.mov (.tmp 71))⟩]))
 .skip))
 (.seq (.seq (.ops [⟨some 72, none, .prim (.mov (.tmp 7))⟩,
 ⟨some 73, none, .prim (.mov (.tmp 6))⟩,
 ⟨some 74, none, .prim (.bin false .lss (.tmp 72) (.tmp 73))⟩])
 (.cond (.tmp 74)
 (.ops [⟨some 75, none, .prim (.mov (.tmp 0))⟩,
 ⟨some 76, none, .call (.func 152) [(.tmp 75)]⟩])
 .skip))
 (.seq (.seq (.ops [⟨some 77, none, .prim (.mov (.tmp 6))⟩,
 ⟨some 78, none, .prim (.convi .i64 (.tmp 77))⟩,
 ⟨some 8, none, .prim (.mov (.tmp 78))⟩])
 (.block 2 (.loop [1, 6, 9, 10, 11, 12, 13, 14, 15, 16, 17, 18, 19, 20, 21, 22, 23, 24, 25, 26, 27, 28, 29, 30, 31, 32, 33, 34, 35, 36, 37, 38, 39, 40, 41, 42, 43, 44, 45, 46, 47, 48, 49, 50, 51, 52, 53, 54, 55, 56, 57, 58, 59, 60, 61, 62, 63, 64, 65, 66, 67, 68, 69, 70, 71, 72, 73, 74, 75, 76, 77, 78, 79, 80, 81, 82, 83, 84, 85, 86, 87, 88, 89, 90, 91, 92, 93, 94, 95, 96, 97, 98, 99, 100, 101, 102, 103, 104, 105, 106, 107, 108, 109, 110, 111, 112, 113, 114, 115, 116, 117, 118, 119, 120, 121, 122, 123, 124, 125, 126, 127, 128] (.seq (.seq (.ops [⟨some 79, none, .prim (.mov (.tmp 8))⟩,
 ⟨some 80, none, .prim (.mov (.tmp 7))⟩,
 ⟨some 81, none, .prim (.convi .i64 (.tmp 80))⟩,
 ⟨some 82, none, .prim (.bin false .leq (.tmp 79) (.tmp 81))⟩])
 (.cond (.tmp 82)
 .skip
 (.exit 2)))
 (.seq (.block 3 (.ops [⟨some 85, none, .prim (.mov (.tmp 8))⟩,
 ⟨some 86, none, .prim (.bin false .quo (.tmp 85) (.const (.int .i64 64)))⟩,
 ⟨some 87, none, .prim (.mov (.tmp 8))⟩,
 ⟨some 88, none, .prim (.bin false .quo (.tmp 87) (.const (.int .i64 64)))⟩,
 ⟨some 89, none, .prim (.iadra 1 4 (.tmp 4) (.tmp 88))⟩,
 ⟨some 90, none, .prim (.load 1 false (.tmp 89))⟩,
 ⟨some 91, none, .prim (.mov (.tmp 8))⟩,
 ⟨some 92, none, .prim (.bin false .rem (.tmp 91) (.const (.int .i64 64)))⟩,
 ⟨some 93, none, .prim (.convi .u64 (.tmp 92))⟩,
 ⟨some 94, none, .prim (.bin false .shl (.const (.int .u64 1)) (.tmp 93))⟩,
 ⟨some 95, none, .prim (.bin false .or (.tmp 90) (.tmp 94))⟩,
 ⟨some 96, none, .prim (.iadra 1 4 (.tmp 4) (.tmp 86))⟩,
 ⟨none, none, .prim (.store 1 (.tmp 96) (.tmp 95))⟩]))
 (.ops [⟨some 83, none, .prim (.mov (.tmp 8))⟩,
 ⟨some 84, none, .prim (.bin false .add (.tmp 83) (.const (.int .i64 1)))⟩,
 ⟨some 8, none, .prim (.mov (.tmp 84))⟩]))))))
 (.ops [⟨some 97, none, .prim (.mov (.tmp 5))⟩,
 ⟨some 98, none, .prim (.bin false .add (.tmp 97) (.const (.int .i64 1)))⟩,
 ⟨some 5, none, .prim (.mov (.tmp 98))⟩]))))))))))
 (.seq (.seq (.ops [⟨some 99, none, .prim (.mov (.tmp 0))⟩,
 ⟨some 100, none, .call (.func 120) [(.tmp 99)]⟩,
 ⟨some 101, none, .prim (.un .not (.tmp 100))⟩,
 ⟨some 102, none, .prim (.mov (.tmp 101))⟩,
 ⟨some 103, (some (102, false)), .prim (.mov (.tmp 5))⟩,
 ⟨some 104, (some (102, false)), .prim (.bin false .eql (.tmp 103) (.const (.int .i64 0)))⟩,
 ⟨some 105, none, .prim (.pick (.tmp 102) (.const (.bool true)) (.tmp 104))⟩])
 (.cond (.tmp 105)
 (.seq (.ops [⟨some 106, none, .prim (.mov (.tmp 0))⟩,
 ⟨some 107, none, .call (.func 152) [(.tmp 106)]⟩])
 (.seq (.ops [⟨some 108, none, .prim (.build [.pl (.int .i64 0), .pl (.int .u64 0), .pl (.int .u64 0), .pl (.int .u64 0), .pl (.int .u64 0), .nils] [])⟩,
 ⟨none, none, .prim (.store 6 (.tmp 2) (.tmp 108))⟩])
 .ret))
 .skip))
 (.seq (.ops [⟨some 109, none, .prim (.mov (.tmp 0))⟩,
 ⟨some 110, none, .prim (.nilc (.tmp 109))⟩,
 ⟨some 111, none, .prim (.fadr 1 (.tmp 110))⟩,
 ⟨some 112, none, .prim (.load 1 false (.tmp 111))⟩,
 ⟨some 113, none, .prim (.bin false .add (.tmp 112) (.const (.int .i64 1)))⟩,
 ⟨some 114, none, .prim (.nilc (.tmp 109))⟩,
 ⟨some 115, none, .prim (.fadr 1 (.tmp 114))⟩,
 ⟨none, none, .prim (.store 1 (.tmp 115) (.tmp 113))⟩])
 (.seq (.seq (.ops [⟨some 116, none, .prim (.mov (.tmp 3))⟩])
 (.cond (.tmp 116)
 (.seq (.ops [⟨some 9, none, .prim (.mov (.const (.int .i64 0)))⟩])
 (.block 4 (.loop [0, 1, 3, 5, 6, 7, 8, 10, 11, 12, 13, 14, 15, 16, 17, 18, 19, 20, 21, 22, 23, 24, 25, 26, 27, 28, 29, 30, 31, 32, 33, 34, 35, 36, 37, 38, 39, 40, 41, 42, 43, 44, 45, 46, 47, 48, 49, 50, 51, 52, 53, 54, 55, 56, 57, 58, 59, 60, 61, 62, 63, 64, 65, 66, 67, 68, 69, 70, 71, 72, 73, 74, 75, 76, 77, 78, 79, 80, 81, 82, 83, 84, 85, 86, 87, 88, 89, 90, 91, 92, 93, 94, 95, 96, 97, 98, 99, 100, 101, 102, 103, 104, 105, 106, 107, 108, 109, 110, 111, 112, 113, 114, 115, 116, 117, 118, 119, 120, 121, 122, 123, 124, 125, 126, 127, 128] (.seq (.seq (.ops [⟨some 117, none, .prim (.mov (.tmp 9))⟩,
 ⟨some 118, none, .prim (.bin false .lss (.tmp 117) (.const (.int .i64 4)))⟩])
 (.cond (.tmp 118)
 .skip
 (.exit 4)))
 (.seq (.block 5 (.ops [⟨some 121, none, .prim (.mov (.tmp 9))⟩,
 ⟨some 122, none, .prim (.mov (.tmp 9))⟩,
 ⟨some 123, none, .prim (.iadra 1 4 (.tmp 4) (.tmp 122))⟩,
 ⟨some 124, none, .prim (.load 1 false (.tmp 123))⟩,
 ⟨some 125, none, .prim (.un .xor (.tmp 124))⟩,
 ⟨some 126, none, .prim (.iadra 1 4 (.tmp 4) (.tmp 121))⟩,
 ⟨none, none, .prim (.store 1 (.tmp 126) (.tmp 125))⟩]))
 (.ops [⟨some 119, none, .prim (.mov (.tmp 9))⟩,
 ⟨some 120, none, .prim (.bin false .add (.tmp 119) (.const (.int .i64 1)))⟩,
 ⟨some 9, none, .prim (.mov (.tmp 120))⟩]))))))
 .skip))
 (.seq (.ops [⟨some 127, none, .prim (.load 4 true (.tmp 4))⟩,
 ⟨some 128, none, .prim (.build [.pl (.int .i64 0), .pl (.int .u64 0), .pl (.int .u64 0), .pl (.int .u64 0), .pl (.int .u64 0), .nils] [(0, 1, (.const (.int .i64 1))), (1, 4, (.tmp 127))])⟩,
 ⟨none, none, .prim (.store 6 (.tmp 2) (.tmp 128))⟩])
 .ret))))))))))
def o154 : List Tmp := [2, 4]
def r154 : List RV := [.cell 2 6 true]
theorem t154 : Text Try.prog 154 o154 c154 r154 129 := ⟨⟨Try.f154, _, by kernel_rfl, by kernel_rfl, rfl, by kernel_rfl, by kernel_rfl, rfl⟩, by kernel_rfl⟩
def c155 : ACode :=
 (.seq (.ops [⟨some 2, none, .prim (.mov (.const (.bool false)))⟩])
 (.seq (.seq (.ops [⟨some 3, none, .prim (.mov (.tmp 0))⟩])
 (.block 0 (.seq (.seq (.ops [⟨some 5, none, .prim (.bin false .eql (.tmp 3) (.const (.int .u8 124)))⟩,
 ⟨some 4, none, .prim (.mov (.tmp 5))⟩])
 (.cond (.tmp 4)
 .skip
 (.seq (.ops [⟨some 6, none, .prim (.bin false .eql (.tmp 3) (.const (.int .u8 42)))⟩,
 ⟨some 4, none, .prim (.mov (.tmp 6))⟩])
 (.cond (.tmp 4)
 .skip
 (.seq (.ops [⟨some 7, none, .prim (.bin false .eql (.tmp 3) (.const (.int .u8 43)))⟩,
 ⟨some 4, none, .prim (.mov (.tmp 7))⟩])
 (.cond (.tmp 4)
 .skip
 (.seq (.ops [⟨some 8, none, .prim (.bin false .eql (.tmp 3) (.const (.int .u8 63)))⟩,
 ⟨some 4, none, .prim (.mov (.tmp 8))⟩])
 (.cond (.tmp 4)
 .skip
 (.seq (.ops [⟨some 9, none, .prim (.bin false .eql (.tmp 3) (.const (.int .u8 40)))⟩,
 ⟨some 4, none, .prim (.mov (.tmp 9))⟩])
 (.cond (.tmp 4)
 .skip
 (.seq (.ops [⟨some 10, none, .prim (.bin false .eql (.tmp 3) (.const (.int .u8 41)))⟩,
 ⟨some 4, none, .prim (.mov (.tmp 10))⟩])
 (.cond (.tmp 4)
 .skip
 (.seq (.ops [⟨some 11, none, .prim (.bin false .eql (.tmp 3) (.const (.int .u8 91)))⟩,
 ⟨some 4, none, .prim (.mov (.tmp 11))⟩])
 (.cond (.tmp 4)
 .skip
 (.seq (.ops [⟨some 12, none, .prim (.bin false .eql (.tmp 3) (.const (.int .u8 93)))⟩,
 ⟨some 4, none, .prim (.mov (.tmp 12))⟩])
 (.cond (.tmp 4)
 .skip
 (.seq (.ops [⟨some 13, none, .prim (.bin false .eql (.tmp 3) (.const (.int .u8 46)))⟩,
 ⟨some 4, none, .prim (.mov (.tmp 13))⟩])
 (.cond (.tmp 4)
 .skip
 (.ops [⟨some 14, none, .prim (.bin false .eql (.tmp 3) (.const (.int .u8 92)))⟩,
 ⟨some 4, none, .prim (.mov (.tmp 14))⟩])))))))))))))))))))
 (.cond (.tmp 4)
 (.seq (.ops [⟨some 2, none, .prim (.mov (.const (.bool true)))⟩])
 .ret)
 .skip))))
 (.seq (.ops [⟨some 2, none, .prim (.mov (.const (.bool false)))⟩])
 .ret)))
def o155 : List Tmp := []
def r155 : List RV := [.tmp 2]
theorem t155 : Text Try.prog 155 o155 c155 r155 15 := ⟨⟨Try.f155, _, by kernel_rfl, by kernel_rfl, rfl, by kernel_rfl, by kernel_rfl, rfl⟩, by kernel_rfl⟩
def c156 : ACode :=
 (.seq (.ops [⟨some 2, none, .prim (.mov (.const (.int .u8 0)))⟩])
 (.seq (.ops [⟨some 4, none, .prim (.mov (.tmp 0))⟩,
 ⟨some 5, none, .call (.func 145) [(.tmp 4)]⟩,
 ⟨some 3, none, .prim (.mov (.tmp 5))⟩])
 (.seq (.seq (.ops [⟨some 6, none, .prim (.mov (.tmp 3))⟩,
 ⟨some 7, none, .prim (.bin false .eql (.tmp 6) (.const (.int .u8 92)))⟩])
 (.cond (.tmp 7)
 (.seq (.ops [⟨some 8, none, .prim (.mov (.tmp 0))⟩,
 ⟨some 9, none, .call (.func 149) [(.tmp 8)]⟩,
 ⟨some 2, none, .prim (.mov (.tmp 9))⟩])
 .ret)
 .skip))
 (.seq (.ops [⟨some 10, none, .prim (.mov (.tmp 0))⟩,
 ⟨some 11, none, .prim (.mov (.tmp 0))⟩,
 ⟨some 12, none, .prim (.nilc (.tmp 11))⟩,
 ⟨some 13, none, .prim (.fadr 2 (.tmp 12))⟩,
 ⟨some 14, none, .prim (.load 1 false (.tmp 13))⟩,
 ⟨some 15, none, .prim (.mov (.tmp 14))⟩,
 ⟨some 16, (some (15, false)), .prim (.mov (.tmp 3))⟩,
 ⟨some 17, (some (15, false)), .call (.func 150) [(.const (.string (ByteArray.mk #[92, 93, 91, 94, 45]))), (.tmp 16)]⟩,
 ⟨some 18, (some (15, false)), .prim (.bin false .geq (.tmp 17) (.const (.int .i64 0)))⟩,
 ⟨some 19, none, .prim (.pick (.tmp 15) (.const (.bool true)) (.tmp 18))⟩,
 ⟨some 20, none, .prim (.nilc (.tmp 10))⟩,
 ⟨some 21, none, .prim (.fadr 2 (.tmp 20))⟩,
 ⟨none, none, .prim (.store 1 (.tmp 21) (.tmp 19))⟩])
 (.seq (.ops [⟨some 22, none, .prim (.mov (.tmp 3))⟩,
 ⟨some 2, none, .prim (.mov (.tmp 22))⟩])
 .ret)))))
def o156 : List Tmp := []
def r156 : List RV := [.tmp 2]
theorem t156 : Text Try.prog 156 o156 c156 r156 23 := ⟨⟨Try.f156, _, by kernel_rfl, by kernel_rfl, rfl, by kernel_rfl, by kernel_rfl, rfl⟩, by kernel_rfl⟩
def c157 : ACode :=
 (.seq (.ops [⟨some 4, none, .prim (.mov (.const (.int .i64 0)))⟩])
 (.seq (.ops [⟨some 5, none, .prim (.mov (.tmp 0))⟩,
 ⟨some 6, none, .prim (.mov (.tmp 1))⟩,
 ⟨some 7, none, .call (.func 159) [(.tmp 5), (.tmp 6)]⟩,
 ⟨some 4, none, .prim (.mov (.tmp 7))⟩])
 .ret))
def o157 : List Tmp := []
def r157 : List RV := [.tmp 4]
theorem t157 : Text Try.prog 157 o157 c157 r157 8 := ⟨⟨Try.f157, _, by kernel_rfl, by kernel_rfl, rfl, by kernel_rfl, by kernel_rfl, rfl⟩, by kernel_rfl⟩
def c158 : ACode :=
 (.seq (.ops [⟨some 2, none, .prim (.mov (.const (.int .u8 0)))⟩])
 (.seq (.seq (.ops [⟨some 4, none, .prim (.mov (.tmp 0))⟩,
 ⟨some 5, none, .call (.func 120) [(.tmp 4)]⟩,
 ⟨some 6, none, .prim (.un .not (.tmp 5))⟩])
 (.cond (.tmp 6)
 (.seq (.ops [⟨some 7, none, .prim (.mov (.tmp 0))⟩,
 ⟨some 8, none, .call (.func 152) [(.tmp 7)]⟩])
 (.seq (.ops [⟨some 2, none, .prim (.mov (.const (.int .u8 0)))⟩])
 .ret))
 .skip))
 (.seq (.draw [⟨⟨some 9, none, .prim (.mov (.tmp 0))⟩, [], false, 0, 0⟩,
 ⟨⟨some 10, none, .prim (.nilc (.tmp 9))⟩, [0], false, 0, 0⟩,
 ⟨⟨some 11, none, .prim (.fadr 0 (.tmp 10))⟩, [0, 1], false, 0, 0⟩,
 ⟨⟨some 12, none, .prim (.load 1 false (.tmp 11))⟩, [0, 1, 2], false, 0, 0⟩,
 ⟨⟨some 13, none, .prim (.mov (.tmp 0))⟩, [], false, 0, 0⟩,
 ⟨⟨some 14, none, .prim (.nilc (.tmp 13))⟩, [4], false, 0, 0⟩,
 ⟨⟨some 15, none, .prim (.fadr 1 (.tmp 14))⟩, [4, 5], false, 0, 0⟩,
 ⟨⟨some 16, none, .prim (.load 1 false (.tmp 15))⟩, [4, 5, 6], false, 0, 0⟩,
 ⟨⟨some 17, none, .prim (.idxs (.tmp 12) (.tmp 16))⟩, [0, 1, 2, 3, 4, 5, 6, 7], false, 0, 0⟩,
 ⟨⟨some 3, none, .prim (.mov (.tmp 17))⟩, [0, 1, 2, 3, 4, 5, 6, 7, 8], false, 0, 0⟩])
 (.seq (.ops [⟨some 18, none, .prim (.mov (.tmp 0))⟩,
 ⟨some 19, none, .prim (.nilc (.tmp 18))⟩,
 ⟨some 20, none, .prim (.fadr 1 (.tmp 19))⟩,
 ⟨some 21, none, .prim (.load 1 false (.tmp 20))⟩,
 ⟨some 22, none, .prim (.bin false .add (.tmp 21) (.const (.int .i64 1)))⟩,
 ⟨some 23, none, .prim (.nilc (.tmp 18))⟩,
 ⟨some 24, none, .prim (.fadr 1 (.tmp 23))⟩,
 ⟨none, none, .prim (.store 1 (.tmp 24) (.tmp 22))⟩])
 (.seq (.seq (.ops [⟨some 25, none, .prim (.mov (.tmp 3))⟩,
 ⟨some 26, none, .prim (.bin false .eql (.tmp 25) (.const (.int .u8 92)))⟩])
 (.cond (.tmp 26)
 (.seq (.seq (.draw [⟨⟨some 27, none, .prim (.mov (.tmp 0))⟩, [], false, 0, 0⟩,
 ⟨⟨some 28, none, .call (.func 120) [(.tmp 27)]⟩, [0], true, 0, 0⟩,
 ⟨⟨some 29, none, .prim (.un .not (.tmp 28))⟩, [0, 1], false, 1, 1⟩,
 ⟨⟨some 30, none, .prim (.mov (.tmp 29))⟩, [0, 1, 2], false, 1, 1⟩,
 ⟨⟨some 31, (some (30, false)), .prim (.mov (.tmp 0))⟩, [0, 1, 2, 3], false, 1, 1⟩,
 ⟨⟨some 32, (some (30, false)), .prim (.nilc (.tmp 31))⟩, [0, 1, 2, 3, 4], false, 1, 1⟩,
 ⟨⟨some 33, (some (30, false)), .prim (.fadr 0 (.tmp 32))⟩, [0, 1, 2, 3, 4, 5], false, 1, 1⟩,
 ⟨⟨some 34, (some (30, false)), .prim (.load 1 false (.tmp 33))⟩, [0, 1, 2, 3, 4, 5, 6], false, 1, 1⟩,
 ⟨⟨some 35, (some (30, false)), .prim (.mov (.tmp 0))⟩, [0, 1, 2, 3], false, 1, 1⟩,
 ⟨⟨some 36, (some (30, false)), .prim (.nilc (.tmp 35))⟩, [0, 1, 2, 3, 8], false, 1, 1⟩,
 ⟨⟨some 37, (some (30, false)), .prim (.fadr 1 (.tmp 36))⟩, [0, 1, 2, 3, 8, 9], false, 1, 1⟩,
 ⟨⟨some 38, (some (30, false)), .prim (.load 1 false (.tmp 37))⟩, [0, 1, 2, 3, 8, 9, 10], false, 1, 1⟩,
 ⟨⟨some 39, (some (30, false)), .prim (.idxs (.tmp 34) (.tmp 38))⟩, [0, 1, 2, 3, 4, 5, 6, 7, 8, 9, 10, 11], false, 1, 1⟩,
 ⟨⟨some 40, (some (30, false)), .call (.func 151) [(.tmp 39)]⟩, [0, 1, 2, 3, 4, 5, 6, 7, 8, 9, 10, 11, 12], true, 0, 0⟩,
 ⟨⟨some 41, (some (30, false)), .prim (.un .not (.tmp 40))⟩, [0, 1, 2, 3, 4, 5, 6, 7, 8, 9, 10, 11, 12, 13], false, 2, 2⟩,
 ⟨⟨some 42, none, .prim (.pick (.tmp 30) (.const (.bool true)) (.tmp 41))⟩, [0, 1, 2, 3, 4, 5, 6, 7, 8, 9, 10, 11, 12, 13, 14], false, 2, 2⟩])
 (.cond (.tmp 42)
 (.seq (.ops [⟨some 43, none, .prim (.mov (.tmp 0))⟩,
 ⟨some 44, none, .call (.func 152) [(.tmp 43)]⟩])
 (.seq (.ops [⟨some 2, none, .prim (.mov (.const (.int .u8 0)))⟩])
 .ret))
 .skip))
 (.seq (.ops [⟨some 45, none, .prim (.mov (.tmp 0))⟩,
 ⟨some 46, none, .prim (.nilc (.tmp 45))⟩,
 ⟨some 47, none, .prim (.fadr 1 (.tmp 46))⟩,
 ⟨some 48, none, .prim (.load 1 false (.tmp 47))⟩,
 ⟨some 49, none, .prim (.bin false .add (.tmp 48) (.const (.int .i64 1)))⟩,
 ⟨some 50, none, .prim (.nilc (.tmp 45))⟩,
 ⟨some 51, none, .prim (.fadr 1 (.tmp 50))⟩,
 ⟨none, none, .prim (.store 1 (.tmp 51) (.tmp 49))⟩])
 (.seq (.draw [⟨⟨some 52, none, .prim (.mov (.tmp 0))⟩, [], false, 0, 0⟩,
 ⟨⟨some 53, none, .prim (.nilc (.tmp 52))⟩, [0], false, 0, 0⟩,
 ⟨⟨some 54, none, .prim (.fadr 0 (.tmp 53))⟩, [0, 1], false, 0, 0⟩,
 ⟨⟨some 55, none, .prim (.load 1 false (.tmp 54))⟩, [0, 1, 2], false, 0, 0⟩,
 ⟨⟨some 56, none, .prim (.mov (.tmp 0))⟩, [], false, 0, 0⟩,
 ⟨⟨some 57, none, .prim (.nilc (.tmp 56))⟩, [4], false, 0, 0⟩,
 ⟨⟨some 58, none, .prim (.fadr 1 (.tmp 57))⟩, [4, 5], false, 0, 0⟩,
 ⟨⟨some 59, none, .prim (.load 1 false (.tmp 58))⟩, [4, 5, 6], false, 0, 0⟩,
 ⟨⟨some 60, none, .prim (.bin false .sub (.tmp 59) (.const (.int .i64 1)))⟩, [4, 5, 6, 7], false, 0, 0⟩,
 ⟨⟨some 61, none, .prim (.idxs (.tmp 55) (.tmp 60))⟩, [0, 1, 2, 3, 4, 5, 6, 7, 8], false, 0, 0⟩,
 ⟨⟨some 2, none, .prim (.mov (.tmp 61))⟩, [0, 1, 2, 3, 4, 5, 6, 7, 8, 9], false, 0, 0⟩])
 .ret)))
 .skip))
 (.seq (.seq (.ops [⟨some 62, none, .prim (.mov (.tmp 3))⟩,
 ⟨some 63, none, .prim (.bin false .eql (.tmp 62) (.const (.int .u8 93)))⟩,
 ⟨some 64, none, .prim (.mov (.tmp 63))⟩,
 ⟨some 65, (some (64, false)), .prim (.mov (.tmp 3))⟩,
 ⟨some 66, (some (64, false)), .prim (.bin false .eql (.tmp 65) (.const (.int .u8 91)))⟩,
 ⟨some 67, none, .prim (.pick (.tmp 64) (.const (.bool true)) (.tmp 66))⟩,
 ⟨some 68, none, .prim (.mov (.tmp 67))⟩,
 ⟨some 69, (some (68, false)), .prim (.mov (.tmp 3))⟩,
 ⟨some 70, (some (68, false)), .prim (.bin false .eql (.tmp 69) (.const (.int .u8 94)))⟩,
 ⟨some 71, none, .prim (.pick (.tmp 68) (.const (.bool true)) (.tmp 70))⟩,
 ⟨some 72, none, .prim (.mov (.tmp 71))⟩,
 ⟨some 73, (some (72, false)), .prim (.mov (.tmp 3))⟩,
 ⟨some 74, (some (72, false)), .prim (.bin false .eql (.tmp 73) (.const (.int .u8 45)))⟩,
 ⟨some 75, none, .prim (.pick (.tmp 72) (.const (.bool true)) (.tmp 74))⟩])
 (.cond (.tmp 75)
 (.ops [⟨some 76, none, .prim (.mov (.tmp 0))⟩,
 ⟨some 77, none, .call (.func 152) [(.tmp 76)]⟩])
 .skip))
 (.seq (.ops [⟨some 78, none, .prim (.mov (.tmp 3))⟩,
 ⟨some 2, none, .prim (.mov (.tmp 78))⟩])
 .ret)))))))
def o158 : List Tmp := []
def r158 : List RV := [.tmp 2]
theorem t158 : Text Try.prog 158 o158 c158 r158 79 := ⟨⟨Try.f158, _, by kernel_rfl, by kernel_rfl, rfl, by kernel_rfl, by kernel_rfl, rfl⟩, by kernel_rfl⟩
end Go.Proofs.Ytoadgajhkhejiaa
