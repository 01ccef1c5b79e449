/- What the functions do, over abstract values: printed by a program, checked by the kernel. No condition. -/
import Derived.Test.YtmkmhhjkdaklbaaGreatProg
import Derived.Test.YtmkmhhjkdaklbaaGreatAbStep
set_option linter.unusedSimpArgs false
set_option linter.unusedVariables false
namespace Go.Proofs.YtmkmhhjkdaklbaaGreat
open Go Go.Ab
set_option maxRecDepth 100000
def c54 : ACode :=
 (.seq (.ops [⟨some 2, none, .prim (.mov (.const (.pointer none)))⟩])
 (.seq (.ops [⟨some 3, none, .prim (.mov (.tmp 0))⟩,
 ⟨some 4, none, .prim (.build [.nils, .pl (.int .i64 0), .pl (.bool false)] [(0, 1, (.tmp 3))])⟩,
 ⟨some 5, none, .prim (.boxm (.tmp 4))⟩,
 ⟨some 2, none, .prim (.mov (.tmp 5))⟩])
 .ret))
def o54 : List Tmp := [5]
def r54 : List RV := [.tmp 2]
theorem t54 : Text Tryz.prog 54 o54 c54 r54 6 := ⟨⟨Tryz.f54, _, by kernel_rfl, by kernel_rfl, rfl, by kernel_rfl, by kernel_rfl, rfl⟩, by kernel_rfl⟩
def c56 : ACode :=
 (.seq (.ops [⟨some 2, none, .prim (.mov (.const (.slice none 0 0)))⟩,
 ⟨some 3, none, .prim (.mov (.const (.int .i64 0)))⟩,
 ⟨some 4, none, .prim (.mov (.const (.bool false)))⟩])
 (.seq (.ops [⟨some 9, none, .prim (.mov (.tmp 0))⟩,
 ⟨some 10, none, .call (.func 54) [(.tmp 9)]⟩,
 ⟨some 5, none, .prim (.mov (.tmp 10))⟩])
 (.seq (.after (.ops [⟨some 6, none, .prim (.mov (.const (.slice none 0 0)))⟩]) (.own 6 3))
 (.seq (.seq (.ops [⟨some 11, none, .prim (.mov (.tmp 5))⟩,
 ⟨some 12, none, .call (.func 59) [(.tmp 11), (.const (.int .u64 5))]⟩,
 ⟨some 13, none, .prim (.mov (.const (.int .u64 0)))⟩])
 (.block 0 (.loop [0, 1, 2, 3, 4, 7, 8, 9, 10, 11, 14, 15, 16, 17, 18, 19, 20, 21, 22, 23, 24, 25, 26, 27, 28, 29, 30, 31, 32, 33, 34, 35, 36, 37, 38, 39] (.seq (.ops [⟨some 14, none, .prim (.bin false .lss (.tmp 13) (.tmp 12))⟩])
 (.seq (.cond (.tmp 14)
 .skip
 (.exit 0))
 (.seq (.block 1 (.ops [⟨some 15, none, .prim (.mov (.tmp 6))⟩,
 ⟨some 16, none, .prim (.mov (.tmp 5))⟩,
 ⟨some 17, none, .call (.func 83) [(.tmp 16)]⟩,
 ⟨some 18, none, .prim (.convi .i64 (.tmp 17))⟩,
 ⟨some 19, none, .prim (.mov (.tmp 5))⟩,
 ⟨some 20, none, .call (.func 60) [(.tmp 19), (.const (.int .i64 12))]⟩,
 ⟨some 21, none, .prim (.mov (.tmp 5))⟩,
 ⟨some 22, none, .call (.func 60) [(.tmp 21), (.const (.int .i64 40))]⟩,
 ⟨some 23, none, .prim (.build [.pl (.int .i64 0), .pl (.string .empty), .pl (.string .empty)] [(0, 1, (.tmp 18)), (1, 1, (.tmp 20)), (2, 1, (.tmp 22))])⟩,
 ⟨some 24, none, .prim (.bsl false 3 true 1 [.pl (.int .i64 0), .pl (.string .empty), .pl (.string .empty)] [(0, 3, (.tmp 23))])⟩,
 ⟨some 25, none, .prim (.app 3 (.tmp 15) (.tmp 24))⟩,
 ⟨some 6, none, .prim (.mov (.tmp 25))⟩]))
 (.ops [⟨some 26, none, .prim (.bin false .add (.tmp 13) (.const (.int .u64 1)))⟩,
 ⟨some 13, none, .prim (.mov (.tmp 26))⟩])))))))
 (.seq (.ghost (.shut 6) (.ops [⟨some 27, none, .prim (.mov (.tmp 5))⟩,
 ⟨some 28, none, .prim (.mov (.tmp 6))⟩,
 ⟨some 29, none, .call (.func 106) [(.tmp 28)]⟩,
 ⟨some 30, none, .call (.func 61) [(.tmp 27), (.tmp 29)]⟩]))
 (.seq (.ops [⟨some 32, none, .prim (.mov (.tmp 5))⟩,
 ⟨some 33, none, .call (.func 62) [(.tmp 32)]⟩,
 ⟨some 31, none, .prim (.mov (.tmp 33))⟩,
 ⟨some 34, none, .prim (.extr 0 (.tmp 31))⟩,
 ⟨some 35, none, .prim (.extr 1 (.tmp 31))⟩,
 ⟨some 7, none, .prim (.mov (.tmp 34))⟩,
 ⟨some 8, none, .prim (.mov (.tmp 35))⟩])
 (.seq (.seq (.ops [⟨some 36, none, .prim (.mov (.tmp 8))⟩,
 ⟨some 37, none, .prim (.un .not (.tmp 36))⟩])
 (.cond (.tmp 37)
 (.seq (.ops [⟨some 2, none, .prim (.mov (.const (.slice none 0 0)))⟩,
 ⟨some 3, none, .prim (.mov (.const (.int .i64 0)))⟩,
 ⟨some 4, none, .prim (.mov (.const (.bool false)))⟩])
 (.ghost (.shut 2) .ret))
 .skip))
 (.seq (.ops [⟨some 38, none, .prim (.mov (.tmp 6))⟩,
 ⟨some 39, none, .prim (.mov (.tmp 7))⟩,
 ⟨some 2, none, .prim (.mov (.tmp 38))⟩,
 ⟨some 3, none, .prim (.mov (.tmp 39))⟩,
 ⟨some 4, none, .prim (.mov (.const (.bool true)))⟩])
 (.ghost (.shut 2) .ret)))))))))
def o56 : List Tmp := []
def r56 : List RV := [.tmp 2, .tmp 3, .tmp 4]
theorem t56 : Text Tryz.prog 56 o56 c56 r56 40 := ⟨⟨Tryz.f56, _, by kernel_rfl, by kernel_rfl, rfl, by kernel_rfl, by kernel_rfl, rfl⟩, by kernel_rfl⟩
def c59 : ACode :=
 (.seq (.ops [⟨some 4, none, .prim (.mov (.const (.int .u64 0)))⟩])
 (.seq (.ops [⟨some 9, none, .prim (.mov (.tmp 0))⟩,
 ⟨some 10, none, .call (.func 112) [(.tmp 9)]⟩,
 ⟨some 11, none, .call (.func 115) [(.tmp 10)]⟩,
 ⟨some 8, none, .prim (.mov (.tmp 11))⟩,
 ⟨some 12, none, .prim (.extr 0 (.tmp 8))⟩,
 ⟨some 13, none, .prim (.extr 1 (.tmp 8))⟩,
 ⟨some 14, none, .prim (.extr 2 (.tmp 8))⟩,
 ⟨some 5, none, .prim (.mov (.tmp 12))⟩,
 ⟨some 6, none, .prim (.mov (.tmp 13))⟩,
 ⟨some 7, none, .prim (.mov (.tmp 14))⟩])
 (.seq (.seq (.ops [⟨some 15, none, .prim (.mov (.tmp 0))⟩,
 ⟨some 16, none, .prim (.mov (.tmp 6))⟩,
 ⟨some 17, none, .prim (.mov (.tmp 7))⟩,
 ⟨some 18, none, .prim (.mov (.tmp 17))⟩,
 ⟨some 19, (some (18, true)), .prim (.mov (.tmp 5))⟩,
 ⟨some 20, (some (18, true)), .prim (.mov (.tmp 1))⟩,
 ⟨some 21, (some (18, true)), .prim (.bin false .leq (.tmp 19) (.tmp 20))⟩,
 ⟨some 22, none, .prim (.pick (.tmp 18) (.tmp 21) (.const (.bool false)))⟩,
 ⟨some 23, none, .call (.func 113) [(.tmp 15), (.tmp 16), (.tmp 22)]⟩,
 ⟨some 24, none, .prim (.un .not (.tmp 23))⟩])
 (.cond (.tmp 24)
 (.seq (.ops [⟨some 4, none, .prim (.mov (.const (.int .u64 0)))⟩])
 .ret)
 .skip))
 (.seq (.ops [⟨some 25, none, .prim (.mov (.tmp 5))⟩,
 ⟨some 4, none, .prim (.mov (.tmp 25))⟩])
 .ret))))
def o59 : List Tmp := []
def r59 : List RV := [.tmp 4]
theorem t59 : Text Tryz.prog 59 o59 c59 r59 26 := ⟨⟨Tryz.f59, _, by kernel_rfl, by kernel_rfl, rfl, by kernel_rfl, by kernel_rfl, rfl⟩, by kernel_rfl⟩
def c60 : ACode :=
 (.seq (.ops [⟨some 4, none, .prim (.mov (.const (.string (ByteArray.mk #[]))))⟩])
 (.seq (.ops [⟨some 9, none, .prim (.mov (.tmp 0))⟩,
 ⟨some 10, none, .call (.func 112) [(.tmp 9)]⟩,
 ⟨some 11, none, .prim (.mov (.tmp 1))⟩,
 ⟨some 12, none, .call (.func 116) [(.tmp 10), (.tmp 11)]⟩,
 ⟨some 8, none, .prim (.mov (.tmp 12))⟩,
 ⟨some 13, none, .prim (.extr 0 (.tmp 8))⟩,
 ⟨some 14, none, .prim (.extr 1 (.tmp 8))⟩,
 ⟨some 15, none, .prim (.extr 2 (.tmp 8))⟩,
 ⟨some 5, none, .prim (.mov (.tmp 13))⟩,
 ⟨some 6, none, .prim (.mov (.tmp 14))⟩,
 ⟨some 7, none, .prim (.mov (.tmp 15))⟩])
 (.seq (.seq (.ops [⟨some 16, none, .prim (.mov (.tmp 0))⟩,
 ⟨some 17, none, .prim (.mov (.tmp 6))⟩,
 ⟨some 18, none, .prim (.mov (.tmp 7))⟩,
 ⟨some 19, none, .call (.func 113) [(.tmp 16), (.tmp 17), (.tmp 18)]⟩,
 ⟨some 20, none, .prim (.un .not (.tmp 19))⟩])
 (.cond (.tmp 20)
 (.seq (.ops [⟨some 4, none, .prim (.mov (.const (.string (ByteArray.mk #[]))))⟩])
 .ret)
 .skip))
 (.seq (.ops [⟨some 21, none, .prim (.mov (.tmp 5))⟩,
 ⟨some 4, none, .prim (.mov (.tmp 21))⟩])
 .ret))))
def o60 : List Tmp := []
def r60 : List RV := [.tmp 4]
theorem t60 : Text Tryz.prog 60 o60 c60 r60 22 := ⟨⟨Tryz.f60, _, by kernel_rfl, by kernel_rfl, rfl, by kernel_rfl, by kernel_rfl, rfl⟩, by kernel_rfl⟩
def c61 : ACode :=
 (.ops [⟨some 4, none, .prim (.mov (.tmp 0))⟩,
 ⟨some 5, none, .prim (.mov (.tmp 1))⟩,
 ⟨some 6, none, .call (.func 113) [(.tmp 4), (.const (.int .i64 0)), (.tmp 5)]⟩])
def o61 : List Tmp := []
def r61 : List RV := []
theorem t61 : Text Tryz.prog 61 o61 c61 r61 7 := ⟨⟨Tryz.f61, _, by kernel_rfl, by kernel_rfl, rfl, by kernel_rfl, by kernel_rfl, rfl⟩, by kernel_rfl⟩
def c62 : ACode :=
 (.seq (.ops [⟨some 2, none, .prim (.mov (.const (.int .i64 0)))⟩,
 ⟨some 3, none, .prim (.mov (.const (.bool false)))⟩])
 (.seq (.seq (.ops [⟨some 4, none, .prim (.mov (.tmp 0))⟩,
 ⟨some 5, none, .prim (.nilc (.tmp 4))⟩,
 ⟨some 6, none, .prim (.fadr 2 (.tmp 5))⟩,
 ⟨some 7, none, .prim (.load 1 false (.tmp 6))⟩])
 (.cond (.tmp 7)
 (.seq (.ops [⟨some 2, none, .prim (.mov (.const (.int .i64 0)))⟩,
 ⟨some 3, none, .prim (.mov (.const (.bool false)))⟩])
 .ret)
 .skip))
 (.seq (.ops [⟨some 8, none, .prim (.mov (.tmp 0))⟩,
 ⟨some 9, none, .prim (.nilc (.tmp 8))⟩,
 ⟨some 10, none, .prim (.fadr 1 (.tmp 9))⟩,
 ⟨some 11, none, .prim (.load 1 false (.tmp 10))⟩,
 ⟨some 2, none, .prim (.mov (.tmp 11))⟩,
 ⟨some 3, none, .prim (.mov (.const (.bool true)))⟩])
 .ret)))
def o62 : List Tmp := []
def r62 : List RV := [.tmp 2, .tmp 3]
theorem t62 : Text Tryz.prog 62 o62 c62 r62 12 := ⟨⟨Tryz.f62, _, by kernel_rfl, by kernel_rfl, rfl, by kernel_rfl, by kernel_rfl, rfl⟩, by kernel_rfl⟩
def c69 : ACode :=
 (.seq (.ops [⟨some 2, none, .prim (.mov (.const (.slice none 0 0)))⟩])
 (.seq (.seq (.ops [⟨some 6, none, .prim (.mov (.tmp 0))⟩,
 ⟨some 7, none, .call (.func 106) [(.tmp 6)]⟩,
 ⟨some 8, none, .prim (.un .not (.tmp 7))⟩])
 (.cond (.tmp 8)
 (.seq (.ops [⟨some 2, none, .prim (.mov (.const (.slice none 0 0)))⟩])
 (.ghost (.shut 2) .ret))
 .skip))
 (.seq (.ops [⟨some 9, none, .prim (.mov (.tmp 0))⟩,
 ⟨some 10, none, .prim (.lenv (.tmp 9))⟩,
 ⟨some 11, none, .prim (.convi .u64 (.tmp 10))⟩,
 ⟨some 12, none, .call (.func 71) [(.tmp 11)]⟩,
 ⟨some 3, none, .prim (.mov (.tmp 12))⟩])
 (.seq (.seq (.ops [⟨some 13, none, .prim (.mov (.tmp 0))⟩,
 ⟨some 14, none, .prim (.lenv (.tmp 13))⟩,
 ⟨some 15, none, .prim (.mov (.const (.int .i64 0)))⟩])
 (.block 0 (.loop [0, 1, 2, 4, 5, 6, 7, 8, 9, 10, 11, 12, 16, 17, 18, 19, 20, 21, 22, 23, 24, 25, 26, 27, 28, 29, 30, 31, 32, 33, 34, 35, 36] (.seq (.ops [⟨some 16, none, .prim (.bin false .lss (.tmp 15) (.tmp 14))⟩])
 (.seq (.cond (.tmp 16)
 .skip
 (.exit 0))
 (.seq (.block 1 (.seq (.ops [⟨some 17, none, .prim (.iadrs 3 (.tmp 13) (.tmp 15))⟩,
 ⟨some 18, none, .prim (.load 3 true (.tmp 17))⟩,
 ⟨some 5, none, .fresh 3 5 (.tmp 18)⟩])
 (.seq (.ops [⟨some 19, none, .prim (.mov (.tmp 3))⟩,
 ⟨some 20, none, .prim (.fadr 0 (.tmp 5))⟩,
 ⟨some 21, none, .prim (.load 1 false (.tmp 20))⟩,
 ⟨some 22, none, .prim (.convi .u8 (.tmp 21))⟩,
 ⟨some 23, none, .prim (.bsl false 1 false 1 [.pl (.int .u8 0)] [(0, 1, (.tmp 22))])⟩,
 ⟨some 24, none, .prim (.app 1 (.tmp 19) (.tmp 23))⟩,
 ⟨some 3, none, .prim (.mov (.tmp 24))⟩])
 (.seq (.ops [⟨some 25, none, .prim (.mov (.tmp 3))⟩,
 ⟨some 26, none, .prim (.fadr 1 (.tmp 5))⟩,
 ⟨some 27, none, .prim (.load 1 false (.tmp 26))⟩,
 ⟨some 28, none, .call (.func 72) [(.tmp 27)]⟩,
 ⟨some 29, none, .prim (.app 1 (.tmp 25) (.tmp 28))⟩,
 ⟨some 3, none, .prim (.mov (.tmp 29))⟩])
 (.ops [⟨some 30, none, .prim (.mov (.tmp 3))⟩,
 ⟨some 31, none, .prim (.fadr 2 (.tmp 5))⟩,
 ⟨some 32, none, .prim (.load 1 false (.tmp 31))⟩,
 ⟨some 33, none, .call (.func 72) [(.tmp 32)]⟩,
 ⟨some 34, none, .prim (.app 1 (.tmp 30) (.tmp 33))⟩,
 ⟨some 3, none, .prim (.mov (.tmp 34))⟩])))))
 (.ops [⟨some 35, none, .prim (.bin false .add (.tmp 15) (.const (.int .i64 1)))⟩,
 ⟨some 15, none, .prim (.mov (.tmp 35))⟩])))))))
 (.seq (.ops [⟨some 36, none, .prim (.mov (.tmp 3))⟩,
 ⟨some 2, none, .prim (.mov (.tmp 36))⟩])
 (.ghost (.shut 2) .ret))))))
def o69 : List Tmp := []
def r69 : List RV := [.tmp 2]
theorem t69 : Text Tryz.prog 69 o69 c69 r69 37 := ⟨⟨Tryz.f69, _, by kernel_rfl, by kernel_rfl, rfl, by kernel_rfl, by kernel_rfl, rfl⟩, by kernel_rfl⟩
def c71 : ACode :=
 (.seq (.ops [⟨some 2, none, .prim (.mov (.const (.slice none 0 0)))⟩])
 (.seq (.after (.ops [⟨some 3, none, .prim (.mov (.const (.slice none 0 0)))⟩]) (.own 3 1))
 (.seq (.block 0 (.loop [1, 2, 4, 5, 6, 7, 8, 9, 10, 11, 12, 13, 14, 15, 16, 17, 18] (.seq (.seq (.ops [⟨some 4, none, .prim (.mov (.tmp 0))⟩,
 ⟨some 5, none, .prim (.bin false .geq (.tmp 4) (.const (.int .u64 128)))⟩])
 (.cond (.tmp 5)
 .skip
 (.exit 0)))
 (.block 1 (.seq (.ops [⟨some 6, none, .prim (.mov (.tmp 3))⟩,
 ⟨some 7, none, .prim (.mov (.tmp 0))⟩,
 ⟨some 8, none, .prim (.convi .u8 (.tmp 7))⟩,
 ⟨some 9, none, .prim (.bin false .or (.tmp 8) (.const (.int .u8 128)))⟩,
 ⟨some 10, none, .prim (.bsl false 1 false 1 [.pl (.int .u8 0)] [(0, 1, (.tmp 9))])⟩,
 ⟨some 11, none, .prim (.app 1 (.tmp 6) (.tmp 10))⟩,
 ⟨some 3, none, .prim (.mov (.tmp 11))⟩])
 (.ops [⟨some 12, none, .prim (.mov (.tmp 0))⟩,
 ⟨some 13, none, .prim (.bin false .shr (.tmp 12) (.const (.int .u64 7)))⟩,
 ⟨some 0, none, .prim (.mov (.tmp 13))⟩]))))))
 (.seq (.ops [⟨some 14, none, .prim (.mov (.tmp 3))⟩,
 ⟨some 15, none, .prim (.mov (.tmp 0))⟩,
 ⟨some 16, none, .prim (.convi .u8 (.tmp 15))⟩,
 ⟨some 17, none, .prim (.bsl false 1 false 1 [.pl (.int .u8 0)] [(0, 1, (.tmp 16))])⟩,
 ⟨some 18, none, .prim (.app 1 (.tmp 14) (.tmp 17))⟩,
 ⟨some 2, none, .prim (.mov (.tmp 18))⟩])
 .ret))))
def o71 : List Tmp := []
def r71 : List RV := [.tmp 2]
theorem t71 : Text Tryz.prog 71 o71 c71 r71 19 := ⟨⟨Tryz.f71, _, by kernel_rfl, by kernel_rfl, rfl, by kernel_rfl, by kernel_rfl, rfl⟩, by kernel_rfl⟩
def c72 : ACode :=
 (.seq (.ops [⟨some 2, none, .prim (.mov (.const (.slice none 0 0)))⟩])
 (.seq (.ops [⟨some 3, none, .prim (.mov (.tmp 0))⟩,
 ⟨some 4, none, .prim (.lens (.tmp 3))⟩,
 ⟨some 5, none, .prim (.convi .u64 (.tmp 4))⟩,
 ⟨some 6, none, .call (.func 71) [(.tmp 5)]⟩,
 ⟨some 7, none, .prim (.mov (.tmp 0))⟩,
 ⟨some 8, none, .prim (.app 1 (.tmp 6) (.tmp 7))⟩,
 ⟨some 2, none, .prim (.mov (.tmp 8))⟩])
 .ret))
def o72 : List Tmp := []
def r72 : List RV := [.tmp 2]
theorem t72 : Text Tryz.prog 72 o72 c72 r72 9 := ⟨⟨Tryz.f72, _, by kernel_rfl, by kernel_rfl, rfl, by kernel_rfl, by kernel_rfl, rfl⟩, by kernel_rfl⟩
def c77 : ACode :=
 (.seq (.ops [⟨some 4, none, .prim (.mov (.const (.bool false)))⟩])
 (.seq (.seq (.ops [⟨some 6, none, .prim (.mov (.tmp 0))⟩,
 ⟨some 7, none, .prim (.lenv (.tmp 6))⟩,
 ⟨some 8, none, .prim (.mov (.tmp 1))⟩,
 ⟨some 9, none, .prim (.lenv (.tmp 8))⟩,
 ⟨some 10, none, .prim (.bin false .neq (.tmp 7) (.tmp 9))⟩])
 (.cond (.tmp 10)
 (.seq (.ops [⟨some 4, none, .prim (.mov (.const (.bool false)))⟩])
 .ret)
 .skip))
 (.seq (.seq (.ops [⟨some 5, none, .prim (.mov (.const (.int .i64 0)))⟩])
 (.block 0 (.loop [2, 3, 4, 6, 7, 8, 9, 10, 11, 12, 13, 14, 15, 16, 17, 18, 19, 20, 21, 22, 23, 24, 25] (.seq (.seq (.ops [⟨some 11, none, .prim (.mov (.tmp 5))⟩,
 ⟨some 12, none, .prim (.mov (.tmp 0))⟩,
 ⟨some 13, none, .prim (.lenv (.tmp 12))⟩,
 ⟨some 14, none, .prim (.bin false .lss (.tmp 11) (.tmp 13))⟩])
 (.cond (.tmp 14)
 .skip
 (.exit 0)))
 (.seq (.block 1 (.seq (.draw [⟨⟨some 17, none, .prim (.mov (.tmp 0))⟩, [], false, 0, 0⟩,
 ⟨⟨some 18, none, .prim (.mov (.tmp 5))⟩, [], false, 0, 0⟩,
 ⟨⟨some 19, none, .prim (.iadrs 3 (.tmp 17) (.tmp 18))⟩, [0, 1], false, 0, 0⟩,
 ⟨⟨some 20, none, .prim (.load 3 true (.tmp 19))⟩, [0, 1, 2], false, 0, 0⟩,
 ⟨⟨some 21, none, .prim (.mov (.tmp 1))⟩, [], false, 0, 0⟩,
 ⟨⟨some 22, none, .prim (.mov (.tmp 5))⟩, [], false, 0, 0⟩,
 ⟨⟨some 23, none, .prim (.iadrs 3 (.tmp 21) (.tmp 22))⟩, [4, 5], false, 0, 0⟩,
 ⟨⟨some 24, none, .prim (.load 3 true (.tmp 23))⟩, [4, 5, 6], false, 0, 0⟩,
 ⟨⟨some 25, none, .prim (.eqa true [.int, .str, .str] (.tmp 20) (.tmp 24))⟩, (List.range 8), false, 0, 0⟩])
 (.cond (.tmp 25)
 (.seq (.ops [⟨some 4, none, .prim (.mov (.const (.bool false)))⟩])
 .ret)
 .skip)))
 (.ops [⟨some 15, none, .prim (.mov (.tmp 5))⟩,
 ⟨some 16, none, .prim (.bin false .add (.tmp 15) (.const (.int .i64 1)))⟩,
 ⟨some 5, none, .prim (.mov (.tmp 16))⟩]))))))
 (.seq (.ops [⟨some 4, none, .prim (.mov (.const (.bool true)))⟩])
 .ret))))
def o77 : List Tmp := []
def r77 : List RV := [.tmp 4]
theorem t77 : Text Tryz.prog 77 o77 c77 r77 26 := ⟨⟨Tryz.f77, _, by kernel_rfl, by kernel_rfl, rfl, by kernel_rfl, by kernel_rfl, rfl⟩, by kernel_rfl⟩
def c83 : ACode :=
 (.seq (.ops [⟨some 2, none, .prim (.mov (.const (.int .u8 0)))⟩])
 (.seq (.ops [⟨some 4, none, .prim (.mov (.tmp 0))⟩,
 ⟨some 5, none, .call (.func 112) [(.tmp 4)]⟩,
 ⟨some 3, none, .prim (.mov (.tmp 5))⟩])
 (.seq (.seq (.ops [⟨some 6, none, .prim (.mov (.tmp 0))⟩,
 ⟨some 7, none, .prim (.mov (.tmp 3))⟩,
 ⟨some 8, none, .prim (.lenv (.tmp 7))⟩,
 ⟨some 9, none, .prim (.bin false .gtr (.tmp 8) (.const (.int .i64 0)))⟩,
 ⟨some 10, none, .call (.func 113) [(.tmp 6), (.const (.int .i64 1)), (.tmp 9)]⟩,
 ⟨some 11, none, .prim (.un .not (.tmp 10))⟩])
 (.cond (.tmp 11)
 (.seq (.ops [⟨some 2, none, .prim (.mov (.const (.int .u8 0)))⟩])
 .ret)
 .skip))
 (.seq (.ops [⟨some 12, none, .prim (.mov (.tmp 3))⟩,
 ⟨some 13, none, .prim (.iadrs 1 (.tmp 12) (.const (.int .i64 0)))⟩,
 ⟨some 14, none, .prim (.load 1 false (.tmp 13))⟩,
 ⟨some 2, none, .prim (.mov (.tmp 14))⟩])
 .ret))))
def o83 : List Tmp := []
def r83 : List RV := [.tmp 2]
theorem t83 : Text Tryz.prog 83 o83 c83 r83 15 := ⟨⟨Tryz.f83, _, by kernel_rfl, by kernel_rfl, rfl, by kernel_rfl, by kernel_rfl, rfl⟩, by kernel_rfl⟩
def c112 : ACode :=
 (.seq (.ops [⟨some 2, none, .prim (.mov (.const (.slice none 0 0)))⟩])
 (.seq (.draw [⟨⟨some 3, none, .prim (.mov (.tmp 0))⟩, [], false, 0, 0⟩,
 ⟨⟨some 4, none, .prim (.nilc (.tmp 3))⟩, [0], false, 0, 0⟩,
 ⟨⟨some 5, none, .prim (.fadr 0 (.tmp 4))⟩, [0, 1], false, 0, 0⟩,
 ⟨⟨some 6, none, .prim (.load 1 false (.tmp 5))⟩, [0, 1, 2], false, 0, 0⟩,
 ⟨⟨some 7, none, .prim (.mov (.tmp 0))⟩, [], false, 0, 0⟩,
 ⟨⟨some 8, none, .prim (.nilc (.tmp 7))⟩, [4], false, 0, 0⟩,
 ⟨⟨some 9, none, .prim (.fadr 1 (.tmp 8))⟩, [4, 5], false, 0, 0⟩,
 ⟨⟨some 10, none, .prim (.load 1 false (.tmp 9))⟩, [4, 5, 6], false, 0, 0⟩,
 ⟨⟨some 11, none, .prim (.slcv 1 (.tmp 6) (some (.tmp 10)) none)⟩, (List.range 8), false, 0, 0⟩,
 ⟨⟨some 2, none, .prim (.mov (.tmp 11))⟩, (List.range 9), false, 0, 0⟩])
 (.ghost (.shut 2) .ret)))
def o112 : List Tmp := []
def r112 : List RV := [.tmp 2]
theorem t112 : Text Tryz.prog 112 o112 c112 r112 12 := ⟨⟨Tryz.f112, _, by kernel_rfl, by kernel_rfl, rfl, by kernel_rfl, by kernel_rfl, rfl⟩, by kernel_rfl⟩
def c113 : ACode :=
 (.seq (.ops [⟨some 6, none, .prim (.mov (.const (.bool false)))⟩])
 (.seq (.ops [⟨some 7, none, .prim (.mov (.tmp 0))⟩,
 ⟨some 8, none, .prim (.mov (.tmp 0))⟩,
 ⟨some 9, none, .prim (.nilc (.tmp 8))⟩,
 ⟨some 10, none, .prim (.fadr 2 (.tmp 9))⟩,
 ⟨some 11, none, .prim (.load 1 false (.tmp 10))⟩,
 ⟨some 12, none, .prim (.mov (.tmp 11))⟩,
 ⟨some 13, (some (12, false)), .prim (.mov (.tmp 2))⟩,
 ⟨some 14, (some (12, false)), .prim (.un .not (.tmp 13))⟩,
 ⟨some 15, none, .prim (.pick (.tmp 12) (.const (.bool true)) (.tmp 14))⟩,
 ⟨some 16, none, .prim (.nilc (.tmp 7))⟩,
 ⟨some 17, none, .prim (.fadr 2 (.tmp 16))⟩,
 ⟨none, none, .prim (.store 1 (.tmp 17) (.tmp 15))⟩])
 (.seq (.seq (.ops [⟨some 18, none, .prim (.mov (.tmp 0))⟩,
 ⟨some 19, none, .prim (.nilc (.tmp 18))⟩,
 ⟨some 20, none, .prim (.fadr 2 (.tmp 19))⟩,
 ⟨some 21, none, .prim (.load 1 false (.tmp 20))⟩,
 ⟨some 22, none, .prim (.un .not (.tmp 21))⟩])
 (.cond (.tmp 22)
 (.ops [⟨some 23, none, .prim (.mov (.tmp 0))⟩,
 ⟨some 24, none, .prim (.nilc (.tmp 23))⟩,
 ⟨some 25, none, .prim (.fadr 1 (.tmp 24))⟩,
 ⟨some 26, none, .prim (.load 1 false (.tmp 25))⟩,
 ⟨some 27, none, .prim (.mov (.tmp 1))⟩,
 ⟨some 28, none, .prim (.bin false .add (.tmp 26) (.tmp 27))⟩,
 ⟨some 29, none, .prim (.nilc (.tmp 23))⟩,
 ⟨some 30, none, .prim (.fadr 1 (.tmp 29))⟩,
 ⟨none, none, .prim (.store 1 (.tmp 30) (.tmp 28))⟩])
 .skip))
 (.seq (.ops [⟨some 31, none, .prim (.mov (.tmp 0))⟩,
 ⟨some 32, none, .prim (.nilc (.tmp 31))⟩,
 ⟨some 33, none, .prim (.fadr 2 (.tmp 32))⟩,
 ⟨some 34, none, .prim (.load 1 false (.tmp 33))⟩,
 ⟨some 35, none, .prim (.un .not (.tmp 34))⟩,
 ⟨some 6, none, .prim (.mov (.tmp 35))⟩])
 .ret))))
def o113 : List Tmp := []
def r113 : List RV := [.tmp 6]
theorem t113 : Text Tryz.prog 113 o113 c113 r113 36 := ⟨⟨Tryz.f113, _, by kernel_rfl, by kernel_rfl, rfl, by kernel_rfl, by kernel_rfl, rfl⟩, by kernel_rfl⟩
def c115 : ACode :=
 (.seq (.ops [⟨some 2, none, .prim (.mov (.const (.int .u64 0)))⟩,
 ⟨some 3, none, .prim (.mov (.const (.int .i64 0)))⟩,
 ⟨some 4, none, .prim (.mov (.const (.bool false)))⟩])
 (.seq (.ops [⟨some 5, none, .prim (.mov (.const (.int .u64 0)))⟩])
 (.seq (.seq (.ops [⟨some 8, none, .prim (.mov (.tmp 0))⟩,
 ⟨some 9, none, .prim (.lenv (.tmp 8))⟩,
 ⟨some 10, none, .prim (.mov (.const (.int .i64 0)))⟩])
 (.block 0 (.loop [0, 1, 2, 3, 4, 6, 7, 11, 12, 13, 14, 15, 16, 17, 18, 19, 20, 21, 22, 23, 24, 25, 26, 27, 28, 29, 30, 31, 32, 33, 34, 35, 36, 37, 38, 39, 40, 41, 42] (.seq (.ops [⟨some 11, none, .prim (.bin false .lss (.tmp 10) (.tmp 9))⟩])
 (.seq (.cond (.tmp 11)
 .skip
 (.exit 0))
 (.seq (.block 1 (.seq (.ops [⟨some 12, none, .prim (.mov (.tmp 10))⟩,
 ⟨some 13, none, .prim (.iadrs 1 (.tmp 8) (.tmp 10))⟩,
 ⟨some 14, none, .prim (.load 1 false (.tmp 13))⟩,
 ⟨some 6, none, .prim (.mov (.tmp 12))⟩,
 ⟨some 7, none, .prim (.mov (.tmp 14))⟩])
 (.seq (.seq (.ops [⟨some 15, none, .prim (.mov (.tmp 6))⟩,
 ⟨some 16, none, .prim (.bin false .eql (.tmp 15) (.const (.int .i64 9)))⟩,
 ⟨some 17, none, .prim (.mov (.tmp 16))⟩,
 ⟨some 18, (some (17, true)), .prim (.mov (.tmp 7))⟩,
 ⟨some 19, (some (17, true)), .prim (.bin false .gtr (.tmp 18) (.const (.int .u8 1)))⟩,
 ⟨some 20, none, .prim (.pick (.tmp 17) (.tmp 19) (.const (.bool false)))⟩,
 ⟨some 21, none, .prim (.mov (.tmp 20))⟩,
 ⟨some 22, (some (21, false)), .prim (.mov (.tmp 6))⟩,
 ⟨some 23, (some (21, false)), .prim (.bin false .gtr (.tmp 22) (.const (.int .i64 0)))⟩,
 ⟨some 24, (some (21, false)), .prim (.mov (.tmp 23))⟩,
 ⟨some 25, (some (24, true)), .prim (.mov (.tmp 7))⟩,
 ⟨some 26, (some (24, true)), .prim (.bin false .eql (.tmp 25) (.const (.int .u8 0)))⟩,
 ⟨some 27, (some (21, false)), .prim (.pick (.tmp 24) (.tmp 26) (.const (.bool false)))⟩,
 ⟨some 28, none, .prim (.pick (.tmp 21) (.const (.bool true)) (.tmp 27))⟩])
 (.cond (.tmp 28)
 (.exit 0)
 .skip))
 (.seq (.ops [⟨some 29, none, .prim (.mov (.tmp 5))⟩,
 ⟨some 30, none, .prim (.mov (.tmp 7))⟩,
 ⟨some 31, none, .prim (.bin false .and (.tmp 30) (.const (.int .u8 127)))⟩,
 ⟨some 32, none, .prim (.convi .u64 (.tmp 31))⟩,
 ⟨some 33, none, .prim (.mov (.tmp 6))⟩,
 ⟨some 34, none, .prim (.bin false .mul (.const (.int .i64 7)) (.tmp 33))⟩,
 ⟨some 35, none, .prim (.bin false .shl (.tmp 32) (.tmp 34))⟩,
 ⟨some 36, none, .prim (.bin false .or (.tmp 29) (.tmp 35))⟩,
 ⟨some 5, none, .prim (.mov (.tmp 36))⟩])
 (.seq (.ops [⟨some 37, none, .prim (.mov (.tmp 7))⟩,
 ⟨some 38, none, .prim (.bin false .lss (.tmp 37) (.const (.int .u8 128)))⟩])
 (.cond (.tmp 38)
 (.seq (.ops [⟨some 39, none, .prim (.mov (.tmp 5))⟩,
 ⟨some 40, none, .prim (.mov (.tmp 6))⟩,
 ⟨some 41, none, .prim (.bin false .add (.tmp 40) (.const (.int .i64 1)))⟩,
 ⟨some 2, none, .prim (.mov (.tmp 39))⟩,
 ⟨some 3, none, .prim (.mov (.tmp 41))⟩,
 ⟨some 4, none, .prim (.mov (.const (.bool true)))⟩])
 .ret)
 .skip))))))
 (.ops [⟨some 42, none, .prim (.bin false .add (.tmp 10) (.const (.int .i64 1)))⟩,
 ⟨some 10, none, .prim (.mov (.tmp 42))⟩])))))))
 (.seq (.ops [⟨some 2, none, .prim (.mov (.const (.int .u64 0)))⟩,
 ⟨some 3, none, .prim (.mov (.const (.int .i64 0)))⟩,
 ⟨some 4, none, .prim (.mov (.const (.bool false)))⟩])
 .ret))))
def o115 : List Tmp := []
def r115 : List RV := [.tmp 2, .tmp 3, .tmp 4]
theorem t115 : Text Tryz.prog 115 o115 c115 r115 43 := ⟨⟨Tryz.f115, _, by kernel_rfl, by kernel_rfl, rfl, by kernel_rfl, by kernel_rfl, rfl⟩, by kernel_rfl⟩
def c116 : ACode :=
 (.seq (.ops [⟨some 4, none, .prim (.mov (.const (.string (ByteArray.mk #[]))))⟩,
 ⟨some 5, none, .prim (.mov (.const (.int .i64 0)))⟩,
 ⟨some 6, none, .prim (.mov (.const (.bool false)))⟩])
 (.seq (.ops [⟨some 12, none, .prim (.mov (.tmp 0))⟩,
 ⟨some 13, none, .call (.func 115) [(.tmp 12)]⟩,
 ⟨some 11, none, .prim (.mov (.tmp 13))⟩,
 ⟨some 14, none, .prim (.extr 0 (.tmp 11))⟩,
 ⟨some 15, none, .prim (.extr 1 (.tmp 11))⟩,
 ⟨some 16, none, .prim (.extr 2 (.tmp 11))⟩,
 ⟨some 7, none, .prim (.mov (.tmp 14))⟩,
 ⟨some 8, none, .prim (.mov (.tmp 15))⟩,
 ⟨some 9, none, .prim (.mov (.tmp 16))⟩])
 (.seq (.seq (.ops [⟨some 17, none, .prim (.mov (.tmp 9))⟩,
 ⟨some 18, none, .prim (.un .not (.tmp 17))⟩,
 ⟨some 19, none, .prim (.mov (.tmp 18))⟩,
 ⟨some 20, (some (19, false)), .prim (.mov (.tmp 1))⟩,
 ⟨some 21, (some (19, false)), .prim (.bin false .lss (.tmp 20) (.const (.int .i64 0)))⟩,
 ⟨some 22, none, .prim (.pick (.tmp 19) (.const (.bool true)) (.tmp 21))⟩,
 ⟨some 23, none, .prim (.mov (.tmp 22))⟩,
 ⟨some 24, (some (23, false)), .prim (.mov (.tmp 7))⟩,
 ⟨some 25, (some (23, false)), .prim (.mov (.tmp 1))⟩,
 ⟨some 26, (some (23, false)), .prim (.convi .u64 (.tmp 25))⟩,
 ⟨some 27, (some (23, false)), .prim (.bin false .gtr (.tmp 24) (.tmp 26))⟩,
 ⟨some 28, none, .prim (.pick (.tmp 23) (.const (.bool true)) (.tmp 27))⟩,
 ⟨some 29, none, .prim (.mov (.tmp 28))⟩,
 ⟨some 30, (some (29, false)), .prim (.mov (.tmp 7))⟩,
 ⟨some 31, (some (29, false)), .prim (.mov (.tmp 0))⟩,
 ⟨some 32, (some (29, false)), .prim (.lenv (.tmp 31))⟩,
 ⟨some 33, (some (29, false)), .prim (.mov (.tmp 8))⟩,
 ⟨some 34, (some (29, false)), .prim (.bin false .sub (.tmp 32) (.tmp 33))⟩,
 ⟨some 35, (some (29, false)), .prim (.convi .u64 (.tmp 34))⟩,
 ⟨some 36, (some (29, false)), .prim (.bin false .gtr (.tmp 30) (.tmp 35))⟩,
 ⟨some 37, none, .prim (.pick (.tmp 29) (.const (.bool true)) (.tmp 36))⟩])
 (.cond (.tmp 37)
 (.seq (.ops [⟨some 4, none, .prim (.mov (.const (.string (ByteArray.mk #[]))))⟩,
 ⟨some 5, none, .prim (.mov (.const (.int .i64 0)))⟩,
 ⟨some 6, none, .prim (.mov (.const (.bool false)))⟩])
 .ret)
 .skip))
 (.seq (.ops [⟨some 38, none, .prim (.mov (.tmp 8))⟩,
 ⟨some 39, none, .prim (.mov (.tmp 7))⟩,
 ⟨some 40, none, .prim (.convi .i64 (.tmp 39))⟩,
 ⟨some 41, none, .prim (.bin false .add (.tmp 38) (.tmp 40))⟩,
 ⟨some 10, none, .prim (.mov (.tmp 41))⟩])
 (.seq (.ops [⟨some 42, none, .prim (.mov (.tmp 0))⟩,
 ⟨some 43, none, .prim (.mov (.tmp 8))⟩,
 ⟨some 44, none, .prim (.mov (.tmp 10))⟩,
 ⟨some 45, none, .prim (.slcv 1 (.tmp 42) (some (.tmp 43)) (some (.tmp 44)))⟩,
 ⟨some 46, none, .prim (.b2s (.tmp 45))⟩,
 ⟨some 47, none, .prim (.mov (.tmp 10))⟩,
 ⟨some 4, none, .prim (.mov (.tmp 46))⟩,
 ⟨some 5, none, .prim (.mov (.tmp 47))⟩,
 ⟨some 6, none, .prim (.mov (.const (.bool true)))⟩])
 .ret)))))
def o116 : List Tmp := []
def r116 : List RV := [.tmp 4, .tmp 5, .tmp 6]
theorem t116 : Text Tryz.prog 116 o116 c116 r116 48 := ⟨⟨Tryz.f116, _, by kernel_rfl, by kernel_rfl, rfl, by kernel_rfl, by kernel_rfl, rfl⟩, by kernel_rfl⟩
end Go.Proofs.YtmkmhhjkdaklbaaGreat
