/- What the functions do, over abstract values: printed by a program, checked by the kernel. No condition. -/
import Derived.Test.YtoadgajhkhejiaaProg
import Derived.Test.YtoadgajhkhejiaaAbSpec
namespace Go.Proofs.Ytoadgajhkhejiaa
open Go Go.Ab
set_option maxRecDepth 100000

/-- sordine/prog.Check$1 -/
def c114 : ACode :=
 (.seq (.ops [⟨some 2, none, .prim (.boxr (.tmp 0))⟩,
 ⟨some 3, none, .prim (.mov (.const (Value.bool false)))⟩])
 (.seq (.ops [⟨some 4, none, .prim (.load 7 true (.tmp 2))⟩,
 ⟨some 5, none, .prim (.load 1 false (.tmp 1))⟩,
 ⟨some 6, none, .prim (.lenv (.tmp 5))⟩,
 ⟨some 7, none, .call (.func 115) [(.tmp 4), (.tmp 6), (.const (Value.bool false))]⟩,
 ⟨some 8, none, .prim (.un .not (.tmp 7))⟩,
 ⟨some 3, none, .prim (.mov (.tmp 8))⟩])
 .ret))
def o114 : List Tmp := []
def r114 : List RV := [.tmp 3]
theorem t114 : Text Try.prog 114 o114 c114 r114 9 := ⟨⟨Try.f114, _, by kernel_rfl, by kernel_rfl, rfl, by kernel_rfl, by kernel_rfl, rfl⟩, by kernel_rfl⟩

/-- sordine/prog.right -/
def c115 : ACode :=
 (.seq (.ops [⟨some 3, none, .prim (.boxr (.tmp 0))⟩,
 ⟨some 4, none, .prim (.boxr (.tmp 1))⟩,
 ⟨some 6, none, .prim (.mov (.const (Value.bool false)))⟩])
 (.seq (.ops [⟨some 8, none, .prim (.mkfn 131 [] [(.tmp 4)])⟩,
 ⟨some 7, none, .prim (.mov (.tmp 8))⟩])
 (.seq (.seq (.ops [⟨some 9, none, .prim (.fadr 0 (.tmp 3))⟩,
 ⟨some 10, none, .prim (.load 1 false (.tmp 9))⟩,
 ⟨some 11, none, .prim (.bin false .neq (.tmp 10) (.const (Value.int IntKind.i64 1)))⟩,
 ⟨some 12, none, .prim (.mov (.tmp 11))⟩,
 ⟨some 13, (some (12, true)), .prim (.fadr 1 (.tmp 3))⟩,
 ⟨some 14, (some (12, true)), .prim (.load 4 true (.tmp 13))⟩,
 ⟨some 15, (some (12, true)), .prim (.build [.pl (.int .u64 0), .pl (.int .u64 0), .pl (.int .u64 0), .pl (.int .u64 0)] [])⟩,
 ⟨some 16, (some (12, true)), .prim (.eqa true [.int, .int, .int, .int] (.tmp 14) (.tmp 15))⟩,
 ⟨some 17, none, .prim (.pick (.tmp 12) (.tmp 16) (.const (Value.bool false)))⟩])
 (.cond (.tmp 17)
 (.seq (.ops [⟨some 6, none, .prim (.mov (.const (Value.bool false)))⟩])
 .ret)
 .skip))
 (.seq (.seq (.ops [⟨some 18, none, .prim (.fadr 0 (.tmp 3))⟩,
 ⟨some 19, none, .prim (.load 1 false (.tmp 18))⟩])
 (.block 0 (.seq (.ops [⟨some 21, none, .prim (.bin false .eql (.tmp 19) (.const (Value.int IntKind.i64 1)))⟩,
 ⟨some 20, none, .prim (.mov (.tmp 21))⟩])
 (.cond (.tmp 20)
 (.seq (.ops [⟨some 22, none, .prim (.fadr 5 (.tmp 3))⟩,
 ⟨some 23, none, .prim (.load 1 false (.tmp 22))⟩,
 ⟨some 24, none, .prim (.bin false .eql (.tmp 23) (.const (Value.int IntKind.i64 0)))⟩,
 ⟨some 25, none, .prim (.mov (.tmp 24))⟩,
 ⟨some 26, (some (25, true)), .prim (.fadr 6 (.tmp 3))⟩,
 ⟨some 27, (some (25, true)), .prim (.load 1 false (.tmp 26))⟩,
 ⟨some 28, (some (25, true)), .prim (.bin false .eql (.tmp 27) (.const (Value.int IntKind.i64 0)))⟩,
 ⟨some 29, none, .prim (.pick (.tmp 25) (.tmp 28) (.const (Value.bool false)))⟩,
 ⟨some 30, none, .prim (.mov (.tmp 29))⟩,
 ⟨some 31, (some (30, true)), .prim (.mov (.tmp 2))⟩,
 ⟨some 32, (some (30, true)), .prim (.un .not (.tmp 31))⟩,
 ⟨some 33, none, .prim (.pick (.tmp 30) (.tmp 32) (.const (Value.bool false)))⟩,
 ⟨some 6, none, .prim (.mov (.tmp 33))⟩])
 .ret)
 (.seq (.ops [⟨some 35, none, .prim (.bin false .eql (.tmp 19) (.const (Value.int IntKind.i64 2)))⟩,
 ⟨some 34, none, .prim (.mov (.tmp 35))⟩])
 (.cond (.tmp 34)
 (.seq (.ops [⟨some 36, none, .prim (.mov (.tmp 7))⟩,
 ⟨some 37, none, .prim (.fadr 5 (.tmp 3))⟩,
 ⟨some 38, none, .prim (.load 1 false (.tmp 37))⟩,
 ⟨some 39, none, .call (.tmp 36) [(.tmp 38)]⟩,
 ⟨some 40, none, .prim (.mov (.tmp 39))⟩,
 ⟨some 41, (some (40, true)), .prim (.mov (.tmp 7))⟩,
 ⟨some 42, (some (40, true)), .prim (.fadr 6 (.tmp 3))⟩,
 ⟨some 43, (some (40, true)), .prim (.load 1 false (.tmp 42))⟩,
 ⟨some 44, (some (40, true)), .call (.tmp 41) [(.tmp 43)]⟩,
 ⟨some 45, none, .prim (.pick (.tmp 40) (.tmp 44) (.const (Value.bool false)))⟩,
 ⟨some 6, none, .prim (.mov (.tmp 45))⟩])
 .ret)
 (.seq (.ops [⟨some 47, none, .prim (.bin false .eql (.tmp 19) (.const (Value.int IntKind.i64 3)))⟩,
 ⟨some 46, none, .prim (.mov (.tmp 47))⟩])
 (.cond (.tmp 46)
 (.seq (.ops [⟨some 48, none, .prim (.mov (.tmp 7))⟩,
 ⟨some 49, none, .prim (.fadr 5 (.tmp 3))⟩,
 ⟨some 50, none, .prim (.load 1 false (.tmp 49))⟩,
 ⟨some 51, none, .call (.tmp 48) [(.tmp 50)]⟩,
 ⟨some 52, none, .prim (.mov (.tmp 51))⟩,
 ⟨some 53, (some (52, true)), .prim (.fadr 6 (.tmp 3))⟩,
 ⟨some 54, (some (52, true)), .prim (.load 1 false (.tmp 53))⟩,
 ⟨some 55, (some (52, true)), .prim (.bin false .eql (.tmp 54) (.const (Value.int IntKind.i64 0)))⟩,
 ⟨some 56, none, .prim (.pick (.tmp 52) (.tmp 55) (.const (Value.bool false)))⟩,
 ⟨some 6, none, .prim (.mov (.tmp 56))⟩])
 .ret)
 .skip))))))))
 (.seq (.ops [⟨some 57, none, .prim (.fadr 0 (.tmp 3))⟩,
 ⟨some 58, none, .prim (.load 1 false (.tmp 57))⟩,
 ⟨some 59, none, .prim (.bin false .eql (.tmp 58) (.const (Value.int IntKind.i64 4)))⟩,
 ⟨some 60, none, .prim (.mov (.tmp 59))⟩,
 ⟨some 61, (some (60, true)), .prim (.fadr 5 (.tmp 3))⟩,
 ⟨some 62, (some (60, true)), .prim (.load 1 false (.tmp 61))⟩,
 ⟨some 63, (some (60, true)), .prim (.bin false .eql (.tmp 62) (.const (Value.int IntKind.i64 0)))⟩,
 ⟨some 64, none, .prim (.pick (.tmp 60) (.tmp 63) (.const (Value.bool false)))⟩,
 ⟨some 65, none, .prim (.mov (.tmp 64))⟩,
 ⟨some 66, (some (65, true)), .prim (.fadr 6 (.tmp 3))⟩,
 ⟨some 67, (some (65, true)), .prim (.load 1 false (.tmp 66))⟩,
 ⟨some 68, (some (65, true)), .prim (.bin false .eql (.tmp 67) (.const (Value.int IntKind.i64 0)))⟩,
 ⟨some 69, none, .prim (.pick (.tmp 65) (.tmp 68) (.const (Value.bool false)))⟩,
 ⟨some 6, none, .prim (.mov (.tmp 69))⟩])
 .ret)))))
def o115 : List Tmp := []
def r115 : List RV := [.tmp 6]
theorem t115 : Text Try.prog 115 o115 c115 r115 70 := ⟨⟨Try.f115, _, by kernel_rfl, by kernel_rfl, rfl, by kernel_rfl, by kernel_rfl, rfl⟩, by kernel_rfl⟩

/-- sordine/scan.come -/
def c116 : ACode :=
 (.seq (.ops [⟨some 6, none, .prim (.mov (.const (Value.int IntKind.u64 0)))⟩])
 (.seq (.seq (.ops [⟨some 8, none, .prim (.mov (.tmp 2))⟩,
 ⟨some 9, none, .prim (.nilc (.tmp 8))⟩,
 ⟨some 10, none, .prim (.load 1 false (.tmp 9))⟩,
 ⟨some 11, none, .prim (.mov (.tmp 1))⟩,
 ⟨some 12, none, .prim (.bin false .shr (.tmp 10) (.tmp 11))⟩,
 ⟨some 13, none, .prim (.bin false .and (.tmp 12) (.const (Value.int IntKind.u64 1)))⟩,
 ⟨some 14, none, .prim (.bin false .eql (.tmp 13) (.const (Value.int IntKind.u64 1)))⟩])
 (.cond (.tmp 14)
 (.seq (.ops [⟨some 6, none, .prim (.mov (.const (Value.int IntKind.u64 0)))⟩])
 .ret)
 .skip))
 (.seq (.draw [⟨⟨some 15, none, .prim (.mov (.tmp 2))⟩, [], false, 0, 0⟩,
 ⟨⟨some 16, none, .prim (.nilc (.tmp 15))⟩, [0], false, 0, 0⟩,
 ⟨⟨some 17, none, .prim (.load 1 false (.tmp 16))⟩, [0, 1], false, 0, 0⟩,
 ⟨⟨some 18, none, .prim (.mov (.tmp 1))⟩, [], false, 0, 0⟩,
 ⟨⟨some 19, none, .prim (.bin false .shl (.const (Value.int IntKind.u64 1)) (.tmp 18))⟩, [3], false, 0, 0⟩,
 ⟨⟨some 20, none, .prim (.bin false .or (.tmp 17) (.tmp 19))⟩, [0, 1, 2, 3, 4], false, 0, 0⟩,
 ⟨⟨some 21, none, .prim (.nilc (.tmp 15))⟩, [0, 1, 2, 3, 4, 5], false, 0, 0⟩,
 ⟨⟨none, none, .prim (.store 1 (.tmp 21) (.tmp 20))⟩, [0, 1, 2, 3, 4, 5, 6], true, 0, 0⟩])
 (.seq (.seq (.ops [⟨some 22, none, .prim (.mov (.tmp 0))⟩,
 ⟨some 23, none, .prim (.mov (.tmp 1))⟩,
 ⟨some 24, none, .prim (.iadrs 7 (.tmp 22) (.tmp 23))⟩,
 ⟨some 25, none, .prim (.load 7 true (.tmp 24))⟩,
 ⟨some 7, none, .prim (.allocm [.pl (.int .i64 0), .pl (.int .u64 0), .pl (.int .u64 0), .pl (.int .u64 0), .pl (.int .u64 0), .pl (.int .i64 0), .pl (.int .i64 0)])⟩,
 ⟨none, none, .prim (.store 7 (.tmp 7) (.tmp 25))⟩])
 (.seq (.ops [⟨some 26, none, .prim (.fadr 0 (.tmp 7))⟩,
 ⟨some 27, none, .prim (.load 1 false (.tmp 26))⟩])
 (.block 0 (.seq (.ops [⟨some 29, none, .prim (.bin false .eql (.tmp 27) (.const (Value.int IntKind.i64 2)))⟩,
 ⟨some 28, none, .prim (.mov (.tmp 29))⟩])
 (.cond (.tmp 28)
 (.seq (.draw [⟨⟨some 30, none, .prim (.mov (.tmp 0))⟩, [], false, 0, 0⟩,
 ⟨⟨some 31, none, .prim (.fadr 5 (.tmp 7))⟩, [], false, 0, 0⟩,
 ⟨⟨some 32, none, .prim (.load 1 false (.tmp 31))⟩, [1], false, 0, 0⟩,
 ⟨⟨some 33, none, .prim (.mov (.tmp 2))⟩, [], false, 0, 0⟩,
 ⟨⟨some 34, none, .call (.func 116) [(.tmp 30), (.tmp 32), (.tmp 33)]⟩, [0, 1, 2, 3], true, 0, 0⟩,
 ⟨⟨some 35, none, .prim (.mov (.tmp 0))⟩, [], false, 0, 1⟩,
 ⟨⟨some 36, none, .prim (.fadr 6 (.tmp 7))⟩, [], false, 0, 1⟩,
 ⟨⟨some 37, none, .prim (.load 1 false (.tmp 36))⟩, [6], false, 0, 1⟩,
 ⟨⟨some 38, none, .prim (.mov (.tmp 2))⟩, [], false, 0, 1⟩,
 ⟨⟨some 39, none, .call (.func 116) [(.tmp 35), (.tmp 37), (.tmp 38)]⟩, [0, 1, 2, 3, 4, 5, 6, 7, 8], true, 0, 0⟩,
 ⟨⟨some 40, none, .prim (.bin false .or (.tmp 34) (.tmp 39))⟩, [0, 1, 2, 3, 4, 5, 6, 7, 8, 9], false, 2, 2⟩,
 ⟨⟨some 6, none, .prim (.mov (.tmp 40))⟩, [0, 1, 2, 3, 4, 5, 6, 7, 8, 9, 10], false, 2, 2⟩])
 .ret)
 (.seq (.ops [⟨some 42, none, .prim (.bin false .eql (.tmp 27) (.const (Value.int IntKind.i64 3)))⟩,
 ⟨some 41, none, .prim (.mov (.tmp 42))⟩])
 (.cond (.tmp 41)
 (.seq (.ops [⟨some 43, none, .prim (.mov (.tmp 0))⟩,
 ⟨some 44, none, .prim (.fadr 5 (.tmp 7))⟩,
 ⟨some 45, none, .prim (.load 1 false (.tmp 44))⟩,
 ⟨some 46, none, .prim (.mov (.tmp 2))⟩,
 ⟨some 47, none, .call (.func 116) [(.tmp 43), (.tmp 45), (.tmp 46)]⟩,
 ⟨some 6, none, .prim (.mov (.tmp 47))⟩])
 .ret)
 .skip)))))))
 (.seq (.ops [⟨some 48, none, .prim (.mov (.tmp 1))⟩,
 ⟨some 49, none, .prim (.bin false .shl (.const (Value.int IntKind.u64 1)) (.tmp 48))⟩,
 ⟨some 6, none, .prim (.mov (.tmp 49))⟩])
 .ret)))))
def o116 : List Tmp := [7]
def r116 : List RV := [.tmp 6]
theorem t116 : Text Try.prog 116 o116 c116 r116 50 := ⟨⟨Try.f116, _, by kernel_rfl, by kernel_rfl, rfl, by kernel_rfl, by kernel_rfl, rfl⟩, by kernel_rfl⟩

/-- (*sordine/rex.parser).way -/
def c117 : ACode :=
 (.seq (.ops [⟨some 4, none, .prim (.allocm [.pl (.int .i64 0), .pl (.int .u64 0), .pl (.int .u64 0), .pl (.int .u64 0), .pl (.int .u64 0), .nils])⟩])
 (.seq (.ops [⟨some 5, none, .prim (.mov (.const (Value.slice none 0 0)))⟩])
 (.seq (.block 0 (.loop [2, 3, 6, 7, 8, 9, 10, 11, 12, 13, 14, 15, 16, 17, 18, 19, 20, 21, 22, 23, 24, 25, 26, 27, 28, 29, 30, 31, 32] (.seq (.seq (.ops [⟨some 6, none, .prim (.mov (.tmp 0))⟩,
 ⟨some 7, none, .call (.func 132) [(.tmp 6)]⟩,
 ⟨some 8, none, .prim (.un .not (.tmp 7))⟩,
 ⟨some 9, none, .prim (.mov (.tmp 8))⟩,
 ⟨some 10, (some (9, true)), .prim (.mov (.tmp 0))⟩,
 ⟨some 11, (some (9, true)), .call (.func 133) [(.tmp 10), (.const (Value.int IntKind.u8 124))]⟩,
 ⟨some 12, (some (9, true)), .prim (.un .not (.tmp 11))⟩,
 ⟨some 13, none, .prim (.pick (.tmp 9) (.tmp 12) (.const (Value.bool false)))⟩,
 ⟨some 14, none, .prim (.mov (.tmp 13))⟩,
 ⟨some 15, (some (14, true)), .prim (.mov (.tmp 0))⟩,
 ⟨some 16, (some (14, true)), .call (.func 133) [(.tmp 15), (.const (Value.int IntKind.u8 41))]⟩,
 ⟨some 17, (some (14, true)), .prim (.un .not (.tmp 16))⟩,
 ⟨some 18, none, .prim (.pick (.tmp 14) (.tmp 17) (.const (Value.bool false)))⟩])
 (.cond (.tmp 18)
 .skip
 (.exit 0)))
 (.block 1 (.ops [⟨some 19, none, .prim (.mov (.tmp 5))⟩,
 ⟨some 20, none, .prim (.mov (.tmp 0))⟩,
 ⟨some 21, none, .prim (.mov (.tmp 1))⟩,
 ⟨some 22, none, .call (.func 134) [(.tmp 20), (.tmp 21)]⟩,
 ⟨some 23, none, .prim (.bsl false 6 true 1 [.pl (.int .i64 0), .pl (.int .u64 0), .pl (.int .u64 0), .pl (.int .u64 0), .pl (.int .u64 0), .nils] [(0, 6, (.tmp 22))])⟩,
 ⟨some 24, none, .prim (.app 6 (.tmp 19) (.tmp 23))⟩,
 ⟨some 5, none, .prim (.mov (.tmp 24))⟩])))))
 (.seq (.seq (.ops [⟨some 25, none, .prim (.mov (.tmp 5))⟩,
 ⟨some 26, none, .prim (.lenv (.tmp 25))⟩,
 ⟨some 27, none, .prim (.bin false .eql (.tmp 26) (.const (Value.int IntKind.i64 1)))⟩])
 (.cond (.tmp 27)
 (.seq (.ops [⟨some 28, none, .prim (.mov (.tmp 5))⟩,
 ⟨some 29, none, .prim (.iadrs 6 (.tmp 28) (.const (Value.int IntKind.i64 0)))⟩,
 ⟨some 30, none, .prim (.load 6 true (.tmp 29))⟩,
 ⟨none, none, .prim (.store 6 (.tmp 4) (.tmp 30))⟩])
 .ret)
 .skip))
 (.seq (.ghost (.shut 5) (.ops [⟨some 31, none, .prim (.mov (.tmp 5))⟩,
 ⟨some 32, none, .prim (.build [.pl (.int .i64 0), .pl (.int .u64 0), .pl (.int .u64 0), .pl (.int .u64 0), .pl (.int .u64 0), .nils] [(0, 1, (.const (Value.int IntKind.i64 2))), (5, 1, (.tmp 31))])⟩,
 ⟨none, none, .prim (.store 6 (.tmp 4) (.tmp 32))⟩]))
 .ret)))))
def o117 : List Tmp := [4]
def r117 : List RV := [.cell 4 6 true]
theorem t117 : Text Try.prog 117 o117 c117 r117 33 := ⟨⟨Try.f117, _, by kernel_rfl, by kernel_rfl, rfl, by kernel_rfl, by kernel_rfl, rfl⟩, by kernel_rfl⟩

/-- (*sordine/rex.parser).next -/
def c118 : ACode :=
 (.seq (.ops [⟨some 4, none, .prim (.mov (.const (Value.bool false)))⟩])
 (.seq (.seq (.ops [⟨some 5, none, .prim (.mov (.tmp 0))⟩,
 ⟨some 6, none, .prim (.mov (.tmp 1))⟩,
 ⟨some 7, none, .call (.func 133) [(.tmp 5), (.tmp 6)]⟩,
 ⟨some 8, none, .prim (.un .not (.tmp 7))⟩])
 (.cond (.tmp 8)
 (.seq (.ops [⟨some 4, none, .prim (.mov (.const (Value.bool false)))⟩])
 .ret)
 .skip))
 (.seq (.ops [⟨some 9, none, .prim (.mov (.tmp 0))⟩,
 ⟨some 10, none, .prim (.nilc (.tmp 9))⟩,
 ⟨some 11, none, .prim (.fadr 1 (.tmp 10))⟩,
 ⟨some 12, none, .prim (.load 1 false (.tmp 11))⟩,
 ⟨some 13, none, .prim (.bin false .add (.tmp 12) (.const (Value.int IntKind.i64 1)))⟩,
 ⟨some 14, none, .prim (.nilc (.tmp 9))⟩,
 ⟨some 15, none, .prim (.fadr 1 (.tmp 14))⟩,
 ⟨none, none, .prim (.store 1 (.tmp 15) (.tmp 13))⟩])
 (.seq (.ops [⟨some 4, none, .prim (.mov (.const (Value.bool true)))⟩])
 .ret))))
def o118 : List Tmp := []
def r118 : List RV := [.tmp 4]
theorem t118 : Text Try.prog 118 o118 c118 r118 16 := ⟨⟨Try.f118, _, by kernel_rfl, by kernel_rfl, rfl, by kernel_rfl, by kernel_rfl, rfl⟩, by kernel_rfl⟩

/-- (*sordine/sordineref5.parser).way -/
def c119 : ACode :=
 (.seq (.ops [⟨some 2, none, .prim (.allocm [.pl (.int .i64 0), .pl (.int .u64 0), .pl (.int .u64 0), .pl (.int .u64 0), .pl (.int .u64 0), .nils])⟩])
 (.seq (.ops [⟨some 3, none, .prim (.mov (.const (Value.slice none 0 0)))⟩])
 (.seq (.block 0 (.loop [1, 4, 5, 6, 7, 8, 9, 10, 11, 12, 13, 14, 15, 16, 17, 18, 19, 20, 21, 22, 23, 24, 25, 26, 27, 28, 29, 30, 31, 32, 33, 34, 35, 36, 37, 38, 39, 40, 41, 42] (.seq (.seq (.draw [⟨⟨some 4, none, .prim (.mov (.tmp 0))⟩, [], false, 0, 0⟩,
 ⟨⟨some 5, none, .call (.func 120) [(.tmp 4)]⟩, [0], true, 0, 0⟩,
 ⟨⟨some 6, none, .prim (.mov (.tmp 5))⟩, [0, 1], false, 1, 1⟩,
 ⟨⟨some 7, (some (6, true)), .prim (.mov (.tmp 0))⟩, [0, 1, 2], false, 1, 1⟩,
 ⟨⟨some 8, (some (6, true)), .prim (.nilc (.tmp 7))⟩, [0, 1, 2, 3], false, 1, 1⟩,
 ⟨⟨some 9, (some (6, true)), .prim (.fadr 0 (.tmp 8))⟩, [0, 1, 2, 3, 4], false, 1, 1⟩,
 ⟨⟨some 10, (some (6, true)), .prim (.load 1 false (.tmp 9))⟩, [0, 1, 2, 3, 4, 5], false, 1, 1⟩,
 ⟨⟨some 11, (some (6, true)), .prim (.mov (.tmp 0))⟩, [0, 1, 2], false, 1, 1⟩,
 ⟨⟨some 12, (some (6, true)), .prim (.nilc (.tmp 11))⟩, [0, 1, 2, 7], false, 1, 1⟩,
 ⟨⟨some 13, (some (6, true)), .prim (.fadr 1 (.tmp 12))⟩, [0, 1, 2, 7, 8], false, 1, 1⟩,
 ⟨⟨some 14, (some (6, true)), .prim (.load 1 false (.tmp 13))⟩, [0, 1, 2, 7, 8, 9], false, 1, 1⟩,
 ⟨⟨some 15, (some (6, true)), .prim (.idxs (.tmp 10) (.tmp 14))⟩, [0, 1, 2, 3, 4, 5, 6, 7, 8, 9, 10], false, 1, 1⟩,
 ⟨⟨some 16, (some (6, true)), .prim (.bin false .neq (.tmp 15) (.const (Value.int IntKind.u8 124)))⟩, [0, 1, 2, 3, 4, 5, 6, 7, 8, 9, 10, 11], false, 1, 1⟩,
 ⟨⟨some 17, none, .prim (.pick (.tmp 6) (.tmp 16) (.const (Value.bool false)))⟩, [0, 1, 2, 3, 4, 5, 6, 7, 8, 9, 10, 11, 12], false, 1, 1⟩,
 ⟨⟨some 18, none, .prim (.mov (.tmp 17))⟩, [0, 1, 2, 3, 4, 5, 6, 7, 8, 9, 10, 11, 12, 13], false, 1, 1⟩,
 ⟨⟨some 19, (some (18, true)), .prim (.mov (.tmp 0))⟩, [0, 1, 2, 3, 4, 5, 6, 7, 8, 9, 10, 11, 12, 13, 14], false, 1, 1⟩,
 ⟨⟨some 20, (some (18, true)), .prim (.nilc (.tmp 19))⟩, [0, 1, 2, 3, 4, 5, 6, 7, 8, 9, 10, 11, 12, 13, 14, 15], false, 1, 1⟩,
 ⟨⟨some 21, (some (18, true)), .prim (.fadr 0 (.tmp 20))⟩, [0, 1, 2, 3, 4, 5, 6, 7, 8, 9, 10, 11, 12, 13, 14, 15, 16], false, 1, 1⟩,
 ⟨⟨some 22, (some (18, true)), .prim (.load 1 false (.tmp 21))⟩, [0, 1, 2, 3, 4, 5, 6, 7, 8, 9, 10, 11, 12, 13, 14, 15, 16, 17], false, 1, 1⟩,
 ⟨⟨some 23, (some (18, true)), .prim (.mov (.tmp 0))⟩, [0, 1, 2, 3, 4, 5, 6, 7, 8, 9, 10, 11, 12, 13, 14], false, 1, 1⟩,
 ⟨⟨some 24, (some (18, true)), .prim (.nilc (.tmp 23))⟩, [0, 1, 2, 3, 4, 5, 6, 7, 8, 9, 10, 11, 12, 13, 14, 19], false, 1, 1⟩,
 ⟨⟨some 25, (some (18, true)), .prim (.fadr 1 (.tmp 24))⟩, [0, 1, 2, 3, 4, 5, 6, 7, 8, 9, 10, 11, 12, 13, 14, 19, 20], false, 1, 1⟩,
 ⟨⟨some 26, (some (18, true)), .prim (.load 1 false (.tmp 25))⟩, [0, 1, 2, 3, 4, 5, 6, 7, 8, 9, 10, 11, 12, 13, 14, 19, 20, 21], false, 1, 1⟩,
 ⟨⟨some 27, (some (18, true)), .prim (.idxs (.tmp 22) (.tmp 26))⟩, [0, 1, 2, 3, 4, 5, 6, 7, 8, 9, 10, 11, 12, 13, 14, 15, 16, 17, 18, 19, 20, 21, 22], false, 1, 1⟩,
 ⟨⟨some 28, (some (18, true)), .prim (.bin false .neq (.tmp 27) (.const (Value.int IntKind.u8 41)))⟩, [0, 1, 2, 3, 4, 5, 6, 7, 8, 9, 10, 11, 12, 13, 14, 15, 16, 17, 18, 19, 20, 21, 22, 23], false, 1, 1⟩,
 ⟨⟨some 29, none, .prim (.pick (.tmp 18) (.tmp 28) (.const (Value.bool false)))⟩, [0, 1, 2, 3, 4, 5, 6, 7, 8, 9, 10, 11, 12, 13, 14, 15, 16, 17, 18, 19, 20, 21, 22, 23, 24], false, 1, 1⟩])
 (.cond (.tmp 29)
 .skip
 (.exit 0)))
 (.block 1 (.ops [⟨some 30, none, .prim (.mov (.tmp 3))⟩,
 ⟨some 31, none, .prim (.mov (.tmp 0))⟩,
 ⟨some 32, none, .call (.func 135) [(.tmp 31)]⟩,
 ⟨some 33, none, .prim (.bsl false 6 true 1 [.pl (.int .i64 0), .pl (.int .u64 0), .pl (.int .u64 0), .pl (.int .u64 0), .pl (.int .u64 0), .nils] [(0, 6, (.tmp 32))])⟩,
 ⟨some 34, none, .prim (.app 6 (.tmp 30) (.tmp 33))⟩,
 ⟨some 3, none, .prim (.mov (.tmp 34))⟩])))))
 (.seq (.seq (.ops [⟨some 35, none, .prim (.mov (.tmp 3))⟩,
 ⟨some 36, none, .prim (.lenv (.tmp 35))⟩,
 ⟨some 37, none, .prim (.bin false .eql (.tmp 36) (.const (Value.int IntKind.i64 1)))⟩])
 (.cond (.tmp 37)
 (.seq (.ops [⟨some 38, none, .prim (.mov (.tmp 3))⟩,
 ⟨some 39, none, .prim (.iadrs 6 (.tmp 38) (.const (Value.int IntKind.i64 0)))⟩,
 ⟨some 40, none, .prim (.load 6 true (.tmp 39))⟩,
 ⟨none, none, .prim (.store 6 (.tmp 2) (.tmp 40))⟩])
 .ret)
 .skip))
 (.seq (.ghost (.shut 3) (.ops [⟨some 41, none, .prim (.mov (.tmp 3))⟩,
 ⟨some 42, none, .prim (.build [.pl (.int .i64 0), .pl (.int .u64 0), .pl (.int .u64 0), .pl (.int .u64 0), .pl (.int .u64 0), .nils] [(0, 1, (.const (Value.int IntKind.i64 2))), (5, 1, (.tmp 41))])⟩,
 ⟨none, none, .prim (.store 6 (.tmp 2) (.tmp 42))⟩]))
 .ret)))))
def o119 : List Tmp := [2]
def r119 : List RV := [.cell 2 6 true]
theorem t119 : Text Try.prog 119 o119 c119 r119 43 := ⟨⟨Try.f119, _, by kernel_rfl, by kernel_rfl, rfl, by kernel_rfl, by kernel_rfl, rfl⟩, by kernel_rfl⟩

/-- (*sordine/sordineref5.parser).more -/
def c120 : ACode :=
 (.seq (.ops [⟨some 2, none, .prim (.mov (.const (Value.bool false)))⟩])
 (.seq (.draw [⟨⟨some 3, none, .prim (.mov (.tmp 0))⟩, [], false, 0, 0⟩,
 ⟨⟨some 4, none, .prim (.nilc (.tmp 3))⟩, [0], false, 0, 0⟩,
 ⟨⟨some 5, none, .prim (.fadr 3 (.tmp 4))⟩, [0, 1], false, 0, 0⟩,
 ⟨⟨some 6, none, .prim (.load 1 false (.tmp 5))⟩, [0, 1, 2], false, 0, 0⟩,
 ⟨⟨some 7, none, .prim (.un .not (.tmp 6))⟩, [0, 1, 2, 3], false, 0, 0⟩,
 ⟨⟨some 8, none, .prim (.mov (.tmp 7))⟩, [0, 1, 2, 3, 4], false, 0, 0⟩,
 ⟨⟨some 9, (some (8, true)), .prim (.mov (.tmp 0))⟩, [0, 1, 2, 3, 4, 5], false, 0, 0⟩,
 ⟨⟨some 10, (some (8, true)), .prim (.nilc (.tmp 9))⟩, [0, 1, 2, 3, 4, 5, 6], false, 0, 0⟩,
 ⟨⟨some 11, (some (8, true)), .prim (.fadr 1 (.tmp 10))⟩, [0, 1, 2, 3, 4, 5, 6, 7], false, 0, 0⟩,
 ⟨⟨some 12, (some (8, true)), .prim (.load 1 false (.tmp 11))⟩, [0, 1, 2, 3, 4, 5, 6, 7, 8], false, 0, 0⟩,
 ⟨⟨some 13, (some (8, true)), .prim (.mov (.tmp 0))⟩, [0, 1, 2, 3, 4, 5], false, 0, 0⟩,
 ⟨⟨some 14, (some (8, true)), .prim (.nilc (.tmp 13))⟩, [0, 1, 2, 3, 4, 5, 10], false, 0, 0⟩,
 ⟨⟨some 15, (some (8, true)), .prim (.fadr 0 (.tmp 14))⟩, [0, 1, 2, 3, 4, 5, 10, 11], false, 0, 0⟩,
 ⟨⟨some 16, (some (8, true)), .prim (.load 1 false (.tmp 15))⟩, [0, 1, 2, 3, 4, 5, 10, 11, 12], false, 0, 0⟩,
 ⟨⟨some 17, (some (8, true)), .prim (.lens (.tmp 16))⟩, [0, 1, 2, 3, 4, 5, 10, 11, 12, 13], false, 0, 0⟩,
 ⟨⟨some 18, (some (8, true)), .prim (.bin false .lss (.tmp 12) (.tmp 17))⟩, [0, 1, 2, 3, 4, 5, 6, 7, 8, 9, 10, 11, 12, 13, 14], false, 0, 0⟩,
 ⟨⟨some 19, none, .prim (.pick (.tmp 8) (.tmp 18) (.const (Value.bool false)))⟩, [0, 1, 2, 3, 4, 5, 6, 7, 8, 9, 10, 11, 12, 13, 14, 15], false, 0, 0⟩,
 ⟨⟨some 2, none, .prim (.mov (.tmp 19))⟩, [0, 1, 2, 3, 4, 5, 6, 7, 8, 9, 10, 11, 12, 13, 14, 15, 16], false, 0, 0⟩])
 .ret))
def o120 : List Tmp := []
def r120 : List RV := [.tmp 2]
theorem t120 : Text Try.prog 120 o120 c120 r120 20 := ⟨⟨Try.f120, _, by kernel_rfl, by kernel_rfl, rfl, by kernel_rfl, by kernel_rfl, rfl⟩, by kernel_rfl⟩

/-- internal/bytealg.CompareString -/
def c123 : ACode :=
 (.seq (.ops [⟨some 4, none, .prim (.mov (.const (Value.int IntKind.i64 0)))⟩])
 (.seq (.ops [⟨some 5, none, .prim (.mov (.tmp 0))⟩,
 ⟨some 6, none, .prim (.mov (.tmp 1))⟩,
 ⟨some 7, none, .call (.func 139) [(.tmp 5), (.tmp 6)]⟩,
 ⟨some 4, none, .prim (.mov (.tmp 7))⟩])
 .ret))
def o123 : List Tmp := []
def r123 : List RV := [.tmp 4]
theorem t123 : Text Try.prog 123 o123 c123 r123 8 := ⟨⟨Try.f123, _, by kernel_rfl, by kernel_rfl, rfl, by kernel_rfl, by kernel_rfl, rfl⟩, by kernel_rfl⟩

/-- cmp.isNaN[int] -/
def c124 : ACode :=
 (.seq (.ops [⟨some 2, none, .prim (.mov (.const (Value.bool false)))⟩])
 (.seq (.ops [⟨some 3, none, .prim (.mov (.tmp 0))⟩,
 ⟨some 4, none, .prim (.mov (.tmp 0))⟩,
 ⟨some 5, none, .prim (.bin false .neq (.tmp 3) (.tmp 4))⟩,
 ⟨some 2, none, .prim (.mov (.tmp 5))⟩])
 .ret))
def o124 : List Tmp := []
def r124 : List RV := [.tmp 2]
theorem t124 : Text Try.prog 124 o124 c124 r124 6 := ⟨⟨Try.f124, _, by kernel_rfl, by kernel_rfl, rfl, by kernel_rfl, by kernel_rfl, rfl⟩, by kernel_rfl⟩

/-- sordine/rex.Is -/
def c127 : ACode :=
 (.seq (.ops [⟨some 1, none, .prim (.boxr (.tmp 0))⟩,
 ⟨some 2, none, .prim (.mov (.const (Value.bool false)))⟩])
 (.seq (.ops [⟨some 4, none, .prim (.fadr 5 (.tmp 1))⟩,
 ⟨some 5, none, .prim (.load 1 false (.tmp 4))⟩,
 ⟨some 6, none, .prim (.lenv (.tmp 5))⟩,
 ⟨some 3, none, .prim (.mov (.tmp 6))⟩])
 (.seq (.seq (.ops [⟨some 7, none, .prim (.fadr 0 (.tmp 1))⟩,
 ⟨some 8, none, .prim (.load 1 false (.tmp 7))⟩])
 (.block 0 (.seq (.ops [⟨some 10, none, .prim (.bin false .eql (.tmp 8) (.const (Value.int IntKind.i64 1)))⟩,
 ⟨some 9, none, .prim (.mov (.tmp 10))⟩])
 (.cond (.tmp 9)
 (.seq (.ops [⟨some 11, none, .prim (.mov (.tmp 3))⟩,
 ⟨some 12, none, .prim (.bin false .eql (.tmp 11) (.const (Value.int IntKind.i64 0)))⟩,
 ⟨some 2, none, .prim (.mov (.tmp 12))⟩])
 .ret)
 (.seq (.ops [⟨some 14, none, .prim (.bin false .eql (.tmp 8) (.const (Value.int IntKind.i64 2)))⟩,
 ⟨some 13, none, .prim (.mov (.tmp 14))⟩])
 (.cond (.tmp 13)
 .skip
 (.seq (.ops [⟨some 16, none, .prim (.bin false .eql (.tmp 8) (.const (Value.int IntKind.i64 3)))⟩,
 ⟨some 15, none, .prim (.mov (.tmp 16))⟩])
 (.cond (.tmp 15)
 (.seq (.ops [⟨some 17, none, .prim (.mov (.tmp 3))⟩,
 ⟨some 18, none, .prim (.bin false .eql (.tmp 17) (.const (Value.int IntKind.i64 0)))⟩])
 (.cond (.tmp 18)
 (.seq (.ops [⟨some 2, none, .prim (.mov (.const (Value.bool false)))⟩])
 .ret)
 .skip))
 (.seq (.seq (.ops [⟨some 20, none, .prim (.bin false .eql (.tmp 8) (.const (Value.int IntKind.i64 4)))⟩,
 ⟨some 19, none, .prim (.mov (.tmp 20))⟩])
 (.cond (.tmp 19)
 .skip
 (.seq (.ops [⟨some 21, none, .prim (.bin false .eql (.tmp 8) (.const (Value.int IntKind.i64 5)))⟩,
 ⟨some 19, none, .prim (.mov (.tmp 21))⟩])
 (.cond (.tmp 19)
 .skip
 (.ops [⟨some 22, none, .prim (.bin false .eql (.tmp 8) (.const (Value.int IntKind.i64 6)))⟩,
 ⟨some 19, none, .prim (.mov (.tmp 22))⟩])))))
 (.cond (.tmp 19)
 (.seq (.ops [⟨some 23, none, .prim (.mov (.tmp 3))⟩,
 ⟨some 24, none, .prim (.bin false .neq (.tmp 23) (.const (Value.int IntKind.i64 1)))⟩])
 (.cond (.tmp 24)
 (.seq (.ops [⟨some 2, none, .prim (.mov (.const (Value.bool false)))⟩])
 .ret)
 .skip))
 (.seq (.ops [⟨some 2, none, .prim (.mov (.const (Value.bool false)))⟩])
 .ret)))))))))))
 (.seq (.ops [⟨some 25, none, .prim (.fadr 1 (.tmp 1))⟩,
 ⟨some 26, none, .prim (.load 4 true (.tmp 25))⟩,
 ⟨some 27, none, .prim (.build [.pl (.int .u64 0), .pl (.int .u64 0), .pl (.int .u64 0), .pl (.int .u64 0)] [])⟩,
 ⟨some 28, none, .prim (.eqa false [.int, .int, .int, .int] (.tmp 26) (.tmp 27))⟩,
 ⟨some 29, none, .prim (.mov (.tmp 28))⟩,
 ⟨some 30, (some (29, true)), .prim (.fadr 5 (.tmp 1))⟩,
 ⟨some 31, (some (29, true)), .prim (.load 1 false (.tmp 30))⟩,
 ⟨some 32, (some (29, true)), .call (.func 140) [(.tmp 31), (.func 141)]⟩,
 ⟨some 33, (some (29, true)), .prim (.un .not (.tmp 32))⟩,
 ⟨some 34, none, .prim (.pick (.tmp 29) (.tmp 33) (.const (Value.bool false)))⟩,
 ⟨some 2, none, .prim (.mov (.tmp 34))⟩])
 .ret))))
def o127 : List Tmp := []
def r127 : List RV := [.tmp 2]
theorem t127 : Text Try.prog 127 o127 c127 r127 35 := ⟨⟨Try.f127, _, by kernel_rfl, by kernel_rfl, rfl, by kernel_rfl, by kernel_rfl, rfl⟩, by kernel_rfl⟩

/-- sordine/prog.size -/
def c128 : ACode :=
 (.seq (.ops [⟨some 1, none, .prim (.boxr (.tmp 0))⟩,
 ⟨some 2, none, .prim (.mov (.const (Value.int IntKind.i64 0)))⟩])
 (.seq (.ops [⟨some 3, none, .prim (.mov (.const (Value.int IntKind.i64 0)))⟩])
 (.seq (.seq (.ops [⟨some 6, none, .prim (.fadr 5 (.tmp 1))⟩,
 ⟨some 7, none, .prim (.load 1 false (.tmp 6))⟩,
 ⟨some 8, none, .prim (.lenv (.tmp 7))⟩,
 ⟨some 9, none, .prim (.mov (.const (Value.int IntKind.i64 0)))⟩])
 (.block 0 (.loop [0, 2, 4, 5, 6, 10, 11, 12, 13, 14, 15, 16, 17, 18, 19, 20, 21, 22, 23, 24, 25, 26, 27, 28, 29, 30, 31, 32, 33, 34, 35, 36, 37, 38, 39, 40] (.seq (.ops [⟨some 10, none, .prim (.bin false .lss (.tmp 9) (.tmp 8))⟩])
 (.seq (.cond (.tmp 10)
 .skip
 (.exit 0))
 (.seq (.block 1 (.seq (.ops [⟨some 11, none, .prim (.iadrs 6 (.tmp 7) (.tmp 9))⟩,
 ⟨some 12, none, .prim (.load 6 true (.tmp 11))⟩,
 ⟨some 5, none, .fresh 6 5 (.tmp 12)⟩])
 (.ops [⟨some 13, none, .prim (.mov (.tmp 3))⟩,
 ⟨some 14, none, .prim (.load 6 true (.tmp 5))⟩,
 ⟨some 15, none, .call (.func 128) [(.tmp 14)]⟩,
 ⟨some 16, none, .prim (.bin false .add (.tmp 13) (.tmp 15))⟩,
 ⟨some 3, none, .prim (.mov (.tmp 16))⟩])))
 (.ops [⟨some 17, none, .prim (.bin false .add (.tmp 9) (.const (Value.int IntKind.i64 1)))⟩,
 ⟨some 9, none, .prim (.mov (.tmp 17))⟩])))))))
 (.seq (.seq (.ops [⟨some 18, none, .prim (.fadr 0 (.tmp 1))⟩,
 ⟨some 19, none, .prim (.load 1 false (.tmp 18))⟩])
 (.block 2 (.seq (.ops [⟨some 21, none, .prim (.bin false .eql (.tmp 19) (.const (Value.int IntKind.i64 1)))⟩,
 ⟨some 20, none, .prim (.mov (.tmp 21))⟩])
 (.cond (.tmp 20)
 (.seq (.ops [⟨some 2, none, .prim (.mov (.const (Value.int IntKind.i64 1)))⟩])
 .ret)
 (.seq (.ops [⟨some 23, none, .prim (.bin false .eql (.tmp 19) (.const (Value.int IntKind.i64 3)))⟩,
 ⟨some 22, none, .prim (.mov (.tmp 23))⟩])
 (.cond (.tmp 22)
 (.seq (.ops [⟨some 24, none, .prim (.mov (.tmp 3))⟩,
 ⟨some 25, none, .prim (.fadr 5 (.tmp 1))⟩,
 ⟨some 26, none, .prim (.load 1 false (.tmp 25))⟩,
 ⟨some 27, none, .prim (.lenv (.tmp 26))⟩,
 ⟨some 28, none, .prim (.bin false .sub (.tmp 27) (.const (Value.int IntKind.i64 1)))⟩,
 ⟨some 29, none, .prim (.bin false .mul (.const (Value.int IntKind.i64 2)) (.tmp 28))⟩,
 ⟨some 30, none, .prim (.bin false .add (.tmp 24) (.tmp 29))⟩,
 ⟨some 2, none, .prim (.mov (.tmp 30))⟩])
 .ret)
 (.seq (.ops [⟨some 32, none, .prim (.bin false .eql (.tmp 19) (.const (Value.int IntKind.i64 4)))⟩,
 ⟨some 31, none, .prim (.mov (.tmp 32))⟩])
 (.cond (.tmp 31)
 (.seq (.ops [⟨some 33, none, .prim (.mov (.tmp 3))⟩,
 ⟨some 34, none, .prim (.bin false .add (.tmp 33) (.const (Value.int IntKind.i64 2)))⟩,
 ⟨some 2, none, .prim (.mov (.tmp 34))⟩])
 .ret)
 (.seq (.seq (.ops [⟨some 36, none, .prim (.bin false .eql (.tmp 19) (.const (Value.int IntKind.i64 5)))⟩,
 ⟨some 35, none, .prim (.mov (.tmp 36))⟩])
 (.cond (.tmp 35)
 .skip
 (.ops [⟨some 37, none, .prim (.bin false .eql (.tmp 19) (.const (Value.int IntKind.i64 6)))⟩,
 ⟨some 35, none, .prim (.mov (.tmp 37))⟩])))
 (.cond (.tmp 35)
 (.seq (.ops [⟨some 38, none, .prim (.mov (.tmp 3))⟩,
 ⟨some 39, none, .prim (.bin false .add (.tmp 38) (.const (Value.int IntKind.i64 1)))⟩,
 ⟨some 2, none, .prim (.mov (.tmp 39))⟩])
 .ret)
 .skip))))))))))
 (.seq (.ops [⟨some 40, none, .prim (.mov (.tmp 3))⟩,
 ⟨some 2, none, .prim (.mov (.tmp 40))⟩])
 .ret)))))
def o128 : List Tmp := []
def r128 : List RV := [.tmp 2]
theorem t128 : Text Try.prog 128 o128 c128 r128 41 := ⟨⟨Try.f128, _, by kernel_rfl, by kernel_rfl, rfl, by kernel_rfl, by kernel_rfl, rfl⟩, by kernel_rfl⟩

/-- sordine/prog.ways -/
def c129 : ACode :=
 (.seq (.ops [⟨some 4, none, .prim (.mov (.const (Value.slice none 0 0)))⟩])
 (.seq (.ops [⟨some 5, none, .prim (.mov (.const (Value.slice none 0 0)))⟩])
 (.seq (.ops [⟨some 12, none, .prim (.mov (.tmp 1))⟩,
 ⟨some 13, none, .prim (.lenv (.tmp 12))⟩,
 ⟨some 14, none, .prim (.bin false .sub (.tmp 13) (.const (Value.int IntKind.i64 1)))⟩,
 ⟨some 6, none, .prim (.mov (.tmp 14))⟩])
 (.seq (.seq (.ops [⟨some 15, none, .prim (.mov (.tmp 1))⟩,
 ⟨some 16, none, .prim (.mov (.tmp 6))⟩,
 ⟨some 17, none, .prim (.slcv 6 (.tmp 15) none (some (.tmp 16)))⟩,
 ⟨some 18, none, .prim (.lenv (.tmp 17))⟩,
 ⟨some 19, none, .prim (.mov (.const (Value.int IntKind.i64 0)))⟩])
 (.block 0 (.loop [2, 3, 4, 7, 8, 9, 10, 11, 12, 13, 14, 15, 16, 20, 21, 22, 23, 24, 25, 26, 27, 28, 29, 30, 31, 32, 33, 34, 35, 36, 37, 38, 39, 40, 41, 42, 43, 44, 45, 46, 47, 48, 49, 50, 51, 52, 53, 54, 55, 56, 57, 58, 59, 60, 61, 62, 63, 64, 65, 66, 67, 68] (.seq (.ops [⟨some 20, none, .prim (.bin false .lss (.tmp 19) (.tmp 18))⟩])
 (.seq (.cond (.tmp 20)
 .skip
 (.exit 0))
 (.seq (.block 1 (.seq (.ops [⟨some 21, none, .prim (.iadrs 6 (.tmp 17) (.tmp 19))⟩,
 ⟨some 22, none, .prim (.load 6 true (.tmp 21))⟩,
 ⟨some 8, none, .fresh 6 8 (.tmp 22)⟩])
 (.seq (.ops [⟨some 23, none, .prim (.mov (.tmp 0))⟩,
 ⟨some 24, none, .prim (.lenv (.tmp 23))⟩,
 ⟨some 9, none, .prim (.mov (.tmp 24))⟩])
 (.seq (.draw [⟨⟨some 25, none, .prim (.mov (.tmp 0))⟩, [], false, 0, 0⟩,
 ⟨⟨some 26, none, .prim (.mov (.tmp 9))⟩, [], false, 0, 0⟩,
 ⟨⟨some 27, none, .prim (.bin false .add (.tmp 26) (.const (Value.int IntKind.i64 1)))⟩, [1], false, 0, 0⟩,
 ⟨⟨some 28, none, .prim (.build [.pl (.int .i64 0), .pl (.int .u64 0), .pl (.int .u64 0), .pl (.int .u64 0), .pl (.int .u64 0), .pl (.int .i64 0), .pl (.int .i64 0)] [(0, 1, (.const (Value.int IntKind.i64 2))), (5, 1, (.tmp 27))])⟩, [1, 2], false, 0, 0⟩,
 ⟨⟨some 29, none, .prim (.bsl false 7 true 1 [.pl (.int .i64 0), .pl (.int .u64 0), .pl (.int .u64 0), .pl (.int .u64 0), .pl (.int .u64 0), .pl (.int .i64 0), .pl (.int .i64 0)] [(0, 7, (.tmp 28))])⟩, [1, 2, 3], false, 0, 0⟩,
 ⟨⟨some 30, none, .prim (.app 7 (.tmp 25) (.tmp 29))⟩, [0, 1, 2, 3, 4], true, 0, 0⟩,
 ⟨⟨some 31, none, .prim (.load 6 true (.tmp 8))⟩, [], false, 0, 1⟩,
 ⟨⟨some 32, none, .call (.func 112) [(.tmp 30), (.tmp 31)]⟩, [0, 1, 2, 3, 4, 5, 6], true, 0, 0⟩,
 ⟨⟨some 0, none, .prim (.mov (.tmp 32))⟩, [0, 1, 2, 3, 4, 5, 6, 7], false, 2, 2⟩])
 (.seq (.ops [⟨some 33, none, .prim (.mov (.tmp 5))⟩,
 ⟨some 34, none, .prim (.mov (.tmp 0))⟩,
 ⟨some 35, none, .prim (.lenv (.tmp 34))⟩,
 ⟨some 36, none, .prim (.bsl false 1 false 1 [.pl (.int .i64 0)] [(0, 1, (.tmp 35))])⟩,
 ⟨some 37, none, .prim (.app 1 (.tmp 33) (.tmp 36))⟩,
 ⟨some 5, none, .prim (.mov (.tmp 37))⟩])
 (.seq (.ops [⟨some 38, none, .prim (.mov (.tmp 0))⟩,
 ⟨some 39, none, .prim (.build [.pl (.int .i64 0), .pl (.int .u64 0), .pl (.int .u64 0), .pl (.int .u64 0), .pl (.int .u64 0), .pl (.int .i64 0), .pl (.int .i64 0)] [(0, 1, (.const (Value.int IntKind.i64 3)))])⟩,
 ⟨some 40, none, .prim (.bsl false 7 true 1 [.pl (.int .i64 0), .pl (.int .u64 0), .pl (.int .u64 0), .pl (.int .u64 0), .pl (.int .u64 0), .pl (.int .i64 0), .pl (.int .i64 0)] [(0, 7, (.tmp 39))])⟩,
 ⟨some 41, none, .prim (.app 7 (.tmp 38) (.tmp 40))⟩,
 ⟨some 0, none, .prim (.mov (.tmp 41))⟩])
 (.ops [⟨some 42, none, .prim (.mov (.tmp 0))⟩,
 ⟨some 43, none, .prim (.mov (.tmp 9))⟩,
 ⟨some 44, none, .prim (.mov (.tmp 0))⟩,
 ⟨some 45, none, .prim (.lenv (.tmp 44))⟩,
 ⟨some 46, none, .prim (.iadrs 7 (.tmp 42) (.tmp 43))⟩,
 ⟨some 47, none, .prim (.fadr 6 (.tmp 46))⟩,
 ⟨none, none, .prim (.store 1 (.tmp 47) (.tmp 45))⟩])))))))
 (.ops [⟨some 48, none, .prim (.bin false .add (.tmp 19) (.const (Value.int IntKind.i64 1)))⟩,
 ⟨some 19, none, .prim (.mov (.tmp 48))⟩])))))))
 (.seq (.ops [⟨some 49, none, .prim (.mov (.tmp 0))⟩,
 ⟨some 50, none, .prim (.mov (.tmp 1))⟩,
 ⟨some 51, none, .prim (.mov (.tmp 6))⟩,
 ⟨some 52, none, .prim (.iadrs 6 (.tmp 50) (.tmp 51))⟩,
 ⟨some 53, none, .prim (.load 6 true (.tmp 52))⟩,
 ⟨some 54, none, .call (.func 112) [(.tmp 49), (.tmp 53)]⟩,
 ⟨some 0, none, .prim (.mov (.tmp 54))⟩])
 (.seq (.seq (.ops [⟨some 55, none, .prim (.mov (.tmp 5))⟩,
 ⟨some 56, none, .prim (.lenv (.tmp 55))⟩,
 ⟨some 57, none, .prim (.mov (.const (Value.int IntKind.i64 0)))⟩])
 (.block 2 (.loop [1, 2, 3, 4, 5, 6, 7, 8, 9, 10, 11, 12, 13, 14, 15, 16, 17, 18, 19, 20, 21, 22, 23, 24, 25, 26, 27, 28, 29, 30, 31, 32, 33, 34, 35, 36, 37, 38, 39, 40, 41, 42, 43, 44, 45, 46, 47, 48, 49, 50, 51, 52, 53, 54, 58, 59, 60, 61, 62, 63, 64, 65, 66, 67, 68] (.seq (.ops [⟨some 58, none, .prim (.bin false .lss (.tmp 57) (.tmp 56))⟩])
 (.seq (.cond (.tmp 58)
 .skip
 (.exit 2))
 (.seq (.block 3 (.seq (.ops [⟨some 59, none, .prim (.iadrs 1 (.tmp 55) (.tmp 57))⟩,
 ⟨some 60, none, .prim (.load 1 false (.tmp 59))⟩,
 ⟨some 11, none, .prim (.mov (.tmp 60))⟩])
 (.ops [⟨some 61, none, .prim (.mov (.tmp 0))⟩,
 ⟨some 62, none, .prim (.mov (.tmp 11))⟩,
 ⟨some 63, none, .prim (.mov (.tmp 0))⟩,
 ⟨some 64, none, .prim (.lenv (.tmp 63))⟩,
 ⟨some 65, none, .prim (.iadrs 7 (.tmp 61) (.tmp 62))⟩,
 ⟨some 66, none, .prim (.fadr 5 (.tmp 65))⟩,
 ⟨none, none, .prim (.store 1 (.tmp 66) (.tmp 64))⟩])))
 (.ops [⟨some 67, none, .prim (.bin false .add (.tmp 57) (.const (Value.int IntKind.i64 1)))⟩,
 ⟨some 57, none, .prim (.mov (.tmp 67))⟩])))))))
 (.seq (.ops [⟨some 68, none, .prim (.mov (.tmp 0))⟩,
 ⟨some 4, none, .prim (.mov (.tmp 68))⟩])
 .ret)))))))
def o129 : List Tmp := []
def r129 : List RV := [.tmp 4]
theorem t129 : Text Try.prog 129 o129 c129 r129 69 := ⟨⟨Try.f129, _, by kernel_rfl, by kernel_rfl, rfl, by kernel_rfl, by kernel_rfl, rfl⟩, by kernel_rfl⟩

/-- slices.IndexFunc[[]sordine/api.Step,sordine/api.Step] -/
def c130 : ACode :=
 (.seq (.ops [⟨some 4, none, .prim (.mov (.const (Value.int IntKind.i64 0)))⟩])
 (.seq (.seq (.ops [⟨some 6, none, .prim (.mov (.tmp 0))⟩,
 ⟨some 7, none, .prim (.lenv (.tmp 6))⟩,
 ⟨some 8, none, .prim (.mov (.const (Value.int IntKind.i64 0)))⟩])
 (.block 0 (.loop [2, 3, 4, 5, 6, 9, 10, 11, 12, 13, 14, 15, 16, 17, 18] (.seq (.ops [⟨some 9, none, .prim (.bin false .lss (.tmp 8) (.tmp 7))⟩])
 (.seq (.cond (.tmp 9)
 .skip
 (.exit 0))
 (.seq (.block 1 (.seq (.ops [⟨some 10, none, .prim (.mov (.tmp 8))⟩,
 ⟨some 5, none, .prim (.mov (.tmp 10))⟩])
 (.seq (.ops [⟨some 11, none, .prim (.mov (.tmp 1))⟩,
 ⟨some 12, none, .prim (.mov (.tmp 0))⟩,
 ⟨some 13, none, .prim (.mov (.tmp 5))⟩,
 ⟨some 14, none, .prim (.iadrs 7 (.tmp 12) (.tmp 13))⟩,
 ⟨some 15, none, .prim (.load 7 true (.tmp 14))⟩,
 ⟨some 16, none, .call (.tmp 11) [(.tmp 15)]⟩])
 (.cond (.tmp 16)
 (.seq (.ops [⟨some 17, none, .prim (.mov (.tmp 5))⟩,
 ⟨some 4, none, .prim (.mov (.tmp 17))⟩])
 .ret)
 .skip))))
 (.ops [⟨some 18, none, .prim (.bin false .add (.tmp 8) (.const (Value.int IntKind.i64 1)))⟩,
 ⟨some 8, none, .prim (.mov (.tmp 18))⟩])))))))
 (.seq (.ops [⟨some 4, none, .prim (.mov (.const (Value.int IntKind.i64 (-1))))⟩])
 .ret)))
def o130 : List Tmp := []
def r130 : List RV := [.tmp 4]
theorem t130 : Text Try.prog 130 o130 c130 r130 19 := ⟨⟨Try.f130, _, by kernel_rfl, by kernel_rfl, rfl, by kernel_rfl, by kernel_rfl, rfl⟩, by kernel_rfl⟩

/-- sordine/prog.right$1 -/
def c131 : ACode :=
 (.seq (.ops [⟨some 3, none, .prim (.mov (.const (Value.bool false)))⟩])
 (.seq (.ops [⟨some 4, none, .prim (.mov (.tmp 0))⟩,
 ⟨some 5, none, .prim (.bin false .geq (.tmp 4) (.const (Value.int IntKind.i64 0)))⟩,
 ⟨some 6, none, .prim (.mov (.tmp 5))⟩,
 ⟨some 7, (some (6, true)), .prim (.mov (.tmp 0))⟩,
 ⟨some 8, (some (6, true)), .prim (.load 1 false (.tmp 1))⟩,
 ⟨some 9, (some (6, true)), .prim (.bin false .lss (.tmp 7) (.tmp 8))⟩,
 ⟨some 10, none, .prim (.pick (.tmp 6) (.tmp 9) (.const (Value.bool false)))⟩,
 ⟨some 3, none, .prim (.mov (.tmp 10))⟩])
 .ret))
def o131 : List Tmp := []
def r131 : List RV := [.tmp 3]
theorem t131 : Text Try.prog 131 o131 c131 r131 11 := ⟨⟨Try.f131, _, by kernel_rfl, by kernel_rfl, rfl, by kernel_rfl, by kernel_rfl, rfl⟩, by kernel_rfl⟩

/-- (*sordine/rex.parser).over -/
def c132 : ACode :=
 (.seq (.ops [⟨some 2, none, .prim (.mov (.const (Value.bool false)))⟩])
 (.seq (.draw [⟨⟨some 3, none, .prim (.mov (.tmp 0))⟩, [], false, 0, 0⟩,
 ⟨⟨some 4, none, .prim (.nilc (.tmp 3))⟩, [0], false, 0, 0⟩,
 ⟨⟨some 5, none, .prim (.fadr 2 (.tmp 4))⟩, [0, 1], false, 0, 0⟩,
 ⟨⟨some 6, none, .prim (.load 1 false (.tmp 5))⟩, [0, 1, 2], false, 0, 0⟩,
 ⟨⟨some 7, none, .prim (.mov (.tmp 6))⟩, [0, 1, 2, 3], false, 0, 0⟩,
 ⟨⟨some 8, (some (7, false)), .prim (.mov (.tmp 0))⟩, [0, 1, 2, 3, 4], false, 0, 0⟩,
 ⟨⟨some 9, (some (7, false)), .prim (.nilc (.tmp 8))⟩, [0, 1, 2, 3, 4, 5], false, 0, 0⟩,
 ⟨⟨some 10, (some (7, false)), .prim (.fadr 1 (.tmp 9))⟩, [0, 1, 2, 3, 4, 5, 6], false, 0, 0⟩,
 ⟨⟨some 11, (some (7, false)), .prim (.load 1 false (.tmp 10))⟩, [0, 1, 2, 3, 4, 5, 6, 7], false, 0, 0⟩,
 ⟨⟨some 12, (some (7, false)), .prim (.mov (.tmp 0))⟩, [0, 1, 2, 3, 4], false, 0, 0⟩,
 ⟨⟨some 13, (some (7, false)), .prim (.nilc (.tmp 12))⟩, [0, 1, 2, 3, 4, 9], false, 0, 0⟩,
 ⟨⟨some 14, (some (7, false)), .prim (.fadr 0 (.tmp 13))⟩, [0, 1, 2, 3, 4, 9, 10], false, 0, 0⟩,
 ⟨⟨some 15, (some (7, false)), .prim (.load 1 false (.tmp 14))⟩, [0, 1, 2, 3, 4, 9, 10, 11], false, 0, 0⟩,
 ⟨⟨some 16, (some (7, false)), .prim (.lens (.tmp 15))⟩, [0, 1, 2, 3, 4, 9, 10, 11, 12], false, 0, 0⟩,
 ⟨⟨some 17, (some (7, false)), .prim (.bin false .geq (.tmp 11) (.tmp 16))⟩, [0, 1, 2, 3, 4, 5, 6, 7, 8, 9, 10, 11, 12, 13], false, 0, 0⟩,
 ⟨⟨some 18, none, .prim (.pick (.tmp 7) (.const (Value.bool true)) (.tmp 17))⟩, [0, 1, 2, 3, 4, 5, 6, 7, 8, 9, 10, 11, 12, 13, 14], false, 0, 0⟩,
 ⟨⟨some 2, none, .prim (.mov (.tmp 18))⟩, [0, 1, 2, 3, 4, 5, 6, 7, 8, 9, 10, 11, 12, 13, 14, 15], false, 0, 0⟩])
 .ret))
def o132 : List Tmp := []
def r132 : List RV := [.tmp 2]
theorem t132 : Text Try.prog 132 o132 c132 r132 19 := ⟨⟨Try.f132, _, by kernel_rfl, by kernel_rfl, rfl, by kernel_rfl, by kernel_rfl, rfl⟩, by kernel_rfl⟩

/-- (*sordine/rex.parser).sees -/
def c133 : ACode :=
 (.seq (.ops [⟨some 4, none, .prim (.mov (.const (Value.bool false)))⟩])
 (.seq (.draw [⟨⟨some 5, none, .prim (.mov (.tmp 0))⟩, [], false, 0, 0⟩,
 ⟨⟨some 6, none, .call (.func 132) [(.tmp 5)]⟩, [0], true, 0, 0⟩,
 ⟨⟨some 7, none, .prim (.un .not (.tmp 6))⟩, [0, 1], false, 1, 1⟩,
 ⟨⟨some 8, none, .prim (.mov (.tmp 7))⟩, [0, 1, 2], false, 1, 1⟩,
 ⟨⟨some 9, (some (8, true)), .prim (.mov (.tmp 0))⟩, [0, 1, 2, 3], false, 1, 1⟩,
 ⟨⟨some 10, (some (8, true)), .prim (.nilc (.tmp 9))⟩, [0, 1, 2, 3, 4], false, 1, 1⟩,
 ⟨⟨some 11, (some (8, true)), .prim (.fadr 0 (.tmp 10))⟩, [0, 1, 2, 3, 4, 5], false, 1, 1⟩,
 ⟨⟨some 12, (some (8, true)), .prim (.load 1 false (.tmp 11))⟩, [0, 1, 2, 3, 4, 5, 6], false, 1, 1⟩,
 ⟨⟨some 13, (some (8, true)), .prim (.mov (.tmp 0))⟩, [0, 1, 2, 3], false, 1, 1⟩,
 ⟨⟨some 14, (some (8, true)), .prim (.nilc (.tmp 13))⟩, [0, 1, 2, 3, 8], false, 1, 1⟩,
 ⟨⟨some 15, (some (8, true)), .prim (.fadr 1 (.tmp 14))⟩, [0, 1, 2, 3, 8, 9], false, 1, 1⟩,
 ⟨⟨some 16, (some (8, true)), .prim (.load 1 false (.tmp 15))⟩, [0, 1, 2, 3, 8, 9, 10], false, 1, 1⟩,
 ⟨⟨some 17, (some (8, true)), .prim (.idxs (.tmp 12) (.tmp 16))⟩, [0, 1, 2, 3, 4, 5, 6, 7, 8, 9, 10, 11], false, 1, 1⟩,
 ⟨⟨some 18, (some (8, true)), .prim (.mov (.tmp 1))⟩, [0, 1, 2, 3], false, 1, 1⟩,
 ⟨⟨some 19, (some (8, true)), .prim (.bin false .eql (.tmp 17) (.tmp 18))⟩, [0, 1, 2, 3, 4, 5, 6, 7, 8, 9, 10, 11, 12, 13], false, 1, 1⟩,
 ⟨⟨some 20, none, .prim (.pick (.tmp 8) (.tmp 19) (.const (Value.bool false)))⟩, [0, 1, 2, 3, 4, 5, 6, 7, 8, 9, 10, 11, 12, 13, 14], false, 1, 1⟩,
 ⟨⟨some 4, none, .prim (.mov (.tmp 20))⟩, [0, 1, 2, 3, 4, 5, 6, 7, 8, 9, 10, 11, 12, 13, 14, 15], false, 1, 1⟩])
 .ret))
def o133 : List Tmp := []
def r133 : List RV := [.tmp 4]
theorem t133 : Text Try.prog 133 o133 c133 r133 21 := ⟨⟨Try.f133, _, by kernel_rfl, by kernel_rfl, rfl, by kernel_rfl, by kernel_rfl, rfl⟩, by kernel_rfl⟩

/-- (*sordine/rex.parser).factor -/
def c134 : ACode :=
 (.seq (.ops [⟨some 4, none, .prim (.allocm [.pl (.int .i64 0), .pl (.int .u64 0), .pl (.int .u64 0), .pl (.int .u64 0), .pl (.int .u64 0), .nils])⟩])
 (.seq (.ops [⟨some 6, none, .prim (.mov (.tmp 0))⟩,
 ⟨some 7, none, .prim (.mov (.tmp 1))⟩,
 ⟨some 8, none, .call (.func 142) [(.tmp 6), (.tmp 7)]⟩,
 ⟨some 5, none, .fresh 6 5 (.tmp 8)⟩])
 (.seq (.block 0 (.seq (.ops [⟨some 10, none, .prim (.mov (.tmp 0))⟩,
 ⟨some 11, none, .call (.func 118) [(.tmp 10), (.const (Value.int IntKind.u8 42))]⟩,
 ⟨some 9, none, .prim (.mov (.tmp 11))⟩])
 (.cond (.tmp 9)
 (.seq (.ops [⟨some 12, none, .prim (.load 6 true (.tmp 5))⟩,
 ⟨some 13, none, .prim (.bsl false 6 true 1 [.pl (.int .i64 0), .pl (.int .u64 0), .pl (.int .u64 0), .pl (.int .u64 0), .pl (.int .u64 0), .nils] [(0, 6, (.tmp 12))])⟩,
 ⟨some 14, none, .prim (.build [.pl (.int .i64 0), .pl (.int .u64 0), .pl (.int .u64 0), .pl (.int .u64 0), .pl (.int .u64 0), .nils] [(0, 1, (.const (Value.int IntKind.i64 4))), (5, 1, (.tmp 13))])⟩,
 ⟨none, none, .prim (.store 6 (.tmp 4) (.tmp 14))⟩])
 .ret)
 (.seq (.ops [⟨some 16, none, .prim (.mov (.tmp 0))⟩,
 ⟨some 17, none, .call (.func 118) [(.tmp 16), (.const (Value.int IntKind.u8 43))]⟩,
 ⟨some 15, none, .prim (.mov (.tmp 17))⟩])
 (.cond (.tmp 15)
 (.seq (.ops [⟨some 18, none, .prim (.load 6 true (.tmp 5))⟩,
 ⟨some 19, none, .prim (.bsl false 6 true 1 [.pl (.int .i64 0), .pl (.int .u64 0), .pl (.int .u64 0), .pl (.int .u64 0), .pl (.int .u64 0), .nils] [(0, 6, (.tmp 18))])⟩,
 ⟨some 20, none, .prim (.build [.pl (.int .i64 0), .pl (.int .u64 0), .pl (.int .u64 0), .pl (.int .u64 0), .pl (.int .u64 0), .nils] [(0, 1, (.const (Value.int IntKind.i64 5))), (5, 1, (.tmp 19))])⟩,
 ⟨none, none, .prim (.store 6 (.tmp 4) (.tmp 20))⟩])
 .ret)
 (.seq (.ops [⟨some 22, none, .prim (.mov (.tmp 0))⟩,
 ⟨some 23, none, .call (.func 118) [(.tmp 22), (.const (Value.int IntKind.u8 63))]⟩,
 ⟨some 21, none, .prim (.mov (.tmp 23))⟩])
 (.cond (.tmp 21)
 (.seq (.ops [⟨some 24, none, .prim (.load 6 true (.tmp 5))⟩,
 ⟨some 25, none, .prim (.bsl false 6 true 1 [.pl (.int .i64 0), .pl (.int .u64 0), .pl (.int .u64 0), .pl (.int .u64 0), .pl (.int .u64 0), .nils] [(0, 6, (.tmp 24))])⟩,
 ⟨some 26, none, .prim (.build [.pl (.int .i64 0), .pl (.int .u64 0), .pl (.int .u64 0), .pl (.int .u64 0), .pl (.int .u64 0), .nils] [(0, 1, (.const (Value.int IntKind.i64 6))), (5, 1, (.tmp 25))])⟩,
 ⟨none, none, .prim (.store 6 (.tmp 4) (.tmp 26))⟩])
 .ret)
 .skip)))))))
 (.seq (.ops [⟨some 27, none, .prim (.load 6 true (.tmp 5))⟩,
 ⟨none, none, .prim (.store 6 (.tmp 4) (.tmp 27))⟩])
 .ret))))
def o134 : List Tmp := [4]
def r134 : List RV := [.cell 4 6 true]
theorem t134 : Text Try.prog 134 o134 c134 r134 28 := ⟨⟨Try.f134, _, by kernel_rfl, by kernel_rfl, rfl, by kernel_rfl, by kernel_rfl, rfl⟩, by kernel_rfl⟩

/-- (*sordine/sordineref5.parser).factor -/
def c135 : ACode :=
 (.seq (.ops [⟨some 2, none, .prim (.allocm [.pl (.int .i64 0), .pl (.int .u64 0), .pl (.int .u64 0), .pl (.int .u64 0), .pl (.int .u64 0), .nils])⟩])
 (.seq (.ops [⟨some 5, none, .prim (.mov (.tmp 0))⟩,
 ⟨some 6, none, .call (.func 143) [(.tmp 5)]⟩,
 ⟨some 3, none, .fresh 6 3 (.tmp 6)⟩])
 (.seq (.seq (.ops [⟨some 7, none, .prim (.mov (.tmp 0))⟩,
 ⟨some 8, none, .call (.func 120) [(.tmp 7)]⟩,
 ⟨some 9, none, .prim (.un .not (.tmp 8))⟩])
 (.cond (.tmp 9)
 (.seq (.ops [⟨some 10, none, .prim (.load 6 true (.tmp 3))⟩,
 ⟨none, none, .prim (.store 6 (.tmp 2) (.tmp 10))⟩])
 .ret)
 .skip))
 (.seq (.ops [⟨some 4, none, .prim (.mov (.const (Value.int IntKind.i64 0)))⟩])
 (.seq (.seq (.draw [⟨⟨some 11, none, .prim (.mov (.tmp 0))⟩, [], false, 0, 0⟩,
 ⟨⟨some 12, none, .prim (.nilc (.tmp 11))⟩, [0], false, 0, 0⟩,
 ⟨⟨some 13, none, .prim (.fadr 0 (.tmp 12))⟩, [0, 1], false, 0, 0⟩,
 ⟨⟨some 14, none, .prim (.load 1 false (.tmp 13))⟩, [0, 1, 2], false, 0, 0⟩,
 ⟨⟨some 15, none, .prim (.mov (.tmp 0))⟩, [], false, 0, 0⟩,
 ⟨⟨some 16, none, .prim (.nilc (.tmp 15))⟩, [4], false, 0, 0⟩,
 ⟨⟨some 17, none, .prim (.fadr 1 (.tmp 16))⟩, [4, 5], false, 0, 0⟩,
 ⟨⟨some 18, none, .prim (.load 1 false (.tmp 17))⟩, [4, 5, 6], false, 0, 0⟩,
 ⟨⟨some 19, none, .prim (.idxs (.tmp 14) (.tmp 18))⟩, [0, 1, 2, 3, 4, 5, 6, 7], false, 0, 0⟩])
 (.block 0 (.seq (.ops [⟨some 22, none, .prim (.bin false .eql (.tmp 19) (.const (Value.int IntKind.u8 42)))⟩,
 ⟨some 21, none, .prim (.mov (.tmp 22))⟩])
 (.cond (.tmp 21)
 (.ops [⟨some 4, none, .prim (.mov (.const (Value.int IntKind.i64 4)))⟩])
 (.seq (.ops [⟨some 24, none, .prim (.bin false .eql (.tmp 19) (.const (Value.int IntKind.u8 43)))⟩,
 ⟨some 23, none, .prim (.mov (.tmp 24))⟩])
 (.cond (.tmp 23)
 (.ops [⟨some 4, none, .prim (.mov (.const (Value.int IntKind.i64 5)))⟩])
 (.seq (.ops [⟨some 26, none, .prim (.bin false .eql (.tmp 19) (.const (Value.int IntKind.u8 63)))⟩,
 ⟨some 25, none, .prim (.mov (.tmp 26))⟩])
 (.cond (.tmp 25)
 (.ops [⟨some 4, none, .prim (.mov (.const (Value.int IntKind.i64 6)))⟩])
 (.seq (.ops [⟨some 20, none, .prim (.load 6 true (.tmp 3))⟩,
 ⟨none, none, .prim (.store 6 (.tmp 2) (.tmp 20))⟩])
 .ret)))))))))
 (.seq (.ops [⟨some 27, none, .prim (.mov (.tmp 0))⟩,
 ⟨some 28, none, .prim (.nilc (.tmp 27))⟩,
 ⟨some 29, none, .prim (.fadr 1 (.tmp 28))⟩,
 ⟨some 30, none, .prim (.load 1 false (.tmp 29))⟩,
 ⟨some 31, none, .prim (.bin false .add (.tmp 30) (.const (Value.int IntKind.i64 1)))⟩,
 ⟨some 32, none, .prim (.nilc (.tmp 27))⟩,
 ⟨some 33, none, .prim (.fadr 1 (.tmp 32))⟩,
 ⟨none, none, .prim (.store 1 (.tmp 33) (.tmp 31))⟩])
 (.seq (.ops [⟨some 34, none, .prim (.mov (.tmp 4))⟩,
 ⟨some 35, none, .prim (.load 6 true (.tmp 3))⟩,
 ⟨some 36, none, .prim (.bsl false 6 true 1 [.pl (.int .i64 0), .pl (.int .u64 0), .pl (.int .u64 0), .pl (.int .u64 0), .pl (.int .u64 0), .nils] [(0, 6, (.tmp 35))])⟩,
 ⟨some 37, none, .prim (.build [.pl (.int .i64 0), .pl (.int .u64 0), .pl (.int .u64 0), .pl (.int .u64 0), .pl (.int .u64 0), .nils] [(0, 1, (.tmp 34)), (5, 1, (.tmp 36))])⟩,
 ⟨none, none, .prim (.store 6 (.tmp 2) (.tmp 37))⟩])
 .ret)))))))
def o135 : List Tmp := [2]
def r135 : List RV := [.cell 2 6 true]
theorem t135 : Text Try.prog 135 o135 c135 r135 38 := ⟨⟨Try.f135, _, by kernel_rfl, by kernel_rfl, rfl, by kernel_rfl, by kernel_rfl, rfl⟩, by kernel_rfl⟩

/-- sordine/sordineref5.Has -/
def c136 : ACode :=
 (.seq (.ops [⟨some 2, none, .prim (.boxr (.tmp 0))⟩,
 ⟨some 4, none, .prim (.mov (.const (Value.bool false)))⟩])
 (.seq (.ops [⟨some 5, none, .prim (.mov (.tmp 1))⟩,
 ⟨some 6, none, .prim (.bin false .quo (.tmp 5) (.const (Value.int IntKind.u8 64)))⟩,
 ⟨some 7, none, .prim (.iadra 1 4 (.tmp 2) (.tmp 6))⟩,
 ⟨some 8, none, .prim (.load 1 false (.tmp 7))⟩,
 ⟨some 9, none, .prim (.mov (.tmp 1))⟩,
 ⟨some 10, none, .prim (.bin false .rem (.tmp 9) (.const (Value.int IntKind.u8 64)))⟩,
 ⟨some 11, none, .prim (.convi .u64 (.tmp 10))⟩,
 ⟨some 12, none, .prim (.bin false .shr (.tmp 8) (.tmp 11))⟩,
 ⟨some 13, none, .prim (.bin false .and (.tmp 12) (.const (Value.int IntKind.u64 1)))⟩,
 ⟨some 14, none, .prim (.bin false .eql (.tmp 13) (.const (Value.int IntKind.u64 1)))⟩,
 ⟨some 4, none, .prim (.mov (.tmp 14))⟩])
 .ret))
def o136 : List Tmp := []
def r136 : List RV := [.tmp 4]
theorem t136 : Text Try.prog 136 o136 c136 r136 15 := ⟨⟨Try.f136, _, by kernel_rfl, by kernel_rfl, rfl, by kernel_rfl, by kernel_rfl, rfl⟩, by kernel_rfl⟩

/-- sordine/sordineref5.join -/
def c137 : ACode :=
 (.seq (.ops [⟨some 4, none, .prim (.mov (.const (Value.slice none 0 0)))⟩])
 (.seq (.ops [⟨some 7, none, .prim (.mov (.tmp 0))⟩,
 ⟨some 8, none, .prim (.lenv (.tmp 7))⟩,
 ⟨some 9, none, .prim (.mks 1 false [.pl (.bool false)] (.tmp 8) (.tmp 8))⟩,
 ⟨some 5, none, .prim (.mov (.tmp 9))⟩])
 (.seq (.seq (.ops [⟨some 6, none, .prim (.mov (.const (Value.int IntKind.i64 0)))⟩])
 (.block 0 (.loop [2, 3, 4, 7, 8, 9, 10, 11, 12, 13, 14, 15, 16, 17, 18, 19, 20, 21, 22, 23, 24, 25, 26, 27, 28, 29] (.seq (.seq (.ops [⟨some 10, none, .prim (.mov (.tmp 6))⟩,
 ⟨some 11, none, .prim (.mov (.tmp 0))⟩,
 ⟨some 12, none, .prim (.lenv (.tmp 11))⟩,
 ⟨some 13, none, .prim (.bin false .lss (.tmp 10) (.tmp 12))⟩])
 (.cond (.tmp 13)
 .skip
 (.exit 0)))
 (.seq (.block 1 (.ops [⟨some 16, none, .prim (.mov (.tmp 5))⟩,
 ⟨some 17, none, .prim (.mov (.tmp 6))⟩,
 ⟨some 18, none, .prim (.mov (.tmp 0))⟩,
 ⟨some 19, none, .prim (.mov (.tmp 6))⟩,
 ⟨some 20, none, .prim (.iadrs 1 (.tmp 18) (.tmp 19))⟩,
 ⟨some 21, none, .prim (.load 1 false (.tmp 20))⟩,
 ⟨some 22, none, .prim (.mov (.tmp 21))⟩,
 ⟨some 23, (some (22, false)), .prim (.mov (.tmp 1))⟩,
 ⟨some 24, (some (22, false)), .prim (.mov (.tmp 6))⟩,
 ⟨some 25, (some (22, false)), .prim (.iadrs 1 (.tmp 23) (.tmp 24))⟩,
 ⟨some 26, (some (22, false)), .prim (.load 1 false (.tmp 25))⟩,
 ⟨some 27, none, .prim (.pick (.tmp 22) (.const (Value.bool true)) (.tmp 26))⟩,
 ⟨some 28, none, .prim (.iadrs 1 (.tmp 16) (.tmp 17))⟩,
 ⟨none, none, .prim (.store 1 (.tmp 28) (.tmp 27))⟩]))
 (.ops [⟨some 14, none, .prim (.mov (.tmp 6))⟩,
 ⟨some 15, none, .prim (.bin false .add (.tmp 14) (.const (Value.int IntKind.i64 1)))⟩,
 ⟨some 6, none, .prim (.mov (.tmp 15))⟩]))))))
 (.seq (.ops [⟨some 29, none, .prim (.mov (.tmp 5))⟩,
 ⟨some 4, none, .prim (.mov (.tmp 29))⟩])
 (.ghost (.shut 4) .ret)))))
def o137 : List Tmp := []
def r137 : List RV := [.tmp 4]
theorem t137 : Text Try.prog 137 o137 c137 r137 30 := ⟨⟨Try.f137, _, by kernel_rfl, by kernel_rfl, rfl, by kernel_rfl, by kernel_rfl, rfl⟩, by kernel_rfl⟩

/-- sordine/sordineref5.same -/
def c138 : ACode :=
 (.seq (.ops [⟨some 4, none, .prim (.mov (.const (Value.bool false)))⟩])
 (.seq (.seq (.ops [⟨some 5, none, .prim (.mov (.const (Value.int IntKind.i64 0)))⟩])
 (.block 0 (.loop [2, 3, 4, 6, 7, 8, 9, 10, 11, 12, 13, 14, 15, 16, 17, 18, 19, 20] (.seq (.seq (.ops [⟨some 6, none, .prim (.mov (.tmp 5))⟩,
 ⟨some 7, none, .prim (.mov (.tmp 0))⟩,
 ⟨some 8, none, .prim (.lenv (.tmp 7))⟩,
 ⟨some 9, none, .prim (.bin false .lss (.tmp 6) (.tmp 8))⟩])
 (.cond (.tmp 9)
 .skip
 (.exit 0)))
 (.seq (.block 1 (.seq (.draw [⟨⟨some 12, none, .prim (.mov (.tmp 0))⟩, [], false, 0, 0⟩,
 ⟨⟨some 13, none, .prim (.mov (.tmp 5))⟩, [], false, 0, 0⟩,
 ⟨⟨some 14, none, .prim (.iadrs 1 (.tmp 12) (.tmp 13))⟩, [0, 1], false, 0, 0⟩,
 ⟨⟨some 15, none, .prim (.load 1 false (.tmp 14))⟩, [0, 1, 2], false, 0, 0⟩,
 ⟨⟨some 16, none, .prim (.mov (.tmp 1))⟩, [], false, 0, 0⟩,
 ⟨⟨some 17, none, .prim (.mov (.tmp 5))⟩, [], false, 0, 0⟩,
 ⟨⟨some 18, none, .prim (.iadrs 1 (.tmp 16) (.tmp 17))⟩, [4, 5], false, 0, 0⟩,
 ⟨⟨some 19, none, .prim (.load 1 false (.tmp 18))⟩, [4, 5, 6], false, 0, 0⟩,
 ⟨⟨some 20, none, .prim (.bin true .neq (.tmp 15) (.tmp 19))⟩, [0, 1, 2, 3, 4, 5, 6, 7], false, 0, 0⟩])
 (.cond (.tmp 20)
 (.seq (.ops [⟨some 4, none, .prim (.mov (.const (Value.bool false)))⟩])
 .ret)
 .skip)))
 (.ops [⟨some 10, none, .prim (.mov (.tmp 5))⟩,
 ⟨some 11, none, .prim (.bin false .add (.tmp 10) (.const (Value.int IntKind.i64 1)))⟩,
 ⟨some 5, none, .prim (.mov (.tmp 11))⟩]))))))
 (.seq (.ops [⟨some 4, none, .prim (.mov (.const (Value.bool true)))⟩])
 .ret)))
def o138 : List Tmp := []
def r138 : List RV := [.tmp 4]
theorem t138 : Text Try.prog 138 o138 c138 r138 21 := ⟨⟨Try.f138, _, by kernel_rfl, by kernel_rfl, rfl, by kernel_rfl, by kernel_rfl, rfl⟩, by kernel_rfl⟩

/-- slices.ContainsFunc[[]sordine/api.Rex,sordine/api.Rex] -/
def c140 : ACode :=
 (.seq (.ops [⟨some 4, none, .prim (.mov (.const (Value.bool false)))⟩])
 (.seq (.ops [⟨some 5, none, .prim (.mov (.tmp 0))⟩,
 ⟨some 6, none, .prim (.mov (.tmp 1))⟩,
 ⟨some 7, none, .call (.func 144) [(.tmp 5), (.tmp 6)]⟩,
 ⟨some 8, none, .prim (.bin false .geq (.tmp 7) (.const (Value.int IntKind.i64 0)))⟩,
 ⟨some 4, none, .prim (.mov (.tmp 8))⟩])
 .ret))
def o140 : List Tmp := []
def r140 : List RV := [.tmp 4]
theorem t140 : Text Try.prog 140 o140 c140 r140 9 := ⟨⟨Try.f140, _, by kernel_rfl, by kernel_rfl, rfl, by kernel_rfl, by kernel_rfl, rfl⟩, by kernel_rfl⟩

/-- sordine/rex.Is$1 -/
def c141 : ACode :=
 (.seq (.ops [⟨some 1, none, .prim (.boxr (.tmp 0))⟩,
 ⟨some 2, none, .prim (.mov (.const (Value.bool false)))⟩])
 (.seq (.ops [⟨some 3, none, .prim (.load 6 true (.tmp 1))⟩,
 ⟨some 4, none, .call (.func 127) [(.tmp 3)]⟩,
 ⟨some 5, none, .prim (.un .not (.tmp 4))⟩,
 ⟨some 2, none, .prim (.mov (.tmp 5))⟩])
 .ret))
def o141 : List Tmp := []
def r141 : List RV := [.tmp 2]
theorem t141 : Text Try.prog 141 o141 c141 r141 6 := ⟨⟨Try.f141, _, by kernel_rfl, by kernel_rfl, rfl, by kernel_rfl, by kernel_rfl, rfl⟩, by kernel_rfl⟩

/-- (*sordine/rex.parser).atom -/
def c142 : ACode :=
 (.seq (.ops [⟨some 4, none, .prim (.allocm [.pl (.int .i64 0), .pl (.int .u64 0), .pl (.int .u64 0), .pl (.int .u64 0), .pl (.int .u64 0), .nils])⟩])
 (.seq (.ops [⟨some 7, none, .prim (.build [.pl (.int .i64 0), .pl (.int .u64 0), .pl (.int .u64 0), .pl (.int .u64 0), .pl (.int .u64 0), .nils] [(0, 1, (.const (Value.int IntKind.i64 1)))])⟩,
 ⟨some 5, none, .prim (.allocm [.pl (.int .i64 0), .pl (.int .u64 0), .pl (.int .u64 0), .pl (.int .u64 0), .pl (.int .u64 0), .nils])⟩,
 ⟨none, none, .prim (.store 6 (.tmp 5) (.tmp 7))⟩])
 (.seq (.seq (.ops [⟨some 8, none, .prim (.mov (.tmp 0))⟩,
 ⟨some 9, none, .call (.func 145) [(.tmp 8)]⟩,
 ⟨some 6, none, .prim (.mov (.tmp 9))⟩])
 (.seq (.ops [⟨some 10, none, .prim (.mov (.tmp 6))⟩])
 (.block 0 (.seq (.ops [⟨some 27, none, .prim (.bin false .eql (.tmp 10) (.const (Value.int IntKind.u8 40)))⟩,
 ⟨some 26, none, .prim (.mov (.tmp 27))⟩])
 (.cond (.tmp 26)
 (.seq (.ops [⟨some 28, none, .prim (.mov (.tmp 0))⟩,
 ⟨some 29, none, .prim (.mov (.tmp 0))⟩,
 ⟨some 30, none, .prim (.nilc (.tmp 29))⟩,
 ⟨some 31, none, .prim (.fadr 2 (.tmp 30))⟩,
 ⟨some 32, none, .prim (.load 1 false (.tmp 31))⟩,
 ⟨some 33, none, .prim (.mov (.tmp 32))⟩,
 ⟨some 34, (some (33, false)), .prim (.mov (.tmp 1))⟩,
 ⟨some 35, (some (33, false)), .prim (.bin false .eql (.tmp 34) (.const (Value.int IntKind.i64 8)))⟩,
 ⟨some 36, none, .prim (.pick (.tmp 33) (.const (Value.bool true)) (.tmp 35))⟩,
 ⟨some 37, none, .prim (.nilc (.tmp 28))⟩,
 ⟨some 38, none, .prim (.fadr 2 (.tmp 37))⟩,
 ⟨none, none, .prim (.store 1 (.tmp 38) (.tmp 36))⟩])
 (.seq (.seq (.ops [⟨some 39, none, .prim (.mov (.tmp 0))⟩,
 ⟨some 40, none, .prim (.nilc (.tmp 39))⟩,
 ⟨some 41, none, .prim (.fadr 2 (.tmp 40))⟩,
 ⟨some 42, none, .prim (.load 1 false (.tmp 41))⟩,
 ⟨some 43, none, .prim (.un .not (.tmp 42))⟩])
 (.cond (.tmp 43)
 (.ops [⟨some 44, none, .prim (.mov (.tmp 0))⟩,
 ⟨some 45, none, .prim (.mov (.tmp 1))⟩,
 ⟨some 46, none, .prim (.bin false .add (.tmp 45) (.const (Value.int IntKind.i64 1)))⟩,
 ⟨some 47, none, .call (.func 95) [(.tmp 44), (.tmp 46)]⟩,
 ⟨none, none, .prim (.store 6 (.tmp 5) (.tmp 47))⟩])
 .skip))
 (.ops [⟨some 48, none, .prim (.mov (.tmp 0))⟩,
 ⟨some 49, none, .prim (.mov (.tmp 0))⟩,
 ⟨some 50, none, .call (.func 118) [(.tmp 49), (.const (Value.int IntKind.u8 41))]⟩,
 ⟨some 51, none, .prim (.un .not (.tmp 50))⟩,
 ⟨some 52, none, .prim (.mov (.tmp 51))⟩,
 ⟨some 53, (some (52, false)), .prim (.mov (.tmp 0))⟩,
 ⟨some 54, (some (52, false)), .prim (.nilc (.tmp 53))⟩,
 ⟨some 55, (some (52, false)), .prim (.fadr 2 (.tmp 54))⟩,
 ⟨some 56, (some (52, false)), .prim (.load 1 false (.tmp 55))⟩,
 ⟨some 57, none, .prim (.pick (.tmp 52) (.const (Value.bool true)) (.tmp 56))⟩,
 ⟨some 58, none, .prim (.nilc (.tmp 48))⟩,
 ⟨some 59, none, .prim (.fadr 2 (.tmp 58))⟩,
 ⟨none, none, .prim (.store 1 (.tmp 59) (.tmp 57))⟩])))
 (.seq (.ops [⟨some 61, none, .prim (.bin false .eql (.tmp 10) (.const (Value.int IntKind.u8 91)))⟩,
 ⟨some 60, none, .prim (.mov (.tmp 61))⟩])
 (.cond (.tmp 60)
 (.ops [⟨some 62, none, .prim (.mov (.tmp 0))⟩,
 ⟨some 63, none, .call (.func 146) [(.tmp 62)]⟩,
 ⟨some 64, none, .prim (.fadr 1 (.tmp 5))⟩,
 ⟨none, none, .prim (.store 4 (.tmp 64) (.tmp 63))⟩])
 (.seq (.ops [⟨some 66, none, .prim (.bin false .eql (.tmp 10) (.const (Value.int IntKind.u8 46)))⟩,
 ⟨some 65, none, .prim (.mov (.tmp 66))⟩])
 (.cond (.tmp 65)
 (.ops [⟨some 67, none, .prim (.fadr 1 (.tmp 5))⟩,
 ⟨some 68, none, .prim (.load 4 true (.tmp 67))⟩,
 ⟨some 69, none, .call (.func 147) [(.tmp 68)]⟩,
 ⟨some 70, none, .prim (.fadr 1 (.tmp 5))⟩,
 ⟨none, none, .prim (.store 4 (.tmp 70) (.tmp 69))⟩])
 (.seq (.ops [⟨some 72, none, .prim (.bin false .eql (.tmp 10) (.const (Value.int IntKind.u8 92)))⟩,
 ⟨some 71, none, .prim (.mov (.tmp 72))⟩])
 (.cond (.tmp 71)
 (.ops [⟨some 73, none, .prim (.fadr 1 (.tmp 5))⟩,
 ⟨some 74, none, .prim (.mov (.tmp 0))⟩,
 ⟨some 75, none, .call (.func 149) [(.tmp 74)]⟩,
 ⟨some 76, none, .call (.func 148) [(.tmp 73), (.tmp 75)]⟩])
 (.seq (.ops [⟨some 11, none, .prim (.mov (.tmp 0))⟩,
 ⟨some 12, none, .prim (.mov (.tmp 0))⟩,
 ⟨some 13, none, .prim (.nilc (.tmp 12))⟩,
 ⟨some 14, none, .prim (.fadr 2 (.tmp 13))⟩,
 ⟨some 15, none, .prim (.load 1 false (.tmp 14))⟩,
 ⟨some 16, none, .prim (.mov (.tmp 15))⟩,
 ⟨some 17, (some (16, false)), .prim (.mov (.tmp 6))⟩,
 ⟨some 18, (some (16, false)), .call (.func 150) [(.const (Value.string (ByteArray.mk #[42, 43, 63, 93]))), (.tmp 17)]⟩,
 ⟨some 19, (some (16, false)), .prim (.bin false .geq (.tmp 18) (.const (Value.int IntKind.i64 0)))⟩,
 ⟨some 20, none, .prim (.pick (.tmp 16) (.const (Value.bool true)) (.tmp 19))⟩,
 ⟨some 21, none, .prim (.nilc (.tmp 11))⟩,
 ⟨some 22, none, .prim (.fadr 2 (.tmp 21))⟩,
 ⟨none, none, .prim (.store 1 (.tmp 22) (.tmp 20))⟩])
 (.ops [⟨some 23, none, .prim (.fadr 1 (.tmp 5))⟩,
 ⟨some 24, none, .prim (.mov (.tmp 6))⟩,
 ⟨some 25, none, .call (.func 148) [(.tmp 23), (.tmp 24)]⟩])))))))))))))
 (.seq (.ops [⟨some 77, none, .prim (.load 6 true (.tmp 5))⟩,
 ⟨none, none, .prim (.store 6 (.tmp 4) (.tmp 77))⟩])
 .ret))))
def o142 : List Tmp := [4, 5]
def r142 : List RV := [.cell 4 6 true]
theorem t142 : Text Try.prog 142 o142 c142 r142 78 := ⟨⟨Try.f142, _, by kernel_rfl, by kernel_rfl, rfl, by kernel_rfl, by kernel_rfl, rfl⟩, by kernel_rfl⟩

/-- (*sordine/sordineref5.parser).atom -/
def c143 : ACode :=
 (.seq (.ops [⟨some 2, none, .prim (.allocm [.pl (.int .i64 0), .pl (.int .u64 0), .pl (.int .u64 0), .pl (.int .u64 0), .pl (.int .u64 0), .nils])⟩])
 (.seq (.draw [⟨⟨some 5, none, .prim (.mov (.tmp 0))⟩, [], false, 0, 0⟩,
 ⟨⟨some 6, none, .prim (.nilc (.tmp 5))⟩, [0], false, 0, 0⟩,
 ⟨⟨some 7, none, .prim (.fadr 0 (.tmp 6))⟩, [0, 1], false, 0, 0⟩,
 ⟨⟨some 8, none, .prim (.load 1 false (.tmp 7))⟩, [0, 1, 2], false, 0, 0⟩,
 ⟨⟨some 9, none, .prim (.mov (.tmp 0))⟩, [], false, 0, 0⟩,
 ⟨⟨some 10, none, .prim (.nilc (.tmp 9))⟩, [4], false, 0, 0⟩,
 ⟨⟨some 11, none, .prim (.fadr 1 (.tmp 10))⟩, [4, 5], false, 0, 0⟩,
 ⟨⟨some 12, none, .prim (.load 1 false (.tmp 11))⟩, [4, 5, 6], false, 0, 0⟩,
 ⟨⟨some 13, none, .prim (.idxs (.tmp 8) (.tmp 12))⟩, [0, 1, 2, 3, 4, 5, 6, 7], false, 0, 0⟩,
 ⟨⟨some 3, none, .prim (.mov (.tmp 13))⟩, [0, 1, 2, 3, 4, 5, 6, 7, 8], false, 0, 0⟩])
 (.seq (.ops [⟨some 14, none, .prim (.mov (.tmp 0))⟩,
 ⟨some 15, none, .prim (.nilc (.tmp 14))⟩,
 ⟨some 16, none, .prim (.fadr 1 (.tmp 15))⟩,
 ⟨some 17, none, .prim (.load 1 false (.tmp 16))⟩,
 ⟨some 18, none, .prim (.bin false .add (.tmp 17) (.const (Value.int IntKind.i64 1)))⟩,
 ⟨some 19, none, .prim (.nilc (.tmp 14))⟩,
 ⟨some 20, none, .prim (.fadr 1 (.tmp 19))⟩,
 ⟨none, none, .prim (.store 1 (.tmp 20) (.tmp 18))⟩])
 (.seq (.block 0 (.seq (.ops [⟨some 22, none, .prim (.mov (.tmp 3))⟩,
 ⟨some 23, none, .prim (.bin false .eql (.tmp 22) (.const (Value.int IntKind.u8 46)))⟩,
 ⟨some 21, none, .prim (.mov (.tmp 23))⟩])
 (.cond (.tmp 21)
 (.seq (.ops [⟨some 24, none, .prim (.build [.pl (.int .u64 0), .pl (.int .u64 0), .pl (.int .u64 0), .pl (.int .u64 0)] [(0, 1, (.const (Value.int IntKind.u64 18446744073709551615))), (1, 1, (.const (Value.int IntKind.u64 18446744073709551615))), (2, 1, (.const (Value.int IntKind.u64 18446744073709551615))), (3, 1, (.const (Value.int IntKind.u64 18446744073709551615)))])⟩,
 ⟨some 25, none, .prim (.build [.pl (.int .i64 0), .pl (.int .u64 0), .pl (.int .u64 0), .pl (.int .u64 0), .pl (.int .u64 0), .nils] [(0, 1, (.const (Value.int IntKind.i64 1))), (1, 4, (.tmp 24))])⟩,
 ⟨none, none, .prim (.store 6 (.tmp 2) (.tmp 25))⟩])
 .ret)
 (.seq (.ops [⟨some 27, none, .prim (.mov (.tmp 3))⟩,
 ⟨some 28, none, .prim (.bin false .eql (.tmp 27) (.const (Value.int IntKind.u8 92)))⟩,
 ⟨some 26, none, .prim (.mov (.tmp 28))⟩])
 (.cond (.tmp 26)
 (.seq (.seq (.draw [⟨⟨some 29, none, .prim (.mov (.tmp 0))⟩, [], false, 0, 0⟩,
 ⟨⟨some 30, none, .call (.func 120) [(.tmp 29)]⟩, [0], true, 0, 0⟩,
 ⟨⟨some 31, none, .prim (.un .not (.tmp 30))⟩, [0, 1], false, 1, 1⟩,
 ⟨⟨some 32, none, .prim (.mov (.tmp 31))⟩, [0, 1, 2], false, 1, 1⟩,
 ⟨⟨some 33, (some (32, false)), .prim (.mov (.tmp 0))⟩, [0, 1, 2, 3], false, 1, 1⟩,
 ⟨⟨some 34, (some (32, false)), .prim (.nilc (.tmp 33))⟩, [0, 1, 2, 3, 4], false, 1, 1⟩,
 ⟨⟨some 35, (some (32, false)), .prim (.fadr 0 (.tmp 34))⟩, [0, 1, 2, 3, 4, 5], false, 1, 1⟩,
 ⟨⟨some 36, (some (32, false)), .prim (.load 1 false (.tmp 35))⟩, [0, 1, 2, 3, 4, 5, 6], false, 1, 1⟩,
 ⟨⟨some 37, (some (32, false)), .prim (.mov (.tmp 0))⟩, [0, 1, 2, 3], false, 1, 1⟩,
 ⟨⟨some 38, (some (32, false)), .prim (.nilc (.tmp 37))⟩, [0, 1, 2, 3, 8], false, 1, 1⟩,
 ⟨⟨some 39, (some (32, false)), .prim (.fadr 1 (.tmp 38))⟩, [0, 1, 2, 3, 8, 9], false, 1, 1⟩,
 ⟨⟨some 40, (some (32, false)), .prim (.load 1 false (.tmp 39))⟩, [0, 1, 2, 3, 8, 9, 10], false, 1, 1⟩,
 ⟨⟨some 41, (some (32, false)), .prim (.idxs (.tmp 36) (.tmp 40))⟩, [0, 1, 2, 3, 4, 5, 6, 7, 8, 9, 10, 11], false, 1, 1⟩,
 ⟨⟨some 42, (some (32, false)), .call (.func 151) [(.tmp 41)]⟩, [0, 1, 2, 3, 4, 5, 6, 7, 8, 9, 10, 11, 12], true, 0, 0⟩,
 ⟨⟨some 43, (some (32, false)), .prim (.un .not (.tmp 42))⟩, [0, 1, 2, 3, 4, 5, 6, 7, 8, 9, 10, 11, 12, 13], false, 2, 2⟩,
 ⟨⟨some 44, none, .prim (.pick (.tmp 32) (.const (Value.bool true)) (.tmp 43))⟩, [0, 1, 2, 3, 4, 5, 6, 7, 8, 9, 10, 11, 12, 13, 14], false, 2, 2⟩])
 (.cond (.tmp 44)
 (.seq (.ops [⟨some 45, none, .prim (.mov (.tmp 0))⟩,
 ⟨some 46, none, .call (.func 152) [(.tmp 45)]⟩])
 (.seq (.ops [⟨some 47, none, .prim (.build [.pl (.int .i64 0), .pl (.int .u64 0), .pl (.int .u64 0), .pl (.int .u64 0), .pl (.int .u64 0), .nils] [])⟩,
 ⟨none, none, .prim (.store 6 (.tmp 2) (.tmp 47))⟩])
 .ret))
 .skip))
 (.seq (.ops [⟨some 48, none, .prim (.mov (.tmp 0))⟩,
 ⟨some 49, none, .prim (.nilc (.tmp 48))⟩,
 ⟨some 50, none, .prim (.fadr 1 (.tmp 49))⟩,
 ⟨some 51, none, .prim (.load 1 false (.tmp 50))⟩,
 ⟨some 52, none, .prim (.bin false .add (.tmp 51) (.const (Value.int IntKind.i64 1)))⟩,
 ⟨some 53, none, .prim (.nilc (.tmp 48))⟩,
 ⟨some 54, none, .prim (.fadr 1 (.tmp 53))⟩,
 ⟨none, none, .prim (.store 1 (.tmp 54) (.tmp 52))⟩])
 (.seq (.draw [⟨⟨some 55, none, .prim (.mov (.tmp 0))⟩, [], false, 0, 0⟩,
 ⟨⟨some 56, none, .prim (.nilc (.tmp 55))⟩, [0], false, 0, 0⟩,
 ⟨⟨some 57, none, .prim (.fadr 0 (.tmp 56))⟩, [0, 1], false, 0, 0⟩,
 ⟨⟨some 58, none, .prim (.load 1 false (.tmp 57))⟩, [0, 1, 2], false, 0, 0⟩,
 ⟨⟨some 59, none, .prim (.mov (.tmp 0))⟩, [], false, 0, 0⟩,
 ⟨⟨some 60, none, .prim (.nilc (.tmp 59))⟩, [4], false, 0, 0⟩,
 ⟨⟨some 61, none, .prim (.fadr 1 (.tmp 60))⟩, [4, 5], false, 0, 0⟩,
 ⟨⟨some 62, none, .prim (.load 1 false (.tmp 61))⟩, [4, 5, 6], false, 0, 0⟩,
 ⟨⟨some 63, none, .prim (.bin false .sub (.tmp 62) (.const (Value.int IntKind.i64 1)))⟩, [4, 5, 6, 7], false, 0, 0⟩,
 ⟨⟨some 64, none, .prim (.idxs (.tmp 58) (.tmp 63))⟩, [0, 1, 2, 3, 4, 5, 6, 7, 8], false, 0, 0⟩,
 ⟨⟨some 65, none, .call (.func 153) [(.tmp 64)]⟩, [0, 1, 2, 3, 4, 5, 6, 7, 8, 9], true, 0, 0⟩,
 ⟨⟨some 66, none, .prim (.build [.pl (.int .i64 0), .pl (.int .u64 0), .pl (.int .u64 0), .pl (.int .u64 0), .pl (.int .u64 0), .nils] [(0, 1, (.const (Value.int IntKind.i64 1))), (1, 4, (.tmp 65))])⟩, [0, 1, 2, 3, 4, 5, 6, 7, 8, 9, 10], false, 1, 1⟩,
 ⟨⟨none, none, .prim (.store 6 (.tmp 2) (.tmp 66))⟩, [0, 1, 2, 3, 4, 5, 6, 7, 8, 9, 10, 11], true, 0, 0⟩])
 .ret)))
 (.seq (.ops [⟨some 68, none, .prim (.mov (.tmp 3))⟩,
 ⟨some 69, none, .prim (.bin false .eql (.tmp 68) (.const (Value.int IntKind.u8 40)))⟩,
 ⟨some 67, none, .prim (.mov (.tmp 69))⟩])
 (.cond (.tmp 67)
 (.seq (.ops [⟨some 70, none, .prim (.mov (.tmp 0))⟩,
 ⟨some 71, none, .prim (.nilc (.tmp 70))⟩,
 ⟨some 72, none, .prim (.fadr 2 (.tmp 71))⟩,
 ⟨some 73, none, .prim (.load 1 false (.tmp 72))⟩,
 ⟨some 74, none, .prim (.bin false .add (.tmp 73) (.const (Value.int IntKind.i64 1)))⟩,
 ⟨some 75, none, .prim (.nilc (.tmp 70))⟩,
 ⟨some 76, none, .prim (.fadr 2 (.tmp 75))⟩,
 ⟨none, none, .prim (.store 1 (.tmp 76) (.tmp 74))⟩])
 (.seq (.seq (.ops [⟨some 77, none, .prim (.mov (.tmp 0))⟩,
 ⟨some 78, none, .prim (.nilc (.tmp 77))⟩,
 ⟨some 79, none, .prim (.fadr 2 (.tmp 78))⟩,
 ⟨some 80, none, .prim (.load 1 false (.tmp 79))⟩,
 ⟨some 81, none, .prim (.bin false .gtr (.tmp 80) (.const (Value.int IntKind.i64 8)))⟩])
 (.cond (.tmp 81)
 (.seq (.ops [⟨some 82, none, .prim (.mov (.tmp 0))⟩,
 ⟨some 83, none, .call (.func 152) [(.tmp 82)]⟩])
 (.seq (.ops [⟨some 84, none, .prim (.build [.pl (.int .i64 0), .pl (.int .u64 0), .pl (.int .u64 0), .pl (.int .u64 0), .pl (.int .u64 0), .nils] [])⟩,
 ⟨none, none, .prim (.store 6 (.tmp 2) (.tmp 84))⟩])
 .ret))
 .skip))
 (.seq (.ops [⟨some 85, none, .prim (.mov (.tmp 0))⟩,
 ⟨some 86, none, .call (.func 96) [(.tmp 85)]⟩,
 ⟨some 4, none, .fresh 6 4 (.tmp 86)⟩])
 (.seq (.seq (.draw [⟨⟨some 87, none, .prim (.mov (.tmp 0))⟩, [], false, 0, 0⟩,
 ⟨⟨some 88, none, .call (.func 120) [(.tmp 87)]⟩, [0], true, 0, 0⟩,
 ⟨⟨some 89, none, .prim (.un .not (.tmp 88))⟩, [0, 1], false, 1, 1⟩,
 ⟨⟨some 90, none, .prim (.mov (.tmp 89))⟩, [0, 1, 2], false, 1, 1⟩,
 ⟨⟨some 91, (some (90, false)), .prim (.mov (.tmp 0))⟩, [0, 1, 2, 3], false, 1, 1⟩,
 ⟨⟨some 92, (some (90, false)), .prim (.nilc (.tmp 91))⟩, [0, 1, 2, 3, 4], false, 1, 1⟩,
 ⟨⟨some 93, (some (90, false)), .prim (.fadr 0 (.tmp 92))⟩, [0, 1, 2, 3, 4, 5], false, 1, 1⟩,
 ⟨⟨some 94, (some (90, false)), .prim (.load 1 false (.tmp 93))⟩, [0, 1, 2, 3, 4, 5, 6], false, 1, 1⟩,
 ⟨⟨some 95, (some (90, false)), .prim (.mov (.tmp 0))⟩, [0, 1, 2, 3], false, 1, 1⟩,
 ⟨⟨some 96, (some (90, false)), .prim (.nilc (.tmp 95))⟩, [0, 1, 2, 3, 8], false, 1, 1⟩,
 ⟨⟨some 97, (some (90, false)), .prim (.fadr 1 (.tmp 96))⟩, [0, 1, 2, 3, 8, 9], false, 1, 1⟩,
 ⟨⟨some 98, (some (90, false)), .prim (.load 1 false (.tmp 97))⟩, [0, 1, 2, 3, 8, 9, 10], false, 1, 1⟩,
 ⟨⟨some 99, (some (90, false)), .prim (.idxs (.tmp 94) (.tmp 98))⟩, [0, 1, 2, 3, 4, 5, 6, 7, 8, 9, 10, 11], false, 1, 1⟩,
 ⟨⟨some 100, (some (90, false)), .prim (.bin false .neq (.tmp 99) (.const (Value.int IntKind.u8 41)))⟩, [0, 1, 2, 3, 4, 5, 6, 7, 8, 9, 10, 11, 12], false, 1, 1⟩,
 ⟨⟨some 101, none, .prim (.pick (.tmp 90) (.const (Value.bool true)) (.tmp 100))⟩, [0, 1, 2, 3, 4, 5, 6, 7, 8, 9, 10, 11, 12, 13], false, 1, 1⟩])
 (.cond (.tmp 101)
 (.seq (.ops [⟨some 102, none, .prim (.mov (.tmp 0))⟩,
 ⟨some 103, none, .call (.func 152) [(.tmp 102)]⟩])
 (.seq (.ops [⟨some 104, none, .prim (.build [.pl (.int .i64 0), .pl (.int .u64 0), .pl (.int .u64 0), .pl (.int .u64 0), .pl (.int .u64 0), .nils] [])⟩,
 ⟨none, none, .prim (.store 6 (.tmp 2) (.tmp 104))⟩])
 .ret))
 .skip))
 (.seq (.ops [⟨some 105, none, .prim (.mov (.tmp 0))⟩,
 ⟨some 106, none, .prim (.nilc (.tmp 105))⟩,
 ⟨some 107, none, .prim (.fadr 1 (.tmp 106))⟩,
 ⟨some 108, none, .prim (.load 1 false (.tmp 107))⟩,
 ⟨some 109, none, .prim (.bin false .add (.tmp 108) (.const (Value.int IntKind.i64 1)))⟩,
 ⟨some 110, none, .prim (.nilc (.tmp 105))⟩,
 ⟨some 111, none, .prim (.fadr 1 (.tmp 110))⟩,
 ⟨none, none, .prim (.store 1 (.tmp 111) (.tmp 109))⟩])
 (.seq (.ops [⟨some 112, none, .prim (.mov (.tmp 0))⟩,
 ⟨some 113, none, .prim (.nilc (.tmp 112))⟩,
 ⟨some 114, none, .prim (.fadr 2 (.tmp 113))⟩,
 ⟨some 115, none, .prim (.load 1 false (.tmp 114))⟩,
 ⟨some 116, none, .prim (.bin false .sub (.tmp 115) (.const (Value.int IntKind.i64 1)))⟩,
 ⟨some 117, none, .prim (.nilc (.tmp 112))⟩,
 ⟨some 118, none, .prim (.fadr 2 (.tmp 117))⟩,
 ⟨none, none, .prim (.store 1 (.tmp 118) (.tmp 116))⟩])
 (.seq (.ops [⟨some 119, none, .prim (.load 6 true (.tmp 4))⟩,
 ⟨none, none, .prim (.store 6 (.tmp 2) (.tmp 119))⟩])
 .ret)))))))
 (.seq (.ops [⟨some 121, none, .prim (.mov (.tmp 3))⟩,
 ⟨some 122, none, .prim (.bin false .eql (.tmp 121) (.const (Value.int IntKind.u8 91)))⟩,
 ⟨some 120, none, .prim (.mov (.tmp 122))⟩])
 (.cond (.tmp 120)
 (.seq (.ops [⟨some 123, none, .prim (.mov (.tmp 0))⟩,
 ⟨some 124, none, .call (.func 154) [(.tmp 123)]⟩,
 ⟨none, none, .prim (.store 6 (.tmp 2) (.tmp 124))⟩])
 .ret)
 (.seq (.ops [⟨some 126, none, .prim (.mov (.tmp 3))⟩,
 ⟨some 127, none, .call (.func 155) [(.tmp 126)]⟩,
 ⟨some 125, none, .prim (.mov (.tmp 127))⟩])
 (.cond (.tmp 125)
 (.seq (.ops [⟨some 128, none, .prim (.mov (.tmp 0))⟩,
 ⟨some 129, none, .call (.func 152) [(.tmp 128)]⟩])
 (.seq (.ops [⟨some 130, none, .prim (.build [.pl (.int .i64 0), .pl (.int .u64 0), .pl (.int .u64 0), .pl (.int .u64 0), .pl (.int .u64 0), .nils] [])⟩,
 ⟨none, none, .prim (.store 6 (.tmp 2) (.tmp 130))⟩])
 .ret))
 .skip)))))))))))
 (.seq (.ops [⟨some 131, none, .prim (.mov (.tmp 3))⟩,
 ⟨some 132, none, .call (.func 153) [(.tmp 131)]⟩,
 ⟨some 133, none, .prim (.build [.pl (.int .i64 0), .pl (.int .u64 0), .pl (.int .u64 0), .pl (.int .u64 0), .pl (.int .u64 0), .nils] [(0, 1, (.const (Value.int IntKind.i64 1))), (1, 4, (.tmp 132))])⟩,
 ⟨none, none, .prim (.store 6 (.tmp 2) (.tmp 133))⟩])
 .ret)))))
def o143 : List Tmp := [2]
def r143 : List RV := [.cell 2 6 true]
theorem t143 : Text Try.prog 143 o143 c143 r143 134 := ⟨⟨Try.f143, _, by kernel_rfl, by kernel_rfl, rfl, by kernel_rfl, by kernel_rfl, rfl⟩, by kernel_rfl⟩

/-- slices.IndexFunc[[]sordine/api.Rex,sordine/api.Rex] -/
def c144 : ACode :=
 (.seq (.ops [⟨some 4, none, .prim (.mov (.const (Value.int IntKind.i64 0)))⟩])
 (.seq (.seq (.ops [⟨some 6, none, .prim (.mov (.tmp 0))⟩,
 ⟨some 7, none, .prim (.lenv (.tmp 6))⟩,
 ⟨some 8, none, .prim (.mov (.const (Value.int IntKind.i64 0)))⟩])
 (.block 0 (.loop [2, 3, 4, 5, 6, 9, 10, 11, 12, 13, 14, 15, 16, 17, 18] (.seq (.ops [⟨some 9, none, .prim (.bin false .lss (.tmp 8) (.tmp 7))⟩])
 (.seq (.cond (.tmp 9)
 .skip
 (.exit 0))
 (.seq (.block 1 (.seq (.ops [⟨some 10, none, .prim (.mov (.tmp 8))⟩,
 ⟨some 5, none, .prim (.mov (.tmp 10))⟩])
 (.seq (.ops [⟨some 11, none, .prim (.mov (.tmp 1))⟩,
 ⟨some 12, none, .prim (.mov (.tmp 0))⟩,
 ⟨some 13, none, .prim (.mov (.tmp 5))⟩,
 ⟨some 14, none, .prim (.iadrs 6 (.tmp 12) (.tmp 13))⟩,
 ⟨some 15, none, .prim (.load 6 true (.tmp 14))⟩,
 ⟨some 16, none, .call (.tmp 11) [(.tmp 15)]⟩])
 (.cond (.tmp 16)
 (.seq (.ops [⟨some 17, none, .prim (.mov (.tmp 5))⟩,
 ⟨some 4, none, .prim (.mov (.tmp 17))⟩])
 .ret)
 .skip))))
 (.ops [⟨some 18, none, .prim (.bin false .add (.tmp 8) (.const (Value.int IntKind.i64 1)))⟩,
 ⟨some 8, none, .prim (.mov (.tmp 18))⟩])))))))
 (.seq (.ops [⟨some 4, none, .prim (.mov (.const (Value.int IntKind.i64 (-1))))⟩])
 .ret)))
def o144 : List Tmp := []
def r144 : List RV := [.tmp 4]
theorem t144 : Text Try.prog 144 o144 c144 r144 19 := ⟨⟨Try.f144, _, by kernel_rfl, by kernel_rfl, rfl, by kernel_rfl, by kernel_rfl, rfl⟩, by kernel_rfl⟩

/-- (*sordine/rex.parser).byte -/
def c145 : ACode :=
 (.seq (.ops [⟨some 2, none, .prim (.mov (.const (Value.int IntKind.u8 0)))⟩])
 (.seq (.seq (.ops [⟨some 3, none, .prim (.mov (.tmp 0))⟩,
 ⟨some 4, none, .call (.func 132) [(.tmp 3)]⟩])
 (.cond (.tmp 4)
 (.seq (.ops [⟨some 5, none, .prim (.mov (.tmp 0))⟩,
 ⟨some 6, none, .prim (.nilc (.tmp 5))⟩,
 ⟨some 7, none, .prim (.fadr 2 (.tmp 6))⟩,
 ⟨none, none, .prim (.store 1 (.tmp 7) (.const (Value.bool true)))⟩])
 (.seq (.ops [⟨some 2, none, .prim (.mov (.const (Value.int IntKind.u8 0)))⟩])
 .ret))
 .skip))
 (.seq (.ops [⟨some 8, none, .prim (.mov (.tmp 0))⟩,
 ⟨some 9, none, .prim (.nilc (.tmp 8))⟩,
 ⟨some 10, none, .prim (.fadr 1 (.tmp 9))⟩,
 ⟨some 11, none, .prim (.load 1 false (.tmp 10))⟩,
 ⟨some 12, none, .prim (.bin false .add (.tmp 11) (.const (Value.int IntKind.i64 1)))⟩,
 ⟨some 13, none, .prim (.nilc (.tmp 8))⟩,
 ⟨some 14, none, .prim (.fadr 1 (.tmp 13))⟩,
 ⟨none, none, .prim (.store 1 (.tmp 14) (.tmp 12))⟩])
 (.seq (.draw [⟨⟨some 15, none, .prim (.mov (.tmp 0))⟩, [], false, 0, 0⟩,
 ⟨⟨some 16, none, .prim (.nilc (.tmp 15))⟩, [0], false, 0, 0⟩,
 ⟨⟨some 17, none, .prim (.fadr 0 (.tmp 16))⟩, [0, 1], false, 0, 0⟩,
 ⟨⟨some 18, none, .prim (.load 1 false (.tmp 17))⟩, [0, 1, 2], false, 0, 0⟩,
 ⟨⟨some 19, none, .prim (.mov (.tmp 0))⟩, [], false, 0, 0⟩,
 ⟨⟨some 20, none, .prim (.nilc (.tmp 19))⟩, [4], false, 0, 0⟩,
 ⟨⟨some 21, none, .prim (.fadr 1 (.tmp 20))⟩, [4, 5], false, 0, 0⟩,
 ⟨⟨some 22, none, .prim (.load 1 false (.tmp 21))⟩, [4, 5, 6], false, 0, 0⟩,
 ⟨⟨some 23, none, .prim (.bin false .sub (.tmp 22) (.const (Value.int IntKind.i64 1)))⟩, [4, 5, 6, 7], false, 0, 0⟩,
 ⟨⟨some 24, none, .prim (.idxs (.tmp 18) (.tmp 23))⟩, [0, 1, 2, 3, 4, 5, 6, 7, 8], false, 0, 0⟩,
 ⟨⟨some 2, none, .prim (.mov (.tmp 24))⟩, [0, 1, 2, 3, 4, 5, 6, 7, 8, 9], false, 0, 0⟩])
 .ret))))
def o145 : List Tmp := []
def r145 : List RV := [.tmp 2]
theorem t145 : Text Try.prog 145 o145 c145 r145 25 := ⟨⟨Try.f145, _, by kernel_rfl, by kernel_rfl, rfl, by kernel_rfl, by kernel_rfl, rfl⟩, by kernel_rfl⟩

/-- (*sordine/rex.parser).class -/
def c146 : ACode :=
 (.seq (.ops [⟨some 2, none, .prim (.allocm [.pl (.int .u64 0), .pl (.int .u64 0), .pl (.int .u64 0), .pl (.int .u64 0)])⟩])
 (.seq (.ops [⟨some 3, none, .prim (.allocm [.pl (.int .u64 0), .pl (.int .u64 0), .pl (.int .u64 0), .pl (.int .u64 0)])⟩])
 (.seq (.ops [⟨some 9, none, .prim (.mov (.tmp 0))⟩,
 ⟨some 10, none, .call (.func 118) [(.tmp 9), (.const (Value.int IntKind.u8 94))]⟩,
 ⟨some 4, none, .prim (.mov (.tmp 10))⟩])
 (.seq (.seq (.ops [⟨some 5, none, .prim (.mov (.const (Value.bool true)))⟩])
 (.block 0 (.loop [1, 6, 7, 8, 9, 10, 11, 12, 13, 14, 15, 16, 17, 18, 19, 20, 21, 22, 23, 24, 25, 26, 27, 28, 29, 30, 31, 32, 33, 34, 35, 36, 37, 38, 39, 40, 41, 42, 43, 44, 45, 46, 47, 48, 49, 50, 51, 52, 53, 54, 55, 56, 57, 58, 59, 60, 61, 62, 63, 64, 65, 66, 67] (.seq (.seq (.ops [⟨some 11, none, .prim (.mov (.tmp 5))⟩,
 ⟨some 12, none, .prim (.mov (.tmp 11))⟩,
 ⟨some 13, (some (12, false)), .prim (.mov (.tmp 0))⟩,
 ⟨some 14, (some (12, false)), .call (.func 132) [(.tmp 13)]⟩,
 ⟨some 15, (some (12, false)), .prim (.un .not (.tmp 14))⟩,
 ⟨some 16, (some (12, false)), .prim (.mov (.tmp 15))⟩,
 ⟨some 17, (some (16, true)), .prim (.mov (.tmp 0))⟩,
 ⟨some 18, (some (16, true)), .call (.func 133) [(.tmp 17), (.const (Value.int IntKind.u8 93))]⟩,
 ⟨some 19, (some (16, true)), .prim (.un .not (.tmp 18))⟩,
 ⟨some 20, (some (12, false)), .prim (.pick (.tmp 16) (.tmp 19) (.const (Value.bool false)))⟩,
 ⟨some 21, none, .prim (.pick (.tmp 12) (.const (Value.bool true)) (.tmp 20))⟩])
 (.cond (.tmp 21)
 .skip
 (.exit 0)))
 (.seq (.block 1 (.seq (.ops [⟨some 22, none, .prim (.mov (.tmp 0))⟩,
 ⟨some 23, none, .call (.func 156) [(.tmp 22)]⟩,
 ⟨some 6, none, .prim (.mov (.tmp 23))⟩])
 (.seq (.ops [⟨some 24, none, .prim (.mov (.tmp 6))⟩,
 ⟨some 7, none, .prim (.mov (.tmp 24))⟩])
 (.seq (.seq (.ops [⟨some 25, none, .prim (.mov (.tmp 0))⟩,
 ⟨some 26, none, .call (.func 118) [(.tmp 25), (.const (Value.int IntKind.u8 45))]⟩])
 (.cond (.tmp 26)
 (.ops [⟨some 27, none, .prim (.mov (.tmp 0))⟩,
 ⟨some 28, none, .call (.func 156) [(.tmp 27)]⟩,
 ⟨some 7, none, .prim (.mov (.tmp 28))⟩])
 .skip))
 (.seq (.ops [⟨some 29, none, .prim (.mov (.tmp 0))⟩,
 ⟨some 30, none, .prim (.mov (.tmp 0))⟩,
 ⟨some 31, none, .prim (.nilc (.tmp 30))⟩,
 ⟨some 32, none, .prim (.fadr 2 (.tmp 31))⟩,
 ⟨some 33, none, .prim (.load 1 false (.tmp 32))⟩,
 ⟨some 34, none, .prim (.mov (.tmp 33))⟩,
 ⟨some 35, (some (34, false)), .prim (.mov (.tmp 7))⟩,
 ⟨some 36, (some (34, false)), .prim (.mov (.tmp 6))⟩,
 ⟨some 37, (some (34, false)), .prim (.bin false .lss (.tmp 35) (.tmp 36))⟩,
 ⟨some 38, none, .prim (.pick (.tmp 34) (.const (Value.bool true)) (.tmp 37))⟩,
 ⟨some 39, none, .prim (.nilc (.tmp 29))⟩,
 ⟨some 40, none, .prim (.fadr 2 (.tmp 39))⟩,
 ⟨none, none, .prim (.store 1 (.tmp 40) (.tmp 38))⟩])
 (.seq (.ops [⟨some 41, none, .prim (.mov (.tmp 6))⟩,
 ⟨some 42, none, .prim (.convi .i64 (.tmp 41))⟩,
 ⟨some 8, none, .prim (.mov (.tmp 42))⟩])
 (.block 2 (.loop [1, 5, 6, 9, 10, 11, 12, 13, 14, 15, 16, 17, 18, 19, 20, 21, 22, 23, 24, 25, 26, 27, 28, 29, 30, 31, 32, 33, 34, 35, 36, 37, 38, 39, 40, 41, 42, 43, 44, 45, 46, 47, 48, 49, 50, 51, 52, 53, 54, 55, 56, 57, 58, 59, 60, 61, 62, 63, 64, 65, 66, 67] (.seq (.seq (.ops [⟨some 43, none, .prim (.mov (.tmp 8))⟩,
 ⟨some 44, none, .prim (.mov (.tmp 7))⟩,
 ⟨some 45, none, .prim (.convi .i64 (.tmp 44))⟩,
 ⟨some 46, none, .prim (.bin false .leq (.tmp 43) (.tmp 45))⟩])
 (.cond (.tmp 46)
 .skip
 (.exit 2)))
 (.seq (.block 3 (.ops [⟨some 49, none, .prim (.mov (.tmp 8))⟩,
 ⟨some 50, none, .prim (.convi .u8 (.tmp 49))⟩,
 ⟨some 51, none, .call (.func 148) [(.tmp 3), (.tmp 50)]⟩]))
 (.ops [⟨some 47, none, .prim (.mov (.tmp 8))⟩,
 ⟨some 48, none, .prim (.bin false .add (.tmp 47) (.const (Value.int IntKind.i64 1)))⟩,
 ⟨some 8, none, .prim (.mov (.tmp 48))⟩])))))))))))
 (.ops [⟨some 5, none, .prim (.mov (.const (Value.bool false)))⟩]))))))
 (.seq (.ops [⟨some 52, none, .prim (.mov (.tmp 0))⟩,
 ⟨some 53, none, .prim (.mov (.tmp 0))⟩,
 ⟨some 54, none, .call (.func 118) [(.tmp 53), (.const (Value.int IntKind.u8 93))]⟩,
 ⟨some 55, none, .prim (.un .not (.tmp 54))⟩,
 ⟨some 56, none, .prim (.mov (.tmp 55))⟩,
 ⟨some 57, (some (56, false)), .prim (.mov (.tmp 0))⟩,
 ⟨some 58, (some (56, false)), .prim (.nilc (.tmp 57))⟩,
 ⟨some 59, (some (56, false)), .prim (.fadr 2 (.tmp 58))⟩,
 ⟨some 60, (some (56, false)), .prim (.load 1 false (.tmp 59))⟩,
 ⟨some 61, none, .prim (.pick (.tmp 56) (.const (Value.bool true)) (.tmp 60))⟩,
 ⟨some 62, none, .prim (.nilc (.tmp 52))⟩,
 ⟨some 63, none, .prim (.fadr 2 (.tmp 62))⟩,
 ⟨none, none, .prim (.store 1 (.tmp 63) (.tmp 61))⟩])
 (.seq (.seq (.ops [⟨some 64, none, .prim (.mov (.tmp 4))⟩])
 (.cond (.tmp 64)
 (.seq (.ops [⟨some 65, none, .prim (.load 4 true (.tmp 3))⟩,
 ⟨some 66, none, .call (.func 147) [(.tmp 65)]⟩,
 ⟨none, none, .prim (.store 4 (.tmp 2) (.tmp 66))⟩])
 .ret)
 .skip))
 (.seq (.ops [⟨some 67, none, .prim (.load 4 true (.tmp 3))⟩,
 ⟨none, none, .prim (.store 4 (.tmp 2) (.tmp 67))⟩])
 .ret)))))))
def o146 : List Tmp := [2, 3]
def r146 : List RV := [.cell 2 4 true]
theorem t146 : Text Try.prog 146 o146 c146 r146 68 := ⟨⟨Try.f146, _, by kernel_rfl, by kernel_rfl, rfl, by kernel_rfl, by kernel_rfl, rfl⟩, by kernel_rfl⟩

/-- sordine/rex.turned -/
def c147 : ACode :=
 (.seq (.ops [⟨some 1, none, .prim (.boxm (.tmp 0))⟩,
 ⟨some 2, none, .prim (.allocm [.pl (.int .u64 0), .pl (.int .u64 0), .pl (.int .u64 0), .pl (.int .u64 0)])⟩])
 (.seq (.seq (.ops [⟨some 4, none, .prim (.mov (.const (Value.int IntKind.i64 0)))⟩])
 (.block 0 (.loop [0, 3, 5, 6, 7, 8, 9, 10, 11, 12, 13, 14] (.seq (.ops [⟨some 5, none, .prim (.bin false .lss (.tmp 4) (.const (Value.int IntKind.i64 4)))⟩])
 (.seq (.cond (.tmp 5)
 .skip
 (.exit 0))
 (.seq (.block 1 (.seq (.ops [⟨some 6, none, .prim (.mov (.tmp 4))⟩,
 ⟨some 3, none, .prim (.mov (.tmp 6))⟩])
 (.ops [⟨some 7, none, .prim (.mov (.tmp 3))⟩,
 ⟨some 8, none, .prim (.mov (.tmp 3))⟩,
 ⟨some 9, none, .prim (.iadra 1 4 (.tmp 1) (.tmp 8))⟩,
 ⟨some 10, none, .prim (.load 1 false (.tmp 9))⟩,
 ⟨some 11, none, .prim (.un .xor (.tmp 10))⟩,
 ⟨some 12, none, .prim (.iadra 1 4 (.tmp 1) (.tmp 7))⟩,
 ⟨none, none, .prim (.store 1 (.tmp 12) (.tmp 11))⟩])))
 (.ops [⟨some 13, none, .prim (.bin false .add (.tmp 4) (.const (Value.int IntKind.i64 1)))⟩,
 ⟨some 4, none, .prim (.mov (.tmp 13))⟩])))))))
 (.seq (.ops [⟨some 14, none, .prim (.load 4 true (.tmp 1))⟩,
 ⟨none, none, .prim (.store 4 (.tmp 2) (.tmp 14))⟩])
 .ret)))
def o147 : List Tmp := [1, 2]
def r147 : List RV := [.cell 2 4 true]
theorem t147 : Text Try.prog 147 o147 c147 r147 15 := ⟨⟨Try.f147, _, by kernel_rfl, by kernel_rfl, rfl, by kernel_rfl, by kernel_rfl, rfl⟩, by kernel_rfl⟩

/-- sordine/rex.add -/
def c148 : ACode :=
 (.draw [⟨⟨some 4, none, .prim (.mov (.tmp 0))⟩, [], false, 0, 0⟩,
 ⟨⟨some 5, none, .prim (.mov (.tmp 1))⟩, [], false, 0, 0⟩,
 ⟨⟨some 6, none, .prim (.bin false .quo (.tmp 5) (.const (Value.int IntKind.u8 64)))⟩, [1], false, 0, 0⟩,
 ⟨⟨some 7, none, .prim (.nilc (.tmp 4))⟩, [0], false, 0, 0⟩,
 ⟨⟨some 8, none, .prim (.iadra 1 4 (.tmp 7) (.tmp 6))⟩, [0, 1, 2, 3], false, 0, 0⟩,
 ⟨⟨some 9, none, .prim (.load 1 false (.tmp 8))⟩, [0, 1, 2, 3, 4], false, 0, 0⟩,
 ⟨⟨some 10, none, .prim (.mov (.tmp 1))⟩, [], false, 0, 0⟩,
 ⟨⟨some 11, none, .prim (.bin false .rem (.tmp 10) (.const (Value.int IntKind.u8 64)))⟩, [6], false, 0, 0⟩,
 ⟨⟨some 12, none, .prim (.bin false .shl (.const (Value.int IntKind.u64 1)) (.tmp 11))⟩, [6, 7], false, 0, 0⟩,
 ⟨⟨some 13, none, .prim (.bin false .or (.tmp 9) (.tmp 12))⟩, [0, 1, 2, 3, 4, 5, 6, 7, 8], false, 0, 0⟩,
 ⟨⟨some 14, none, .prim (.nilc (.tmp 4))⟩, [0], false, 0, 0⟩,
 ⟨⟨some 15, none, .prim (.iadra 1 4 (.tmp 14) (.tmp 6))⟩, [0, 1, 2, 3, 4, 5, 6, 7, 8, 9, 10], false, 0, 0⟩,
 ⟨⟨none, none, .prim (.store 1 (.tmp 15) (.tmp 13))⟩, [0, 1, 2, 3, 4, 5, 6, 7, 8, 9, 10, 11], true, 0, 0⟩])
def o148 : List Tmp := []
def r148 : List RV := []
theorem t148 : Text Try.prog 148 o148 c148 r148 16 := ⟨⟨Try.f148, _, by kernel_rfl, by kernel_rfl, rfl, by kernel_rfl, by kernel_rfl, rfl⟩, by kernel_rfl⟩

/-- (*sordine/rex.parser).sign -/
def c149 : ACode :=
 (.seq (.ops [⟨some 2, none, .prim (.mov (.const (Value.int IntKind.u8 0)))⟩])
 (.seq (.ops [⟨some 4, none, .prim (.mov (.tmp 0))⟩,
 ⟨some 5, none, .call (.func 145) [(.tmp 4)]⟩,
 ⟨some 3, none, .prim (.mov (.tmp 5))⟩])
 (.seq (.ops [⟨some 6, none, .prim (.mov (.tmp 0))⟩,
 ⟨some 7, none, .prim (.mov (.tmp 0))⟩,
 ⟨some 8, none, .prim (.nilc (.tmp 7))⟩,
 ⟨some 9, none, .prim (.fadr 2 (.tmp 8))⟩,
 ⟨some 10, none, .prim (.load 1 false (.tmp 9))⟩,
 ⟨some 11, none, .prim (.mov (.tmp 10))⟩,
 ⟨some 12, (some (11, false)), .prim (.mov (.tmp 3))⟩,
 ⟨some 13, (some (11, false)), .call (.func 150) [(.const (Value.string (ByteArray.mk #[124, 42, 43, 63, 40, 41, 91, 93, 46, 92, 94, 45]))), (.tmp 12)]⟩,
 ⟨some 14, (some (11, false)), .prim (.bin false .lss (.tmp 13) (.const (Value.int IntKind.i64 0)))⟩,
 ⟨some 15, none, .prim (.pick (.tmp 11) (.const (Value.bool true)) (.tmp 14))⟩,
 ⟨some 16, none, .prim (.nilc (.tmp 6))⟩,
 ⟨some 17, none, .prim (.fadr 2 (.tmp 16))⟩,
 ⟨none, none, .prim (.store 1 (.tmp 17) (.tmp 15))⟩])
 (.seq (.ops [⟨some 18, none, .prim (.mov (.tmp 3))⟩,
 ⟨some 2, none, .prim (.mov (.tmp 18))⟩])
 .ret))))
def o149 : List Tmp := []
def r149 : List RV := [.tmp 2]
theorem t149 : Text Try.prog 149 o149 c149 r149 19 := ⟨⟨Try.f149, _, by kernel_rfl, by kernel_rfl, rfl, by kernel_rfl, by kernel_rfl, rfl⟩, by kernel_rfl⟩

/-- strings.IndexByte -/
def c150 : ACode :=
 (.seq (.ops [⟨some 4, none, .prim (.mov (.const (Value.int IntKind.i64 0)))⟩])
 (.seq (.ops [⟨some 5, none, .prim (.mov (.tmp 0))⟩,
 ⟨some 6, none, .prim (.mov (.tmp 1))⟩,
 ⟨some 7, none, .call (.func 157) [(.tmp 5), (.tmp 6)]⟩,
 ⟨some 4, none, .prim (.mov (.tmp 7))⟩])
 .ret))
def o150 : List Tmp := []
def r150 : List RV := [.tmp 4]
theorem t150 : Text Try.prog 150 o150 c150 r150 8 := ⟨⟨Try.f150, _, by kernel_rfl, by kernel_rfl, rfl, by kernel_rfl, by kernel_rfl, rfl⟩, by kernel_rfl⟩

/-- sordine/sordineref5.quoted -/
def c151 : ACode :=
 (.seq (.ops [⟨some 2, none, .prim (.mov (.const (Value.bool false)))⟩])
 (.seq (.ops [⟨some 3, none, .prim (.mov (.tmp 0))⟩,
 ⟨some 4, none, .call (.func 155) [(.tmp 3)]⟩,
 ⟨some 5, none, .prim (.mov (.tmp 4))⟩,
 ⟨some 6, (some (5, false)), .prim (.mov (.tmp 0))⟩,
 ⟨some 7, (some (5, false)), .prim (.bin false .eql (.tmp 6) (.const (Value.int IntKind.u8 94)))⟩,
 ⟨some 8, none, .prim (.pick (.tmp 5) (.const (Value.bool true)) (.tmp 7))⟩,
 ⟨some 9, none, .prim (.mov (.tmp 8))⟩,
 ⟨some 10, (some (9, false)), .prim (.mov (.tmp 0))⟩,
 ⟨some 11, (some (9, false)), .prim (.bin false .eql (.tmp 10) (.const (Value.int IntKind.u8 45)))⟩,
 ⟨some 12, none, .prim (.pick (.tmp 9) (.const (Value.bool true)) (.tmp 11))⟩,
 ⟨some 2, none, .prim (.mov (.tmp 12))⟩])
 .ret))
def o151 : List Tmp := []
def r151 : List RV := [.tmp 2]
theorem t151 : Text Try.prog 151 o151 c151 r151 13 := ⟨⟨Try.f151, _, by kernel_rfl, by kernel_rfl, rfl, by kernel_rfl, by kernel_rfl, rfl⟩, by kernel_rfl⟩

/-- (*sordine/sordineref5.parser).fail -/
def c152 : ACode :=
 (.ops [⟨some 2, none, .prim (.mov (.tmp 0))⟩,
 ⟨some 3, none, .prim (.nilc (.tmp 2))⟩,
 ⟨some 4, none, .prim (.fadr 3 (.tmp 3))⟩,
 ⟨none, none, .prim (.store 1 (.tmp 4) (.const (Value.bool true)))⟩])
def o152 : List Tmp := []
def r152 : List RV := []
theorem t152 : Text Try.prog 152 o152 c152 r152 5 := ⟨⟨Try.f152, _, by kernel_rfl, by kernel_rfl, rfl, by kernel_rfl, by kernel_rfl, rfl⟩, by kernel_rfl⟩

/-- sordine/sordineref5.one -/
def c153 : ACode :=
 (.seq (.ops [⟨some 2, none, .prim (.allocm [.pl (.int .u64 0), .pl (.int .u64 0), .pl (.int .u64 0), .pl (.int .u64 0)])⟩])
 (.seq (.ops [⟨some 3, none, .prim (.allocm [.pl (.int .u64 0), .pl (.int .u64 0), .pl (.int .u64 0), .pl (.int .u64 0)])⟩])
 (.seq (.ops [⟨some 4, none, .prim (.mov (.tmp 0))⟩,
 ⟨some 5, none, .prim (.bin false .quo (.tmp 4) (.const (Value.int IntKind.u8 64)))⟩,
 ⟨some 6, none, .prim (.mov (.tmp 0))⟩,
 ⟨some 7, none, .prim (.bin false .rem (.tmp 6) (.const (Value.int IntKind.u8 64)))⟩,
 ⟨some 8, none, .prim (.convi .u64 (.tmp 7))⟩,
 ⟨some 9, none, .prim (.bin false .shl (.const (Value.int IntKind.u64 1)) (.tmp 8))⟩,
 ⟨some 10, none, .prim (.iadra 1 4 (.tmp 3) (.tmp 5))⟩,
 ⟨none, none, .prim (.store 1 (.tmp 10) (.tmp 9))⟩])
 (.seq (.ops [⟨some 11, none, .prim (.load 4 true (.tmp 3))⟩,
 ⟨none, none, .prim (.store 4 (.tmp 2) (.tmp 11))⟩])
 .ret))))
def o153 : List Tmp := [2, 3]
def r153 : List RV := [.cell 2 4 true]
theorem t153 : Text Try.prog 153 o153 c153 r153 12 := ⟨⟨Try.f153, _, by kernel_rfl, by kernel_rfl, rfl, by kernel_rfl, by kernel_rfl, rfl⟩, by kernel_rfl⟩

/-- (*sordine/sordineref5.parser).class -/
def c154 : ACode :=
 (.seq (.ops [⟨some 2, none, .prim (.allocm [.pl (.int .i64 0), .pl (.int .u64 0), .pl (.int .u64 0), .pl (.int .u64 0), .pl (.int .u64 0), .nils])⟩])
 (.seq (.draw [⟨⟨some 10, none, .prim (.mov (.tmp 0))⟩, [], false, 0, 0⟩,
 ⟨⟨some 11, none, .call (.func 120) [(.tmp 10)]⟩, [0], true, 0, 0⟩,
 ⟨⟨some 12, none, .prim (.mov (.tmp 11))⟩, [0, 1], false, 1, 1⟩,
 ⟨⟨some 13, (some (12, true)), .prim (.mov (.tmp 0))⟩, [0, 1, 2], false, 1, 1⟩,
 ⟨⟨some 14, (some (12, true)), .prim (.nilc (.tmp 13))⟩, [0, 1, 2, 3], false, 1, 1⟩,
 ⟨⟨some 15, (some (12, true)), .prim (.fadr 0 (.tmp 14))⟩, [0, 1, 2, 3, 4], false, 1, 1⟩,
 ⟨⟨some 16, (some (12, true)), .prim (.load 1 false (.tmp 15))⟩, [0, 1, 2, 3, 4, 5], false, 1, 1⟩,
 ⟨⟨some 17, (some (12, true)), .prim (.mov (.tmp 0))⟩, [0, 1, 2], false, 1, 1⟩,
 ⟨⟨some 18, (some (12, true)), .prim (.nilc (.tmp 17))⟩, [0, 1, 2, 7], false, 1, 1⟩,
 ⟨⟨some 19, (some (12, true)), .prim (.fadr 1 (.tmp 18))⟩, [0, 1, 2, 7, 8], false, 1, 1⟩,
 ⟨⟨some 20, (some (12, true)), .prim (.load 1 false (.tmp 19))⟩, [0, 1, 2, 7, 8, 9], false, 1, 1⟩,
 ⟨⟨some 21, (some (12, true)), .prim (.idxs (.tmp 16) (.tmp 20))⟩, [0, 1, 2, 3, 4, 5, 6, 7, 8, 9, 10], false, 1, 1⟩,
 ⟨⟨some 22, (some (12, true)), .prim (.bin false .eql (.tmp 21) (.const (Value.int IntKind.u8 94)))⟩, [0, 1, 2, 3, 4, 5, 6, 7, 8, 9, 10, 11], false, 1, 1⟩,
 ⟨⟨some 23, none, .prim (.pick (.tmp 12) (.tmp 22) (.const (Value.bool false)))⟩, [0, 1, 2, 3, 4, 5, 6, 7, 8, 9, 10, 11, 12], false, 1, 1⟩,
 ⟨⟨some 3, none, .prim (.mov (.tmp 23))⟩, [0, 1, 2, 3, 4, 5, 6, 7, 8, 9, 10, 11, 12, 13], false, 1, 1⟩])
 (.seq (.seq (.ops [⟨some 24, none, .prim (.mov (.tmp 3))⟩])
 (.cond (.tmp 24)
 (.ops [⟨some 25, none, .prim (.mov (.tmp 0))⟩,
 ⟨some 26, none, .prim (.nilc (.tmp 25))⟩,
 ⟨some 27, none, .prim (.fadr 1 (.tmp 26))⟩,
 ⟨some 28, none, .prim (.load 1 false (.tmp 27))⟩,
 ⟨some 29, none, .prim (.bin false .add (.tmp 28) (.const (Value.int IntKind.i64 1)))⟩,
 ⟨some 30, none, .prim (.nilc (.tmp 25))⟩,
 ⟨some 31, none, .prim (.fadr 1 (.tmp 30))⟩,
 ⟨none, none, .prim (.store 1 (.tmp 31) (.tmp 29))⟩])
 .skip))
 (.seq (.ops [⟨some 4, none, .prim (.allocm [.pl (.int .u64 0), .pl (.int .u64 0), .pl (.int .u64 0), .pl (.int .u64 0)])⟩])
 (.seq (.ops [⟨some 5, none, .prim (.mov (.const (Value.int IntKind.i64 0)))⟩])
 (.seq (.block 0 (.loop [1, 6, 7, 8, 9, 10, 11, 12, 13, 14, 15, 16, 17, 18, 19, 20, 21, 22, 23, 24, 25, 26, 27, 28, 29, 30, 31, 32, 33, 34, 35, 36, 37, 38, 39, 40, 41, 42, 43, 44, 45, 46, 47, 48, 49, 50, 51, 52, 53, 54, 55, 56, 57, 58, 59, 60, 61, 62, 63, 64, 65, 66, 67, 68, 69, 70, 71, 72, 73, 74, 75, 76, 77, 78, 79, 80, 81, 82, 83, 84, 85, 86, 87, 88, 89, 90, 91, 92, 93, 94, 95, 96, 97, 98, 99, 100, 101, 102, 103, 104, 105, 106, 107, 108, 109, 110, 111, 112, 113, 114, 115, 116, 117, 118, 119, 120, 121, 122, 123, 124, 125, 126, 127, 128] (.seq (.seq (.draw [⟨⟨some 32, none, .prim (.mov (.tmp 0))⟩, [], false, 0, 0⟩,
 ⟨⟨some 33, none, .call (.func 120) [(.tmp 32)]⟩, [0], true, 0, 0⟩,
 ⟨⟨some 34, none, .prim (.mov (.tmp 33))⟩, [0, 1], false, 1, 1⟩,
 ⟨⟨some 35, (some (34, true)), .prim (.mov (.tmp 0))⟩, [0, 1, 2], false, 1, 1⟩,
 ⟨⟨some 36, (some (34, true)), .prim (.nilc (.tmp 35))⟩, [0, 1, 2, 3], false, 1, 1⟩,
 ⟨⟨some 37, (some (34, true)), .prim (.fadr 0 (.tmp 36))⟩, [0, 1, 2, 3, 4], false, 1, 1⟩,
 ⟨⟨some 38, (some (34, true)), .prim (.load 1 false (.tmp 37))⟩, [0, 1, 2, 3, 4, 5], false, 1, 1⟩,
 ⟨⟨some 39, (some (34, true)), .prim (.mov (.tmp 0))⟩, [0, 1, 2], false, 1, 1⟩,
 ⟨⟨some 40, (some (34, true)), .prim (.nilc (.tmp 39))⟩, [0, 1, 2, 7], false, 1, 1⟩,
 ⟨⟨some 41, (some (34, true)), .prim (.fadr 1 (.tmp 40))⟩, [0, 1, 2, 7, 8], false, 1, 1⟩,
 ⟨⟨some 42, (some (34, true)), .prim (.load 1 false (.tmp 41))⟩, [0, 1, 2, 7, 8, 9], false, 1, 1⟩,
 ⟨⟨some 43, (some (34, true)), .prim (.idxs (.tmp 38) (.tmp 42))⟩, [0, 1, 2, 3, 4, 5, 6, 7, 8, 9, 10], false, 1, 1⟩,
 ⟨⟨some 44, (some (34, true)), .prim (.bin false .neq (.tmp 43) (.const (Value.int IntKind.u8 93)))⟩, [0, 1, 2, 3, 4, 5, 6, 7, 8, 9, 10, 11], false, 1, 1⟩,
 ⟨⟨some 45, none, .prim (.pick (.tmp 34) (.tmp 44) (.const (Value.bool false)))⟩, [0, 1, 2, 3, 4, 5, 6, 7, 8, 9, 10, 11, 12], false, 1, 1⟩])
 (.cond (.tmp 45)
 .skip
 (.exit 0)))
 (.block 1 (.seq (.ops [⟨some 46, none, .prim (.mov (.tmp 0))⟩,
 ⟨some 47, none, .call (.func 158) [(.tmp 46)]⟩,
 ⟨some 6, none, .prim (.mov (.tmp 47))⟩])
 (.seq (.ops [⟨some 48, none, .prim (.mov (.tmp 6))⟩,
 ⟨some 7, none, .prim (.mov (.tmp 48))⟩])
 (.seq (.seq (.draw [⟨⟨some 49, none, .prim (.mov (.tmp 0))⟩, [], false, 0, 0⟩,
 ⟨⟨some 50, none, .call (.func 120) [(.tmp 49)]⟩, [0], true, 0, 0⟩,
 ⟨⟨some 51, none, .prim (.mov (.tmp 50))⟩, [0, 1], false, 1, 1⟩,
 ⟨⟨some 52, (some (51, true)), .prim (.mov (.tmp 0))⟩, [0, 1, 2], false, 1, 1⟩,
 ⟨⟨some 53, (some (51, true)), .prim (.nilc (.tmp 52))⟩, [0, 1, 2, 3], false, 1, 1⟩,
 ⟨⟨some 54, (some (51, true)), .prim (.fadr 0 (.tmp 53))⟩, [0, 1, 2, 3, 4], false, 1, 1⟩,
 ⟨⟨some 55, (some (51, true)), .prim (.load 1 false (.tmp 54))⟩, [0, 1, 2, 3, 4, 5], false, 1, 1⟩,
 ⟨⟨some 56, (some (51, true)), .prim (.mov (.tmp 0))⟩, [0, 1, 2], false, 1, 1⟩,
 ⟨⟨some 57, (some (51, true)), .prim (.nilc (.tmp 56))⟩, [0, 1, 2, 7], false, 1, 1⟩,
 ⟨⟨some 58, (some (51, true)), .prim (.fadr 1 (.tmp 57))⟩, [0, 1, 2, 7, 8], false, 1, 1⟩,
 ⟨⟨some 59, (some (51, true)), .prim (.load 1 false (.tmp 58))⟩, [0, 1, 2, 7, 8, 9], false, 1, 1⟩,
 ⟨⟨some 60, (some (51, true)), .prim (.idxs (.tmp 55) (.tmp 59))⟩, [0, 1, 2, 3, 4, 5, 6, 7, 8, 9, 10], false, 1, 1⟩,
 ⟨⟨some 61, (some (51, true)), .prim (.bin false .eql (.tmp 60) (.const (Value.int IntKind.u8 45)))⟩, [0, 1, 2, 3, 4, 5, 6, 7, 8, 9, 10, 11], false, 1, 1⟩,
 ⟨⟨some 62, none, .prim (.pick (.tmp 51) (.tmp 61) (.const (Value.bool false)))⟩, [0, 1, 2, 3, 4, 5, 6, 7, 8, 9, 10, 11, 12], false, 1, 1⟩])
 (.cond (.tmp 62)
 (.seq (.ops [⟨some 63, none, .prim (.mov (.tmp 0))⟩,
 ⟨some 64, none, .prim (.nilc (.tmp 63))⟩,
 ⟨some 65, none, .prim (.fadr 1 (.tmp 64))⟩,
 ⟨some 66, none, .prim (.load 1 false (.tmp 65))⟩,
 ⟨some 67, none, .prim (.bin false .add (.tmp 66) (.const (Value.int IntKind.i64 1)))⟩,
 ⟨some 68, none, .prim (.nilc (.tmp 63))⟩,
 ⟨some 69, none, .prim (.fadr 1 (.tmp 68))⟩,
 ⟨none, none, .prim (.store 1 (.tmp 69) (.tmp 67))⟩])
 (.ops [⟨some 70, none, .prim (.mov (.tmp 0))⟩,
 ⟨some 71, none, .call (.func 158) [(.tmp 70)]⟩,
 ⟨some 7, none, .prim (.mov (.tmp 71))⟩]))
 .skip))
 (.seq (.seq (.ops [⟨some 72, none, .prim (.mov (.tmp 7))⟩,
 ⟨some 73, none, .prim (.mov (.tmp 6))⟩,
 ⟨some 74, none, .prim (.bin false .lss (.tmp 72) (.tmp 73))⟩])
 (.cond (.tmp 74)
 (.ops [⟨some 75, none, .prim (.mov (.tmp 0))⟩,
 ⟨some 76, none, .call (.func 152) [(.tmp 75)]⟩])
 .skip))
 (.seq (.seq (.ops [⟨some 77, none, .prim (.mov (.tmp 6))⟩,
 ⟨some 78, none, .prim (.convi .i64 (.tmp 77))⟩,
 ⟨some 8, none, .prim (.mov (.tmp 78))⟩])
 (.block 2 (.loop [1, 6, 9, 10, 11, 12, 13, 14, 15, 16, 17, 18, 19, 20, 21, 22, 23, 24, 25, 26, 27, 28, 29, 30, 31, 32, 33, 34, 35, 36, 37, 38, 39, 40, 41, 42, 43, 44, 45, 46, 47, 48, 49, 50, 51, 52, 53, 54, 55, 56, 57, 58, 59, 60, 61, 62, 63, 64, 65, 66, 67, 68, 69, 70, 71, 72, 73, 74, 75, 76, 77, 78, 79, 80, 81, 82, 83, 84, 85, 86, 87, 88, 89, 90, 91, 92, 93, 94, 95, 96, 97, 98, 99, 100, 101, 102, 103, 104, 105, 106, 107, 108, 109, 110, 111, 112, 113, 114, 115, 116, 117, 118, 119, 120, 121, 122, 123, 124, 125, 126, 127, 128] (.seq (.seq (.ops [⟨some 79, none, .prim (.mov (.tmp 8))⟩,
 ⟨some 80, none, .prim (.mov (.tmp 7))⟩,
 ⟨some 81, none, .prim (.convi .i64 (.tmp 80))⟩,
 ⟨some 82, none, .prim (.bin false .leq (.tmp 79) (.tmp 81))⟩])
 (.cond (.tmp 82)
 .skip
 (.exit 2)))
 (.seq (.block 3 (.ops [⟨some 85, none, .prim (.mov (.tmp 8))⟩,
 ⟨some 86, none, .prim (.bin false .quo (.tmp 85) (.const (Value.int IntKind.i64 64)))⟩,
 ⟨some 87, none, .prim (.mov (.tmp 8))⟩,
 ⟨some 88, none, .prim (.bin false .quo (.tmp 87) (.const (Value.int IntKind.i64 64)))⟩,
 ⟨some 89, none, .prim (.iadra 1 4 (.tmp 4) (.tmp 88))⟩,
 ⟨some 90, none, .prim (.load 1 false (.tmp 89))⟩,
 ⟨some 91, none, .prim (.mov (.tmp 8))⟩,
 ⟨some 92, none, .prim (.bin false .rem (.tmp 91) (.const (Value.int IntKind.i64 64)))⟩,
 ⟨some 93, none, .prim (.convi .u64 (.tmp 92))⟩,
 ⟨some 94, none, .prim (.bin false .shl (.const (Value.int IntKind.u64 1)) (.tmp 93))⟩,
 ⟨some 95, none, .prim (.bin false .or (.tmp 90) (.tmp 94))⟩,
 ⟨some 96, none, .prim (.iadra 1 4 (.tmp 4) (.tmp 86))⟩,
 ⟨none, none, .prim (.store 1 (.tmp 96) (.tmp 95))⟩]))
 (.ops [⟨some 83, none, .prim (.mov (.tmp 8))⟩,
 ⟨some 84, none, .prim (.bin false .add (.tmp 83) (.const (Value.int IntKind.i64 1)))⟩,
 ⟨some 8, none, .prim (.mov (.tmp 84))⟩]))))))
 (.ops [⟨some 97, none, .prim (.mov (.tmp 5))⟩,
 ⟨some 98, none, .prim (.bin false .add (.tmp 97) (.const (Value.int IntKind.i64 1)))⟩,
 ⟨some 5, none, .prim (.mov (.tmp 98))⟩]))))))))))
 (.seq (.seq (.ops [⟨some 99, none, .prim (.mov (.tmp 0))⟩,
 ⟨some 100, none, .call (.func 120) [(.tmp 99)]⟩,
 ⟨some 101, none, .prim (.un .not (.tmp 100))⟩,
 ⟨some 102, none, .prim (.mov (.tmp 101))⟩,
 ⟨some 103, (some (102, false)), .prim (.mov (.tmp 5))⟩,
 ⟨some 104, (some (102, false)), .prim (.bin false .eql (.tmp 103) (.const (Value.int IntKind.i64 0)))⟩,
 ⟨some 105, none, .prim (.pick (.tmp 102) (.const (Value.bool true)) (.tmp 104))⟩])
 (.cond (.tmp 105)
 (.seq (.ops [⟨some 106, none, .prim (.mov (.tmp 0))⟩,
 ⟨some 107, none, .call (.func 152) [(.tmp 106)]⟩])
 (.seq (.ops [⟨some 108, none, .prim (.build [.pl (.int .i64 0), .pl (.int .u64 0), .pl (.int .u64 0), .pl (.int .u64 0), .pl (.int .u64 0), .nils] [])⟩,
 ⟨none, none, .prim (.store 6 (.tmp 2) (.tmp 108))⟩])
 .ret))
 .skip))
 (.seq (.ops [⟨some 109, none, .prim (.mov (.tmp 0))⟩,
 ⟨some 110, none, .prim (.nilc (.tmp 109))⟩,
 ⟨some 111, none, .prim (.fadr 1 (.tmp 110))⟩,
 ⟨some 112, none, .prim (.load 1 false (.tmp 111))⟩,
 ⟨some 113, none, .prim (.bin false .add (.tmp 112) (.const (Value.int IntKind.i64 1)))⟩,
 ⟨some 114, none, .prim (.nilc (.tmp 109))⟩,
 ⟨some 115, none, .prim (.fadr 1 (.tmp 114))⟩,
 ⟨none, none, .prim (.store 1 (.tmp 115) (.tmp 113))⟩])
 (.seq (.seq (.ops [⟨some 116, none, .prim (.mov (.tmp 3))⟩])
 (.cond (.tmp 116)
 (.seq (.ops [⟨some 9, none, .prim (.mov (.const (Value.int IntKind.i64 0)))⟩])
 (.block 4 (.loop [0, 1, 3, 5, 6, 7, 8, 10, 11, 12, 13, 14, 15, 16, 17, 18, 19, 20, 21, 22, 23, 24, 25, 26, 27, 28, 29, 30, 31, 32, 33, 34, 35, 36, 37, 38, 39, 40, 41, 42, 43, 44, 45, 46, 47, 48, 49, 50, 51, 52, 53, 54, 55, 56, 57, 58, 59, 60, 61, 62, 63, 64, 65, 66, 67, 68, 69, 70, 71, 72, 73, 74, 75, 76, 77, 78, 79, 80, 81, 82, 83, 84, 85, 86, 87, 88, 89, 90, 91, 92, 93, 94, 95, 96, 97, 98, 99, 100, 101, 102, 103, 104, 105, 106, 107, 108, 109, 110, 111, 112, 113, 114, 115, 116, 117, 118, 119, 120, 121, 122, 123, 124, 125, 126, 127, 128] (.seq (.seq (.ops [⟨some 117, none, .prim (.mov (.tmp 9))⟩,
 ⟨some 118, none, .prim (.bin false .lss (.tmp 117) (.const (Value.int IntKind.i64 4)))⟩])
 (.cond (.tmp 118)
 .skip
 (.exit 4)))
 (.seq (.block 5 (.ops [⟨some 121, none, .prim (.mov (.tmp 9))⟩,
 ⟨some 122, none, .prim (.mov (.tmp 9))⟩,
 ⟨some 123, none, .prim (.iadra 1 4 (.tmp 4) (.tmp 122))⟩,
 ⟨some 124, none, .prim (.load 1 false (.tmp 123))⟩,
 ⟨some 125, none, .prim (.un .xor (.tmp 124))⟩,
 ⟨some 126, none, .prim (.iadra 1 4 (.tmp 4) (.tmp 121))⟩,
 ⟨none, none, .prim (.store 1 (.tmp 126) (.tmp 125))⟩]))
 (.ops [⟨some 119, none, .prim (.mov (.tmp 9))⟩,
 ⟨some 120, none, .prim (.bin false .add (.tmp 119) (.const (Value.int IntKind.i64 1)))⟩,
 ⟨some 9, none, .prim (.mov (.tmp 120))⟩]))))))
 .skip))
 (.seq (.ops [⟨some 127, none, .prim (.load 4 true (.tmp 4))⟩,
 ⟨some 128, none, .prim (.build [.pl (.int .i64 0), .pl (.int .u64 0), .pl (.int .u64 0), .pl (.int .u64 0), .pl (.int .u64 0), .nils] [(0, 1, (.const (Value.int IntKind.i64 1))), (1, 4, (.tmp 127))])⟩,
 ⟨none, none, .prim (.store 6 (.tmp 2) (.tmp 128))⟩])
 .ret))))))))))
def o154 : List Tmp := [2, 4]
def r154 : List RV := [.cell 2 6 true]
theorem t154 : Text Try.prog 154 o154 c154 r154 129 := ⟨⟨Try.f154, _, by kernel_rfl, by kernel_rfl, rfl, by kernel_rfl, by kernel_rfl, rfl⟩, by kernel_rfl⟩

/-- sordine/sordineref5.special -/
def c155 : ACode :=
 (.seq (.ops [⟨some 2, none, .prim (.mov (.const (Value.bool false)))⟩])
 (.seq (.seq (.ops [⟨some 3, none, .prim (.mov (.tmp 0))⟩])
 (.block 0 (.seq (.seq (.ops [⟨some 5, none, .prim (.bin false .eql (.tmp 3) (.const (Value.int IntKind.u8 124)))⟩,
 ⟨some 4, none, .prim (.mov (.tmp 5))⟩])
 (.cond (.tmp 4)
 .skip
 (.seq (.ops [⟨some 6, none, .prim (.bin false .eql (.tmp 3) (.const (Value.int IntKind.u8 42)))⟩,
 ⟨some 4, none, .prim (.mov (.tmp 6))⟩])
 (.cond (.tmp 4)
 .skip
 (.seq (.ops [⟨some 7, none, .prim (.bin false .eql (.tmp 3) (.const (Value.int IntKind.u8 43)))⟩,
 ⟨some 4, none, .prim (.mov (.tmp 7))⟩])
 (.cond (.tmp 4)
 .skip
 (.seq (.ops [⟨some 8, none, .prim (.bin false .eql (.tmp 3) (.const (Value.int IntKind.u8 63)))⟩,
 ⟨some 4, none, .prim (.mov (.tmp 8))⟩])
 (.cond (.tmp 4)
 .skip
 (.seq (.ops [⟨some 9, none, .prim (.bin false .eql (.tmp 3) (.const (Value.int IntKind.u8 40)))⟩,
 ⟨some 4, none, .prim (.mov (.tmp 9))⟩])
 (.cond (.tmp 4)
 .skip
 (.seq (.ops [⟨some 10, none, .prim (.bin false .eql (.tmp 3) (.const (Value.int IntKind.u8 41)))⟩,
 ⟨some 4, none, .prim (.mov (.tmp 10))⟩])
 (.cond (.tmp 4)
 .skip
 (.seq (.ops [⟨some 11, none, .prim (.bin false .eql (.tmp 3) (.const (Value.int IntKind.u8 91)))⟩,
 ⟨some 4, none, .prim (.mov (.tmp 11))⟩])
 (.cond (.tmp 4)
 .skip
 (.seq (.ops [⟨some 12, none, .prim (.bin false .eql (.tmp 3) (.const (Value.int IntKind.u8 93)))⟩,
 ⟨some 4, none, .prim (.mov (.tmp 12))⟩])
 (.cond (.tmp 4)
 .skip
 (.seq (.ops [⟨some 13, none, .prim (.bin false .eql (.tmp 3) (.const (Value.int IntKind.u8 46)))⟩,
 ⟨some 4, none, .prim (.mov (.tmp 13))⟩])
 (.cond (.tmp 4)
 .skip
 (.ops [⟨some 14, none, .prim (.bin false .eql (.tmp 3) (.const (Value.int IntKind.u8 92)))⟩,
 ⟨some 4, none, .prim (.mov (.tmp 14))⟩])))))))))))))))))))
 (.cond (.tmp 4)
 (.seq (.ops [⟨some 2, none, .prim (.mov (.const (Value.bool true)))⟩])
 .ret)
 .skip))))
 (.seq (.ops [⟨some 2, none, .prim (.mov (.const (Value.bool false)))⟩])
 .ret)))
def o155 : List Tmp := []
def r155 : List RV := [.tmp 2]
theorem t155 : Text Try.prog 155 o155 c155 r155 15 := ⟨⟨Try.f155, _, by kernel_rfl, by kernel_rfl, rfl, by kernel_rfl, by kernel_rfl, rfl⟩, by kernel_rfl⟩

/-- (*sordine/rex.parser).member -/
def c156 : ACode :=
 (.seq (.ops [⟨some 2, none, .prim (.mov (.const (Value.int IntKind.u8 0)))⟩])
 (.seq (.ops [⟨some 4, none, .prim (.mov (.tmp 0))⟩,
 ⟨some 5, none, .call (.func 145) [(.tmp 4)]⟩,
 ⟨some 3, none, .prim (.mov (.tmp 5))⟩])
 (.seq (.seq (.ops [⟨some 6, none, .prim (.mov (.tmp 3))⟩,
 ⟨some 7, none, .prim (.bin false .eql (.tmp 6) (.const (Value.int IntKind.u8 92)))⟩])
 (.cond (.tmp 7)
 (.seq (.ops [⟨some 8, none, .prim (.mov (.tmp 0))⟩,
 ⟨some 9, none, .call (.func 149) [(.tmp 8)]⟩,
 ⟨some 2, none, .prim (.mov (.tmp 9))⟩])
 .ret)
 .skip))
 (.seq (.ops [⟨some 10, none, .prim (.mov (.tmp 0))⟩,
 ⟨some 11, none, .prim (.mov (.tmp 0))⟩,
 ⟨some 12, none, .prim (.nilc (.tmp 11))⟩,
 ⟨some 13, none, .prim (.fadr 2 (.tmp 12))⟩,
 ⟨some 14, none, .prim (.load 1 false (.tmp 13))⟩,
 ⟨some 15, none, .prim (.mov (.tmp 14))⟩,
 ⟨some 16, (some (15, false)), .prim (.mov (.tmp 3))⟩,
 ⟨some 17, (some (15, false)), .call (.func 150) [(.const (Value.string (ByteArray.mk #[92, 93, 91, 94, 45]))), (.tmp 16)]⟩,
 ⟨some 18, (some (15, false)), .prim (.bin false .geq (.tmp 17) (.const (Value.int IntKind.i64 0)))⟩,
 ⟨some 19, none, .prim (.pick (.tmp 15) (.const (Value.bool true)) (.tmp 18))⟩,
 ⟨some 20, none, .prim (.nilc (.tmp 10))⟩,
 ⟨some 21, none, .prim (.fadr 2 (.tmp 20))⟩,
 ⟨none, none, .prim (.store 1 (.tmp 21) (.tmp 19))⟩])
 (.seq (.ops [⟨some 22, none, .prim (.mov (.tmp 3))⟩,
 ⟨some 2, none, .prim (.mov (.tmp 22))⟩])
 .ret)))))
def o156 : List Tmp := []
def r156 : List RV := [.tmp 2]
theorem t156 : Text Try.prog 156 o156 c156 r156 23 := ⟨⟨Try.f156, _, by kernel_rfl, by kernel_rfl, rfl, by kernel_rfl, by kernel_rfl, rfl⟩, by kernel_rfl⟩

/-- internal/stringslite.IndexByte -/
def c157 : ACode :=
 (.seq (.ops [⟨some 4, none, .prim (.mov (.const (Value.int IntKind.i64 0)))⟩])
 (.seq (.ops [⟨some 5, none, .prim (.mov (.tmp 0))⟩,
 ⟨some 6, none, .prim (.mov (.tmp 1))⟩,
 ⟨some 7, none, .call (.func 159) [(.tmp 5), (.tmp 6)]⟩,
 ⟨some 4, none, .prim (.mov (.tmp 7))⟩])
 .ret))
def o157 : List Tmp := []
def r157 : List RV := [.tmp 4]
theorem t157 : Text Try.prog 157 o157 c157 r157 8 := ⟨⟨Try.f157, _, by kernel_rfl, by kernel_rfl, rfl, by kernel_rfl, by kernel_rfl, rfl⟩, by kernel_rfl⟩

/-- (*sordine/sordineref5.parser).member -/
def c158 : ACode :=
 (.seq (.ops [⟨some 2, none, .prim (.mov (.const (Value.int IntKind.u8 0)))⟩])
 (.seq (.seq (.ops [⟨some 4, none, .prim (.mov (.tmp 0))⟩,
 ⟨some 5, none, .call (.func 120) [(.tmp 4)]⟩,
 ⟨some 6, none, .prim (.un .not (.tmp 5))⟩])
 (.cond (.tmp 6)
 (.seq (.ops [⟨some 7, none, .prim (.mov (.tmp 0))⟩,
 ⟨some 8, none, .call (.func 152) [(.tmp 7)]⟩])
 (.seq (.ops [⟨some 2, none, .prim (.mov (.const (Value.int IntKind.u8 0)))⟩])
 .ret))
 .skip))
 (.seq (.draw [⟨⟨some 9, none, .prim (.mov (.tmp 0))⟩, [], false, 0, 0⟩,
 ⟨⟨some 10, none, .prim (.nilc (.tmp 9))⟩, [0], false, 0, 0⟩,
 ⟨⟨some 11, none, .prim (.fadr 0 (.tmp 10))⟩, [0, 1], false, 0, 0⟩,
 ⟨⟨some 12, none, .prim (.load 1 false (.tmp 11))⟩, [0, 1, 2], false, 0, 0⟩,
 ⟨⟨some 13, none, .prim (.mov (.tmp 0))⟩, [], false, 0, 0⟩,
 ⟨⟨some 14, none, .prim (.nilc (.tmp 13))⟩, [4], false, 0, 0⟩,
 ⟨⟨some 15, none, .prim (.fadr 1 (.tmp 14))⟩, [4, 5], false, 0, 0⟩,
 ⟨⟨some 16, none, .prim (.load 1 false (.tmp 15))⟩, [4, 5, 6], false, 0, 0⟩,
 ⟨⟨some 17, none, .prim (.idxs (.tmp 12) (.tmp 16))⟩, [0, 1, 2, 3, 4, 5, 6, 7], false, 0, 0⟩,
 ⟨⟨some 3, none, .prim (.mov (.tmp 17))⟩, [0, 1, 2, 3, 4, 5, 6, 7, 8], false, 0, 0⟩])
 (.seq (.ops [⟨some 18, none, .prim (.mov (.tmp 0))⟩,
 ⟨some 19, none, .prim (.nilc (.tmp 18))⟩,
 ⟨some 20, none, .prim (.fadr 1 (.tmp 19))⟩,
 ⟨some 21, none, .prim (.load 1 false (.tmp 20))⟩,
 ⟨some 22, none, .prim (.bin false .add (.tmp 21) (.const (Value.int IntKind.i64 1)))⟩,
 ⟨some 23, none, .prim (.nilc (.tmp 18))⟩,
 ⟨some 24, none, .prim (.fadr 1 (.tmp 23))⟩,
 ⟨none, none, .prim (.store 1 (.tmp 24) (.tmp 22))⟩])
 (.seq (.seq (.ops [⟨some 25, none, .prim (.mov (.tmp 3))⟩,
 ⟨some 26, none, .prim (.bin false .eql (.tmp 25) (.const (Value.int IntKind.u8 92)))⟩])
 (.cond (.tmp 26)
 (.seq (.seq (.draw [⟨⟨some 27, none, .prim (.mov (.tmp 0))⟩, [], false, 0, 0⟩,
 ⟨⟨some 28, none, .call (.func 120) [(.tmp 27)]⟩, [0], true, 0, 0⟩,
 ⟨⟨some 29, none, .prim (.un .not (.tmp 28))⟩, [0, 1], false, 1, 1⟩,
 ⟨⟨some 30, none, .prim (.mov (.tmp 29))⟩, [0, 1, 2], false, 1, 1⟩,
 ⟨⟨some 31, (some (30, false)), .prim (.mov (.tmp 0))⟩, [0, 1, 2, 3], false, 1, 1⟩,
 ⟨⟨some 32, (some (30, false)), .prim (.nilc (.tmp 31))⟩, [0, 1, 2, 3, 4], false, 1, 1⟩,
 ⟨⟨some 33, (some (30, false)), .prim (.fadr 0 (.tmp 32))⟩, [0, 1, 2, 3, 4, 5], false, 1, 1⟩,
 ⟨⟨some 34, (some (30, false)), .prim (.load 1 false (.tmp 33))⟩, [0, 1, 2, 3, 4, 5, 6], false, 1, 1⟩,
 ⟨⟨some 35, (some (30, false)), .prim (.mov (.tmp 0))⟩, [0, 1, 2, 3], false, 1, 1⟩,
 ⟨⟨some 36, (some (30, false)), .prim (.nilc (.tmp 35))⟩, [0, 1, 2, 3, 8], false, 1, 1⟩,
 ⟨⟨some 37, (some (30, false)), .prim (.fadr 1 (.tmp 36))⟩, [0, 1, 2, 3, 8, 9], false, 1, 1⟩,
 ⟨⟨some 38, (some (30, false)), .prim (.load 1 false (.tmp 37))⟩, [0, 1, 2, 3, 8, 9, 10], false, 1, 1⟩,
 ⟨⟨some 39, (some (30, false)), .prim (.idxs (.tmp 34) (.tmp 38))⟩, [0, 1, 2, 3, 4, 5, 6, 7, 8, 9, 10, 11], false, 1, 1⟩,
 ⟨⟨some 40, (some (30, false)), .call (.func 151) [(.tmp 39)]⟩, [0, 1, 2, 3, 4, 5, 6, 7, 8, 9, 10, 11, 12], true, 0, 0⟩,
 ⟨⟨some 41, (some (30, false)), .prim (.un .not (.tmp 40))⟩, [0, 1, 2, 3, 4, 5, 6, 7, 8, 9, 10, 11, 12, 13], false, 2, 2⟩,
 ⟨⟨some 42, none, .prim (.pick (.tmp 30) (.const (Value.bool true)) (.tmp 41))⟩, [0, 1, 2, 3, 4, 5, 6, 7, 8, 9, 10, 11, 12, 13, 14], false, 2, 2⟩])
 (.cond (.tmp 42)
 (.seq (.ops [⟨some 43, none, .prim (.mov (.tmp 0))⟩,
 ⟨some 44, none, .call (.func 152) [(.tmp 43)]⟩])
 (.seq (.ops [⟨some 2, none, .prim (.mov (.const (Value.int IntKind.u8 0)))⟩])
 .ret))
 .skip))
 (.seq (.ops [⟨some 45, none, .prim (.mov (.tmp 0))⟩,
 ⟨some 46, none, .prim (.nilc (.tmp 45))⟩,
 ⟨some 47, none, .prim (.fadr 1 (.tmp 46))⟩,
 ⟨some 48, none, .prim (.load 1 false (.tmp 47))⟩,
 ⟨some 49, none, .prim (.bin false .add (.tmp 48) (.const (Value.int IntKind.i64 1)))⟩,
 ⟨some 50, none, .prim (.nilc (.tmp 45))⟩,
 ⟨some 51, none, .prim (.fadr 1 (.tmp 50))⟩,
 ⟨none, none, .prim (.store 1 (.tmp 51) (.tmp 49))⟩])
 (.seq (.draw [⟨⟨some 52, none, .prim (.mov (.tmp 0))⟩, [], false, 0, 0⟩,
 ⟨⟨some 53, none, .prim (.nilc (.tmp 52))⟩, [0], false, 0, 0⟩,
 ⟨⟨some 54, none, .prim (.fadr 0 (.tmp 53))⟩, [0, 1], false, 0, 0⟩,
 ⟨⟨some 55, none, .prim (.load 1 false (.tmp 54))⟩, [0, 1, 2], false, 0, 0⟩,
 ⟨⟨some 56, none, .prim (.mov (.tmp 0))⟩, [], false, 0, 0⟩,
 ⟨⟨some 57, none, .prim (.nilc (.tmp 56))⟩, [4], false, 0, 0⟩,
 ⟨⟨some 58, none, .prim (.fadr 1 (.tmp 57))⟩, [4, 5], false, 0, 0⟩,
 ⟨⟨some 59, none, .prim (.load 1 false (.tmp 58))⟩, [4, 5, 6], false, 0, 0⟩,
 ⟨⟨some 60, none, .prim (.bin false .sub (.tmp 59) (.const (Value.int IntKind.i64 1)))⟩, [4, 5, 6, 7], false, 0, 0⟩,
 ⟨⟨some 61, none, .prim (.idxs (.tmp 55) (.tmp 60))⟩, [0, 1, 2, 3, 4, 5, 6, 7, 8], false, 0, 0⟩,
 ⟨⟨some 2, none, .prim (.mov (.tmp 61))⟩, [0, 1, 2, 3, 4, 5, 6, 7, 8, 9], false, 0, 0⟩])
 .ret)))
 .skip))
 (.seq (.seq (.ops [⟨some 62, none, .prim (.mov (.tmp 3))⟩,
 ⟨some 63, none, .prim (.bin false .eql (.tmp 62) (.const (Value.int IntKind.u8 93)))⟩,
 ⟨some 64, none, .prim (.mov (.tmp 63))⟩,
 ⟨some 65, (some (64, false)), .prim (.mov (.tmp 3))⟩,
 ⟨some 66, (some (64, false)), .prim (.bin false .eql (.tmp 65) (.const (Value.int IntKind.u8 91)))⟩,
 ⟨some 67, none, .prim (.pick (.tmp 64) (.const (Value.bool true)) (.tmp 66))⟩,
 ⟨some 68, none, .prim (.mov (.tmp 67))⟩,
 ⟨some 69, (some (68, false)), .prim (.mov (.tmp 3))⟩,
 ⟨some 70, (some (68, false)), .prim (.bin false .eql (.tmp 69) (.const (Value.int IntKind.u8 94)))⟩,
 ⟨some 71, none, .prim (.pick (.tmp 68) (.const (Value.bool true)) (.tmp 70))⟩,
 ⟨some 72, none, .prim (.mov (.tmp 71))⟩,
 ⟨some 73, (some (72, false)), .prim (.mov (.tmp 3))⟩,
 ⟨some 74, (some (72, false)), .prim (.bin false .eql (.tmp 73) (.const (Value.int IntKind.u8 45)))⟩,
 ⟨some 75, none, .prim (.pick (.tmp 72) (.const (Value.bool true)) (.tmp 74))⟩])
 (.cond (.tmp 75)
 (.ops [⟨some 76, none, .prim (.mov (.tmp 0))⟩,
 ⟨some 77, none, .call (.func 152) [(.tmp 76)]⟩])
 .skip))
 (.seq (.ops [⟨some 78, none, .prim (.mov (.tmp 3))⟩,
 ⟨some 2, none, .prim (.mov (.tmp 78))⟩])
 .ret)))))))
def o158 : List Tmp := []
def r158 : List RV := [.tmp 2]
theorem t158 : Text Try.prog 158 o158 c158 r158 79 := ⟨⟨Try.f158, _, by kernel_rfl, by kernel_rfl, rfl, by kernel_rfl, by kernel_rfl, rfl⟩, by kernel_rfl⟩

end Go.Proofs.Ytoadgajhkhejiaa
