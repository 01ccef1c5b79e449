/- What the functions do, over abstract values: printed by a program, checked by the kernel. No condition. -/
import Derived.Test.YtmkmhhjkdaklbaaGreatProg
import Derived.Test.YtmkmhhjkdaklbaaGreatAbStep
set_option linter.unusedSimpArgs false
set_option linter.unusedVariables false
namespace Go.Proofs.YtmkmhhjkdaklbaaGreat
open Go Go.Ab
set_option maxRecDepth 100000
def c2 : ACode :=
 (.ops [⟨some 0, none, .call (.func 1) []⟩])
def o2 : List Tmp := []
def r2 : List RV := []
theorem t2 : Text Tryz.prog 2 o2 c2 r2 1 := ⟨⟨Tryz.f2, _, by kernel_rfl, by kernel_rfl, rfl, by kernel_rfl, by kernel_rfl, rfl⟩, by kernel_rfl⟩
def c16 : ACode :=
 (.seq (.ops [⟨some 0, none, .prim (.mov (.const (.bool false)))⟩])
 (.seq (.ops [⟨some 2, none, .call (.func 50) []⟩,
 ⟨some 1, none, .fresh 6 1 (.tmp 2)⟩])
 (.seq (.draw [⟨⟨some 3, none, .prim (.load 6 true (.tmp 1))⟩, [], false, 0, 0⟩,
 ⟨⟨some 4, none, .call (.func 51) [(.tmp 3)]⟩, [0], true, 0, 0⟩,
 ⟨⟨some 5, none, .prim (.mov (.tmp 4))⟩, [0, 1], false, 1, 1⟩,
 ⟨⟨some 6, (some (5, true)), .prim (.load 6 true (.tmp 1))⟩, [0, 1, 2], false, 1, 3⟩,
 ⟨⟨some 7, (some (5, true)), .call (.func 53) [(.const (.string (ByteArray.mk #[99, 114, 105, 116]))), (.const (.string (ByteArray.mk #[120])))]⟩, [0, 1, 2], true, 0, 0⟩,
 ⟨⟨some 8, (some (5, true)), .call (.func 53) [(.const (.string (ByteArray.mk #[119, 97, 114, 110]))), (.const (.string (ByteArray.mk #[120])))]⟩, [0, 1, 2, 4], true, 0, 0⟩,
 ⟨⟨some 9, (some (5, true)), .call (.func 52) [(.tmp 6), (.tmp 7), (.tmp 8)]⟩, (List.range 6), true, 0, 0⟩,
 ⟨⟨some 10, none, .prim (.pick (.tmp 5) (.tmp 9) (.const (.bool false)))⟩, (List.range 7), false, 4, 4⟩,
 ⟨⟨some 11, none, .prim (.mov (.tmp 10))⟩, (List.range 8), false, 4, 4⟩,
 ⟨⟨some 12, (some (11, true)), .prim (.load 6 true (.tmp 1))⟩, (List.range 9), false, 4, 6⟩,
 ⟨⟨some 13, (some (11, true)), .call (.func 53) [(.const (.string (ByteArray.mk #[99, 114, 105, 116]))), (.const (.string (ByteArray.mk #[120])))]⟩, (List.range 9), true, 0, 0⟩,
 ⟨⟨some 14, (some (11, true)), .call (.func 53) [(.const (.string (ByteArray.mk #[119, 97, 114, 110]))), (.const (.string (ByteArray.mk #[121])))]⟩, [0, 1, 2, 3, 4, 5, 6, 7, 8, 10], true, 0, 0⟩,
 ⟨⟨some 15, (some (11, true)), .call (.func 52) [(.tmp 12), (.tmp 13), (.tmp 14)]⟩, (List.range 12), true, 0, 0⟩,
 ⟨⟨some 16, (some (11, true)), .prim (.un .not (.tmp 15))⟩, (List.range 13), false, 7, 7⟩,
 ⟨⟨some 17, none, .prim (.pick (.tmp 11) (.tmp 16) (.const (.bool false)))⟩, (List.range 14), false, 7, 7⟩,
 ⟨⟨some 18, none, .prim (.mov (.tmp 17))⟩, (List.range 15), false, 7, 7⟩,
 ⟨⟨some 19, (some (18, true)), .prim (.load 6 true (.tmp 1))⟩, (List.range 16), false, 7, 9⟩,
 ⟨⟨some 20, (some (18, true)), .call (.func 53) [(.const (.string (ByteArray.mk #[99, 114, 105, 116]))), (.const (.string (ByteArray.mk #[120])))]⟩, (List.range 16), true, 0, 0⟩,
 ⟨⟨some 21, (some (18, true)), .call (.func 53) [(.const (.string (ByteArray.mk #[99, 114, 105, 116]))), (.const (.string (ByteArray.mk #[120])))]⟩, [0, 1, 2, 3, 4, 5, 6, 7, 8, 9, 10, 11, 12, 13, 14, 15, 17], true, 0, 0⟩,
 ⟨⟨some 22, (some (18, true)), .call (.func 52) [(.tmp 19), (.tmp 20), (.tmp 21)]⟩, (List.range 19), true, 0, 0⟩,
 ⟨⟨some 23, (some (18, true)), .prim (.un .not (.tmp 22))⟩, (List.range 20), false, 10, 10⟩,
 ⟨⟨some 24, none, .prim (.pick (.tmp 18) (.tmp 23) (.const (.bool false)))⟩, (List.range 21), false, 10, 10⟩,
 ⟨⟨some 25, none, .prim (.mov (.tmp 24))⟩, (List.range 22), false, 10, 10⟩,
 ⟨⟨some 26, (some (25, true)), .prim (.load 6 true (.tmp 1))⟩, (List.range 23), false, 10, 12⟩,
 ⟨⟨some 27, (some (25, true)), .call (.func 53) [(.const (.string (ByteArray.mk #[119, 97, 114, 110]))), (.const (.string (ByteArray.mk #[120])))]⟩, (List.range 23), true, 0, 0⟩,
 ⟨⟨some 28, (some (25, true)), .call (.func 53) [(.const (.string (ByteArray.mk #[99, 114, 105, 116]))), (.const (.string (ByteArray.mk #[120])))]⟩, [0, 1, 2, 3, 4, 5, 6, 7, 8, 9, 10, 11, 12, 13, 14, 15, 16, 17, 18, 19, 20, 21, 22, 24], true, 0, 0⟩,
 ⟨⟨some 29, (some (25, true)), .call (.func 52) [(.tmp 26), (.tmp 27), (.tmp 28)]⟩, (List.range 26), true, 0, 0⟩,
 ⟨⟨some 30, (some (25, true)), .prim (.un .not (.tmp 29))⟩, (List.range 27), false, 13, 13⟩,
 ⟨⟨some 31, none, .prim (.pick (.tmp 25) (.tmp 30) (.const (.bool false)))⟩, (List.range 28), false, 13, 13⟩,
 ⟨⟨some 0, none, .prim (.mov (.tmp 31))⟩, (List.range 29), false, 13, 13⟩])
 .ret)))
def o16 : List Tmp := []
def r16 : List RV := [.tmp 0]
theorem t16 : Text Tryz.prog 16 o16 c16 r16 32 := ⟨⟨Tryz.f16, _, by kernel_rfl, by kernel_rfl, rfl, by kernel_rfl, by kernel_rfl, rfl⟩, by kernel_rfl⟩
def c50 : ACode :=
 (.seq (.ops [⟨some 0, none, .prim (.allocm [.nils, .nils, .pl (.bool false), .pl (.float .f64 0), .pl (.float .f64 0), .nils])⟩])
 (.seq (.ops [⟨some 1, none, .prim (.build [.pl (.int .i64 0), .pl (.string .empty), .pl (.string .empty)] [(0, 1, (.const (.int .i64 1))), (1, 1, (.const (.string (ByteArray.mk #[115, 101, 118])))), (2, 1, (.const (.string (ByteArray.mk #[99, 114, 105, 116]))))])⟩,
 ⟨some 2, none, .prim (.bsl false 3 true 1 [.pl (.int .i64 0), .pl (.string .empty), .pl (.string .empty)] [(0, 3, (.tmp 1))])⟩,
 ⟨some 3, none, .prim (.build [.pl (.int .i64 0), .pl (.string .empty), .pl (.string .empty)] [(0, 1, (.const (.int .i64 3))), (1, 1, (.const (.string (ByteArray.mk #[115, 101, 118])))), (2, 1, (.const (.string (ByteArray.mk #[99, 114, 105, 116, 124, 119, 97, 114, 110]))))])⟩,
 ⟨some 4, none, .prim (.bsl false 3 true 1 [.pl (.int .i64 0), .pl (.string .empty), .pl (.string .empty)] [(0, 3, (.tmp 3))])⟩,
 ⟨some 5, none, .prim (.build [.pl (.bool false), .pl (.float .f64 0), .pl (.float .f64 0)] [(0, 1, (.const (.bool true)))])⟩,
 ⟨some 6, none, .prim (.bsl false 1 false 1 [.pl (.string .empty)] [(0, 1, (.const (.string (ByteArray.mk #[99]))))])⟩,
 ⟨some 7, none, .prim (.build [.nils, .nils, .pl (.bool false), .pl (.float .f64 0), .pl (.float .f64 0), .nils] [(0, 1, (.tmp 2)), (1, 1, (.tmp 4)), (2, 3, (.tmp 5)), (5, 1, (.tmp 6))])⟩,
 ⟨none, none, .prim (.store 6 (.tmp 0) (.tmp 7))⟩])
 .ret))
def o50 : List Tmp := [0]
def r50 : List RV := [.cell 0 6 true]
theorem t50 : Text Tryz.prog 50 o50 c50 r50 8 := ⟨⟨Tryz.f50, _, by kernel_rfl, by kernel_rfl, rfl, by kernel_rfl, by kernel_rfl, rfl⟩, by kernel_rfl⟩
def c53 : ACode :=
 (.seq (.ops [⟨some 4, none, .prim (.allocm [.pl (.int .i64 0), .nils, .pl (.float .f64 0)])⟩])
 (.seq (.ops [⟨some 5, none, .prim (.mov (.tmp 1))⟩,
 ⟨some 6, none, .prim (.build [.pl (.string .empty), .pl (.string .empty)] [(0, 1, (.const (.string (ByteArray.mk #[99])))), (1, 1, (.tmp 5))])⟩,
 ⟨some 7, none, .prim (.mov (.tmp 0))⟩,
 ⟨some 8, none, .prim (.build [.pl (.string .empty), .pl (.string .empty)] [(0, 1, (.const (.string (ByteArray.mk #[115, 101, 118])))), (1, 1, (.tmp 7))])⟩,
 ⟨some 9, none, .prim (.bsl false 2 true 2 [.pl (.string .empty), .pl (.string .empty)] [(0, 2, (.tmp 6)), (2, 2, (.tmp 8))])⟩,
 ⟨some 10, none, .prim (.build [.pl (.int .i64 0), .nils, .pl (.float .f64 0)] [(0, 1, (.const (.int .i64 1))), (1, 1, (.tmp 9))])⟩,
 ⟨none, none, .prim (.store 3 (.tmp 4) (.tmp 10))⟩])
 .ret))
def o53 : List Tmp := [4]
def r53 : List RV := [.cell 4 3 true]
theorem t53 : Text Tryz.prog 53 o53 c53 r53 11 := ⟨⟨Tryz.f53, _, by kernel_rfl, by kernel_rfl, rfl, by kernel_rfl, by kernel_rfl, rfl⟩, by kernel_rfl⟩
def c79 : ACode :=
 (.seq (.ops [⟨some 4, none, .prim (.mov (.const (.slice none 0 0)))⟩])
 (.seq (.ops [⟨some 5, none, .prim (.mov (.const (.slice none 0 0)))⟩])
 (.seq (.seq (.ops [⟨some 6, none, .prim (.mov (.const (.int .i64 0)))⟩])
 (.block 0 (.loop [2, 3, 4, 7, 8, 9, 10, 11, 12, 13, 14, 15, 16, 17, 18, 19, 20, 21, 22, 23, 24, 25, 26, 27, 28, 29, 30, 31, 32, 33, 34, 35, 36, 37, 38, 39, 40, 41, 42, 43, 44, 45, 46, 47, 48, 49, 50, 51, 52, 53, 54, 55, 56, 57, 58, 59, 60, 61, 62, 63, 64, 65, 66, 67, 68, 69, 70, 71, 72] (.seq (.seq (.ops [⟨some 9, none, .prim (.mov (.tmp 6))⟩,
 ⟨some 10, none, .prim (.mov (.tmp 0))⟩,
 ⟨some 11, none, .prim (.lenv (.tmp 10))⟩,
 ⟨some 12, none, .prim (.bin false .lss (.tmp 9) (.tmp 11))⟩,
 ⟨some 13, none, .prim (.mov (.tmp 12))⟩,
 ⟨some 14, (some (13, true)), .prim (.mov (.tmp 5))⟩,
 ⟨some 15, (some (13, true)), .prim (.lenv (.tmp 14))⟩,
 ⟨some 16, (some (13, true)), .prim (.bin false .lss (.tmp 15) (.const (.int .i64 5)))⟩,
 ⟨some 17, none, .prim (.pick (.tmp 13) (.tmp 16) (.const (.bool false)))⟩])
 (.cond (.tmp 17)
 .skip
 (.exit 0)))
 (.seq (.block 1 (.seq (.ghost (.weak 5 3) (.ops [⟨some 20, none, .prim (.mov (.tmp 0))⟩,
 ⟨some 21, none, .prim (.mov (.tmp 6))⟩,
 ⟨some 22, none, .prim (.iadrs 3 (.tmp 20) (.tmp 21))⟩,
 ⟨some 23, none, .prim (.load 3 true (.tmp 22))⟩,
 ⟨some 24, none, .call (.func 123) [(.tmp 23)]⟩,
 ⟨some 7, none, .fresh 3 7 (.tmp 24)⟩]))
 (.seq (.ops [⟨some 25, none, .prim (.mov (.tmp 5))⟩,
 ⟨some 26, none, .prim (.lenv (.tmp 25))⟩,
 ⟨some 8, none, .prim (.mov (.tmp 26))⟩])
 (.seq (.block 2 (.loop [2, 3, 4, 9, 10, 11, 12, 13, 14, 15, 16, 17, 18, 19, 20, 21, 22, 23, 24, 25, 26, 27, 28, 29, 30, 31, 32, 33, 34, 35, 36, 37, 38, 39, 40, 41, 42, 43, 44, 45, 46, 47, 48, 49, 50, 51, 52, 53, 54, 55, 56, 57, 58, 59, 60, 61, 62, 63, 64, 65, 66, 67, 68, 69, 70, 71, 72] (.seq (.seq (.draw [⟨⟨some 27, none, .prim (.mov (.tmp 8))⟩, [], false, 0, 0⟩,
 ⟨⟨some 28, none, .prim (.bin false .gtr (.tmp 27) (.const (.int .i64 0)))⟩, [0], false, 0, 0⟩,
 ⟨⟨some 29, none, .prim (.mov (.tmp 28))⟩, [0, 1], false, 0, 0⟩,
 ⟨⟨some 30, (some (29, true)), .prim (.load 3 true (.tmp 7))⟩, [0, 1, 2], false, 0, 0⟩,
 ⟨⟨some 31, (some (29, true)), .prim (.mov (.tmp 5))⟩, [0, 1, 2], false, 0, 0⟩,
 ⟨⟨some 32, (some (29, true)), .prim (.mov (.tmp 8))⟩, [0, 1, 2], false, 0, 0⟩,
 ⟨⟨some 33, (some (29, true)), .prim (.bin false .sub (.tmp 32) (.const (.int .i64 1)))⟩, [0, 1, 2, 5], false, 0, 0⟩,
 ⟨⟨some 34, (some (29, true)), .prim (.iadrs 3 (.tmp 31) (.tmp 33))⟩, [0, 1, 2, 4, 5, 6], false, 0, 0⟩,
 ⟨⟨some 35, (some (29, true)), .prim (.load 3 true (.tmp 34))⟩, [0, 1, 2, 4, 5, 6, 7], false, 0, 0⟩,
 ⟨⟨some 36, (some (29, true)), .call (.func 124) [(.tmp 30), (.tmp 35)]⟩, (List.range 9), true, 0, 0⟩,
 ⟨⟨some 37, none, .prim (.pick (.tmp 29) (.tmp 36) (.const (.bool false)))⟩, (List.range 10), false, 1, 1⟩])
 (.cond (.tmp 37)
 .skip
 (.exit 2)))
 (.block 3 (.ops [⟨some 38, none, .prim (.mov (.tmp 8))⟩,
 ⟨some 39, none, .prim (.bin false .sub (.tmp 38) (.const (.int .i64 1)))⟩,
 ⟨some 8, none, .prim (.mov (.tmp 39))⟩])))))
 (.seq (.seq (.draw [⟨⟨some 40, none, .prim (.mov (.tmp 8))⟩, [], false, 0, 0⟩,
 ⟨⟨some 41, none, .prim (.bin false .gtr (.tmp 40) (.const (.int .i64 0)))⟩, [0], false, 0, 0⟩,
 ⟨⟨some 42, none, .prim (.mov (.tmp 41))⟩, [0, 1], false, 0, 0⟩,
 ⟨⟨some 43, (some (42, true)), .prim (.mov (.tmp 5))⟩, [0, 1, 2], false, 0, 0⟩,
 ⟨⟨some 44, (some (42, true)), .prim (.mov (.tmp 8))⟩, [0, 1, 2], false, 0, 0⟩,
 ⟨⟨some 45, (some (42, true)), .prim (.bin false .sub (.tmp 44) (.const (.int .i64 1)))⟩, [0, 1, 2, 4], false, 0, 0⟩,
 ⟨⟨some 46, (some (42, true)), .prim (.iadrs 3 (.tmp 43) (.tmp 45))⟩, (List.range 6), false, 0, 0⟩,
 ⟨⟨some 47, (some (42, true)), .prim (.load 3 true (.tmp 46))⟩, (List.range 7), false, 0, 0⟩,
 ⟨⟨some 48, (some (42, true)), .prim (.load 3 true (.tmp 7))⟩, [0, 1, 2], false, 0, 0⟩,
 ⟨⟨some 49, (some (42, true)), .prim (.eqa false [.int, .str, .str] (.tmp 47) (.tmp 48))⟩, (List.range 9), false, 0, 0⟩,
 ⟨⟨some 50, none, .prim (.pick (.tmp 42) (.tmp 49) (.const (.bool false)))⟩, (List.range 10), false, 0, 0⟩])
 (.cond (.tmp 50)
 (.exit 1)
 .skip))
 (.after (.after (.after (.draw [⟨⟨some 51, none, .prim (.mov (.tmp 5))⟩, [], false, 0, 0⟩,
 ⟨⟨some 52, none, .prim (.mov (.tmp 8))⟩, [], false, 0, 0⟩,
 ⟨⟨some 53, none, .prim (.slcv 3 (.tmp 51) none (some (.tmp 52)))⟩, [0, 1], false, 0, 0⟩,
 ⟨⟨some 54, none, .prim (.app 3 (.const (.slice none 0 0)) (.tmp 53))⟩, [0, 1, 2], true, 0, 0⟩,
 ⟨⟨some 55, none, .prim (.load 3 true (.tmp 7))⟩, [], false, 0, 1⟩,
 ⟨⟨some 56, none, .prim (.bsl false 3 true 1 [.pl (.int .i64 0), .pl (.string .empty), .pl (.string .empty)] [(0, 3, (.tmp 55))])⟩, [4], false, 0, 1⟩,
 ⟨⟨some 57, none, .prim (.app 3 (.tmp 54) (.tmp 56))⟩, (List.range 6), true, 0, 0⟩,
 ⟨⟨some 58, none, .prim (.mov (.tmp 5))⟩, [], false, 0, 2⟩,
 ⟨⟨some 59, none, .prim (.mov (.tmp 8))⟩, [], false, 0, 2⟩,
 ⟨⟨some 60, none, .prim (.slcv 3 (.tmp 58) (some (.tmp 59)) none)⟩, [7, 8], false, 0, 2⟩,
 ⟨⟨some 61, none, .prim (.app 3 (.tmp 57) (.tmp 60))⟩, (List.range 10), true, 0, 0⟩,
 ⟨⟨some 5, none, .prim (.mov (.tmp 61))⟩, (List.range 11), false, 3, 3⟩]) (.shut 5)) (.clear [54, 57, 61])) (.keep 0)))))))
 (.ops [⟨some 18, none, .prim (.mov (.tmp 6))⟩,
 ⟨some 19, none, .prim (.bin false .add (.tmp 18) (.const (.int .i64 1)))⟩,
 ⟨some 6, none, .prim (.mov (.tmp 19))⟩]))))))
 (.seq (.seq (.ops [⟨some 62, none, .prim (.mov (.tmp 1))⟩,
 ⟨some 63, none, .prim (.mov (.tmp 62))⟩,
 ⟨some 64, (some (63, true)), .prim (.mov (.tmp 5))⟩,
 ⟨some 65, (some (63, true)), .prim (.lenv (.tmp 64))⟩,
 ⟨some 66, (some (63, true)), .prim (.bin false .eql (.tmp 65) (.const (.int .i64 0)))⟩,
 ⟨some 67, none, .prim (.pick (.tmp 63) (.tmp 66) (.const (.bool false)))⟩])
 (.cond (.tmp 67)
 (.ops [⟨some 68, none, .prim (.mov (.tmp 5))⟩,
 ⟨some 69, none, .prim (.build [.pl (.int .i64 0), .pl (.string .empty), .pl (.string .empty)] [(0, 1, (.const (.int .i64 1))), (1, 1, (.const (.string (ByteArray.mk #[115, 101, 118])))), (2, 1, (.const (.string (ByteArray.mk #[97]))))])⟩,
 ⟨some 70, none, .prim (.bsl false 3 true 1 [.pl (.int .i64 0), .pl (.string .empty), .pl (.string .empty)] [(0, 3, (.tmp 69))])⟩,
 ⟨some 71, none, .prim (.app 3 (.tmp 68) (.tmp 70))⟩,
 ⟨some 5, none, .prim (.mov (.tmp 71))⟩])
 .skip))
 (.seq (.ops [⟨some 72, none, .prim (.mov (.tmp 5))⟩,
 ⟨some 4, none, .prim (.mov (.tmp 72))⟩])
 (.ghost (.shut 4) .ret))))))
def o79 : List Tmp := []
def r79 : List RV := [.tmp 4]
theorem t79 : Text Tryz.prog 79 o79 c79 r79 73 := ⟨⟨Tryz.f79, _, by kernel_rfl, by kernel_rfl, rfl, by kernel_rfl, by kernel_rfl, rfl⟩, by kernel_rfl⟩
def c81 : ACode :=
 (.seq (.ops [⟨some 2, none, .prim (.mov (.const (.string (ByteArray.mk #[]))))⟩])
 (.seq (.ops [⟨some 3, none, .prim (.build [.pl (.string .empty), .pl (.string .empty), .pl (.string .empty), .pl (.string .empty), .pl (.string .empty)] [(0, 1, (.const (.string (ByteArray.mk #[115, 101, 118])))), (1, 1, (.const (.string (ByteArray.mk #[106, 111, 98])))), (2, 1, (.const (.string (ByteArray.mk #[104, 111, 115, 116])))), (3, 1, (.const (.string (ByteArray.mk #[95, 120])))), (4, 1, (.const (.string (ByteArray.mk #[90, 111, 110, 101, 57]))))])⟩,
 ⟨some 4, none, .prim (.mov (.tmp 0))⟩,
 ⟨some 5, none, .call (.func 99) [(.tmp 4), (.const (.int .i64 0)), (.const (.int .i64 4))]⟩,
 ⟨some 6, none, .prim (.idxa 1 5 false (.tmp 3) (.tmp 5))⟩,
 ⟨some 2, none, .prim (.mov (.tmp 6))⟩])
 .ret))
def o81 : List Tmp := []
def r81 : List RV := [.tmp 2]
theorem t81 : Text Tryz.prog 81 o81 c81 r81 7 := ⟨⟨Tryz.f81, _, by kernel_rfl, by kernel_rfl, rfl, by kernel_rfl, by kernel_rfl, rfl⟩, by kernel_rfl⟩
def c99 : ACode :=
 (.seq (.ops [⟨some 6, none, .prim (.mov (.const (.int .i64 0)))⟩])
 (.seq (.seq (.ops [⟨some 7, none, .prim (.mov (.tmp 0))⟩,
 ⟨some 8, none, .prim (.mov (.tmp 1))⟩,
 ⟨some 9, none, .prim (.bin false .geq (.tmp 7) (.tmp 8))⟩,
 ⟨some 10, none, .prim (.mov (.tmp 9))⟩,
 ⟨some 11, (some (10, true)), .prim (.mov (.tmp 0))⟩,
 ⟨some 12, (some (10, true)), .prim (.mov (.tmp 2))⟩,
 ⟨some 13, (some (10, true)), .prim (.bin false .leq (.tmp 11) (.tmp 12))⟩,
 ⟨some 14, none, .prim (.pick (.tmp 10) (.tmp 13) (.const (.bool false)))⟩])
 (.cond (.tmp 14)
 (.seq (.ops [⟨some 15, none, .prim (.mov (.tmp 0))⟩,
 ⟨some 6, none, .prim (.mov (.tmp 15))⟩])
 .ret)
 .skip))
 (.seq (.ops [⟨some 16, none, .prim (.mov (.tmp 0))⟩,
 ⟨some 17, none, .prim (.mov (.tmp 1))⟩,
 ⟨some 18, none, .prim (.mov (.tmp 2))⟩,
 ⟨some 19, none, .call (.func 100) [(.tmp 16), (.tmp 17), (.tmp 18)]⟩,
 ⟨some 6, none, .prim (.mov (.tmp 19))⟩])
 .ret)))
def o99 : List Tmp := []
def r99 : List RV := [.tmp 6]
theorem t99 : Text Tryz.prog 99 o99 c99 r99 20 := ⟨⟨Tryz.f99, _, by kernel_rfl, by kernel_rfl, rfl, by kernel_rfl, by kernel_rfl, rfl⟩, by kernel_rfl⟩
def c100 : ACode :=
 (.seq (.ops [⟨some 6, none, .prim (.mov (.const (.int .i64 0)))⟩])
 (.seq (.ops [⟨some 7, none, .prim (.mov (.tmp 0))⟩,
 ⟨some 8, none, .prim (.mov (.tmp 2))⟩,
 ⟨some 9, none, .prim (.mov (.tmp 1))⟩,
 ⟨some 10, none, .prim (.bin false .sub (.tmp 8) (.tmp 9))⟩,
 ⟨some 11, none, .prim (.bin false .add (.tmp 10) (.const (.int .i64 1)))⟩,
 ⟨some 12, none, .prim (.bin false .rem (.tmp 7) (.tmp 11))⟩,
 ⟨some 0, none, .prim (.mov (.tmp 12))⟩])
 (.seq (.seq (.ops [⟨some 13, none, .prim (.mov (.tmp 0))⟩,
 ⟨some 14, none, .prim (.bin false .lss (.tmp 13) (.const (.int .i64 0)))⟩])
 (.cond (.tmp 14)
 (.ops [⟨some 15, none, .prim (.mov (.tmp 0))⟩,
 ⟨some 16, none, .prim (.mov (.tmp 2))⟩,
 ⟨some 17, none, .prim (.bin false .add (.tmp 15) (.tmp 16))⟩,
 ⟨some 18, none, .prim (.mov (.tmp 1))⟩,
 ⟨some 19, none, .prim (.bin false .sub (.tmp 17) (.tmp 18))⟩,
 ⟨some 20, none, .prim (.bin false .add (.tmp 19) (.const (.int .i64 1)))⟩,
 ⟨some 0, none, .prim (.mov (.tmp 20))⟩])
 .skip))
 (.seq (.ops [⟨some 21, none, .prim (.mov (.tmp 1))⟩,
 ⟨some 22, none, .prim (.mov (.tmp 0))⟩,
 ⟨some 23, none, .prim (.bin false .add (.tmp 21) (.tmp 22))⟩,
 ⟨some 6, none, .prim (.mov (.tmp 23))⟩])
 .ret))))
def o100 : List Tmp := []
def r100 : List RV := [.tmp 6]
theorem t100 : Text Tryz.prog 100 o100 c100 r100 24 := ⟨⟨Tryz.f100, _, by kernel_rfl, by kernel_rfl, rfl, by kernel_rfl, by kernel_rfl, rfl⟩, by kernel_rfl⟩
def c106 : ACode :=
 (.seq (.ops [⟨some 2, none, .prim (.mov (.const (.bool false)))⟩])
 (.seq (.seq (.ops [⟨some 5, none, .prim (.mov (.tmp 0))⟩,
 ⟨some 6, none, .prim (.lenv (.tmp 5))⟩,
 ⟨some 7, none, .prim (.bin false .gtr (.tmp 6) (.const (.int .i64 5)))⟩])
 (.cond (.tmp 7)
 (.seq (.ops [⟨some 2, none, .prim (.mov (.const (.bool false)))⟩])
 .ret)
 .skip))
 (.seq (.seq (.ops [⟨some 8, none, .prim (.mov (.tmp 0))⟩,
 ⟨some 9, none, .prim (.lenv (.tmp 8))⟩,
 ⟨some 10, none, .prim (.mov (.const (.int .i64 0)))⟩])
 (.block 0 (.loop [1, 2, 3, 4, 5, 6, 7, 11, 12, 13, 14, 15, 16, 17, 18, 19, 20, 21, 22, 23, 24, 25, 26, 27, 28, 29, 30, 31, 32] (.seq (.ops [⟨some 11, none, .prim (.bin false .lss (.tmp 10) (.tmp 9))⟩])
 (.seq (.cond (.tmp 11)
 .skip
 (.exit 0))
 (.seq (.block 1 (.seq (.ops [⟨some 12, none, .prim (.mov (.tmp 10))⟩,
 ⟨some 13, none, .prim (.iadrs 3 (.tmp 8) (.tmp 10))⟩,
 ⟨some 14, none, .prim (.load 3 true (.tmp 13))⟩,
 ⟨some 4, none, .prim (.allocm [.pl (.int .i64 0), .pl (.string .empty), .pl (.string .empty)])⟩,
 ⟨some 3, none, .prim (.mov (.tmp 12))⟩,
 ⟨none, none, .prim (.store 3 (.tmp 4) (.tmp 14))⟩])
 (.seq (.draw [⟨⟨some 15, none, .prim (.load 3 true (.tmp 4))⟩, [], false, 0, 0⟩,
 ⟨⟨some 16, none, .call (.func 142) [(.tmp 15)]⟩, [0], true, 0, 0⟩,
 ⟨⟨some 17, none, .prim (.un .not (.tmp 16))⟩, [0, 1], false, 1, 1⟩,
 ⟨⟨some 18, none, .prim (.mov (.tmp 17))⟩, [0, 1, 2], false, 1, 1⟩,
 ⟨⟨some 19, (some (18, false)), .prim (.mov (.tmp 3))⟩, [0, 1, 2, 3], false, 1, 1⟩,
 ⟨⟨some 20, (some (18, false)), .prim (.bin false .gtr (.tmp 19) (.const (.int .i64 0)))⟩, [0, 1, 2, 3, 4], false, 1, 1⟩,
 ⟨⟨some 21, (some (18, false)), .prim (.mov (.tmp 20))⟩, (List.range 6), false, 1, 1⟩,
 ⟨⟨some 22, (some (21, true)), .prim (.mov (.tmp 0))⟩, (List.range 7), false, 1, 1⟩,
 ⟨⟨some 23, (some (21, true)), .prim (.mov (.tmp 3))⟩, (List.range 7), false, 1, 1⟩,
 ⟨⟨some 24, (some (21, true)), .prim (.bin false .sub (.tmp 23) (.const (.int .i64 1)))⟩, [0, 1, 2, 3, 4, 5, 6, 8], false, 1, 1⟩,
 ⟨⟨some 25, (some (21, true)), .prim (.iadrs 3 (.tmp 22) (.tmp 24))⟩, (List.range 10), false, 1, 1⟩,
 ⟨⟨some 26, (some (21, true)), .prim (.load 3 true (.tmp 25))⟩, (List.range 11), false, 1, 1⟩,
 ⟨⟨some 27, (some (21, true)), .prim (.load 3 true (.tmp 4))⟩, (List.range 7), false, 1, 1⟩,
 ⟨⟨some 28, (some (21, true)), .call (.func 143) [(.tmp 26), (.tmp 27)]⟩, (List.range 13), true, 0, 0⟩,
 ⟨⟨some 29, (some (21, true)), .prim (.bin false .geq (.tmp 28) (.const (.int .i64 0)))⟩, (List.range 14), false, 2, 2⟩,
 ⟨⟨some 30, (some (18, false)), .prim (.pick (.tmp 21) (.tmp 29) (.const (.bool false)))⟩, (List.range 15), false, 2, 2⟩,
 ⟨⟨some 31, none, .prim (.pick (.tmp 18) (.const (.bool true)) (.tmp 30))⟩, (List.range 16), false, 2, 2⟩])
 (.cond (.tmp 31)
 (.seq (.ops [⟨some 2, none, .prim (.mov (.const (.bool false)))⟩])
 .ret)
 .skip))))
 (.after (.after (.ops [⟨some 32, none, .prim (.bin false .add (.tmp 10) (.const (.int .i64 1)))⟩,
 ⟨some 10, none, .prim (.mov (.tmp 32))⟩]) (.clear [4])) (.keep 0))))))))
 (.seq (.ops [⟨some 2, none, .prim (.mov (.const (.bool true)))⟩])
 .ret))))
def o106 : List Tmp := [4]
def r106 : List RV := [.tmp 2]
theorem t106 : Text Tryz.prog 106 o106 c106 r106 33 := ⟨⟨Tryz.f106, _, by kernel_rfl, by kernel_rfl, rfl, by kernel_rfl, by kernel_rfl, rfl⟩, by kernel_rfl⟩
def c108 : ACode :=
 (.seq (.ops [⟨some 2, none, .prim (.mov (.const (.bool false)))⟩])
 (.seq (.seq (.ops [⟨some 4, none, .prim (.mov (.tmp 0))⟩,
 ⟨some 5, none, .prim (.lens (.tmp 4))⟩,
 ⟨some 6, none, .prim (.bin false .lss (.tmp 5) (.const (.int .i64 1)))⟩,
 ⟨some 7, none, .prim (.mov (.tmp 6))⟩,
 ⟨some 8, (some (7, false)), .prim (.mov (.tmp 0))⟩,
 ⟨some 9, (some (7, false)), .prim (.lens (.tmp 8))⟩,
 ⟨some 10, (some (7, false)), .prim (.bin false .gtr (.tmp 9) (.const (.int .i64 12)))⟩,
 ⟨some 11, none, .prim (.pick (.tmp 7) (.const (.bool true)) (.tmp 10))⟩,
 ⟨some 12, none, .prim (.mov (.tmp 11))⟩,
 ⟨some 13, (some (12, false)), .prim (.mov (.tmp 0))⟩,
 ⟨some 14, (some (12, false)), .prim (.idxs (.tmp 13) (.const (.int .i64 0)))⟩,
 ⟨some 15, (some (12, false)), .call (.func 144) [(.tmp 14)]⟩,
 ⟨some 16, (some (12, false)), .prim (.un .not (.tmp 15))⟩,
 ⟨some 17, none, .prim (.pick (.tmp 12) (.const (.bool true)) (.tmp 16))⟩])
 (.cond (.tmp 17)
 (.seq (.ops [⟨some 2, none, .prim (.mov (.const (.bool false)))⟩])
 .ret)
 .skip))
 (.seq (.seq (.ops [⟨some 18, none, .prim (.mov (.tmp 0))⟩,
 ⟨some 19, none, .prim (.lens (.tmp 18))⟩,
 ⟨some 20, none, .prim (.mov (.const (.int .i64 0)))⟩])
 (.block 0 (.loop [1, 2, 3, 4, 5, 6, 7, 8, 9, 10, 11, 12, 13, 14, 15, 16, 17, 18, 21, 22, 23, 24, 25, 26, 27, 28, 29, 30, 31, 32, 33, 34, 35, 36, 37, 38, 39, 40] (.seq (.ops [⟨some 21, none, .prim (.bin false .lss (.tmp 20) (.tmp 19))⟩])
 (.seq (.cond (.tmp 21)
 .skip
 (.exit 0))
 (.seq (.block 1 (.seq (.ops [⟨some 22, none, .prim (.mov (.tmp 20))⟩,
 ⟨some 3, none, .prim (.mov (.tmp 22))⟩])
 (.seq (.ops [⟨some 23, none, .prim (.mov (.tmp 0))⟩,
 ⟨some 24, none, .prim (.mov (.tmp 3))⟩,
 ⟨some 25, none, .prim (.idxs (.tmp 23) (.tmp 24))⟩,
 ⟨some 26, none, .call (.func 144) [(.tmp 25)]⟩,
 ⟨some 27, none, .prim (.un .not (.tmp 26))⟩,
 ⟨some 28, none, .prim (.mov (.tmp 27))⟩,
 ⟨some 29, (some (28, true)), .prim (.mov (.tmp 0))⟩,
 ⟨some 30, (some (28, true)), .prim (.mov (.tmp 3))⟩,
 ⟨some 31, (some (28, true)), .prim (.idxs (.tmp 29) (.tmp 30))⟩,
 ⟨some 32, (some (28, true)), .prim (.bin false .lss (.tmp 31) (.const (.int .u8 48)))⟩,
 ⟨some 33, (some (28, true)), .prim (.mov (.tmp 32))⟩,
 ⟨some 34, (some (33, false)), .prim (.mov (.tmp 0))⟩,
 ⟨some 35, (some (33, false)), .prim (.mov (.tmp 3))⟩,
 ⟨some 36, (some (33, false)), .prim (.idxs (.tmp 34) (.tmp 35))⟩,
 ⟨some 37, (some (33, false)), .prim (.bin false .gtr (.tmp 36) (.const (.int .u8 57)))⟩,
 ⟨some 38, (some (28, true)), .prim (.pick (.tmp 33) (.const (.bool true)) (.tmp 37))⟩,
 ⟨some 39, none, .prim (.pick (.tmp 28) (.tmp 38) (.const (.bool false)))⟩])
 (.cond (.tmp 39)
 (.seq (.ops [⟨some 2, none, .prim (.mov (.const (.bool false)))⟩])
 .ret)
 .skip))))
 (.ops [⟨some 40, none, .prim (.bin false .add (.tmp 20) (.const (.int .i64 1)))⟩,
 ⟨some 20, none, .prim (.mov (.tmp 40))⟩])))))))
 (.seq (.ops [⟨some 2, none, .prim (.mov (.const (.bool true)))⟩])
 .ret))))
def o108 : List Tmp := []
def r108 : List RV := [.tmp 2]
theorem t108 : Text Tryz.prog 108 o108 c108 r108 41 := ⟨⟨Tryz.f108, _, by kernel_rfl, by kernel_rfl, rfl, by kernel_rfl, by kernel_rfl, rfl⟩, by kernel_rfl⟩
def c123 : ACode :=
 (.seq (.ops [⟨some 1, none, .prim (.boxr (.tmp 0))⟩,
 ⟨some 2, none, .prim (.allocm [.pl (.int .i64 0), .pl (.string .empty), .pl (.string .empty)])⟩])
 (.seq (.draw [⟨⟨some 4, none, .prim (.fadr 0 (.tmp 1))⟩, [], false, 0, 1⟩,
 ⟨⟨some 5, none, .prim (.load 1 false (.tmp 4))⟩, [0], false, 0, 1⟩,
 ⟨⟨some 6, none, .call (.func 99) [(.tmp 5), (.const (.int .i64 1)), (.const (.int .i64 4))]⟩, [0, 1], false, 0, 1⟩,
 ⟨⟨some 7, none, .prim (.fadr 1 (.tmp 1))⟩, [], false, 0, 1⟩,
 ⟨⟨some 8, none, .prim (.load 1 false (.tmp 7))⟩, [3], false, 0, 1⟩,
 ⟨⟨some 9, none, .call (.func 81) [(.tmp 8)]⟩, [0, 1, 2, 3, 4], false, 0, 1⟩,
 ⟨⟨some 10, none, .prim (.fadr 2 (.tmp 1))⟩, [], false, 0, 1⟩,
 ⟨⟨some 11, none, .prim (.load 1 false (.tmp 10))⟩, [6], false, 0, 1⟩,
 ⟨⟨some 12, none, .call (.func 152) [(.tmp 11)]⟩, (List.range 8), false, 0, 1⟩,
 ⟨⟨some 13, none, .prim (.build [.pl (.int .i64 0), .pl (.string .empty), .pl (.string .empty)] [(0, 1, (.tmp 6)), (1, 1, (.tmp 9)), (2, 1, (.tmp 12))])⟩, (List.range 9), false, 0, 1⟩,
 ⟨⟨some 3, none, .prim (.allocm [.pl (.int .i64 0), .pl (.string .empty), .pl (.string .empty)])⟩, [], true, 0, 0⟩,
 ⟨⟨none, none, .prim (.store 3 (.tmp 3) (.tmp 13))⟩, (List.range 11), true, 0, 0⟩])
 (.seq (.seq (.ops [⟨some 14, none, .prim (.fadr 0 (.tmp 3))⟩,
 ⟨some 15, none, .prim (.load 1 false (.tmp 14))⟩,
 ⟨some 16, none, .prim (.bin false .lss (.tmp 15) (.const (.int .i64 3)))⟩])
 (.cond (.tmp 16)
 (.seq (.ops [⟨some 17, none, .prim (.fadr 2 (.tmp 1))⟩,
 ⟨some 18, none, .prim (.load 1 false (.tmp 17))⟩,
 ⟨some 19, none, .call (.func 133) [(.tmp 18)]⟩,
 ⟨some 20, none, .prim (.fadr 2 (.tmp 3))⟩,
 ⟨none, none, .prim (.store 1 (.tmp 20) (.tmp 19))⟩])
 (.seq (.ops [⟨some 21, none, .prim (.fadr 2 (.tmp 1))⟩,
 ⟨some 22, none, .prim (.load 1 false (.tmp 21))⟩,
 ⟨some 23, none, .prim (.bin false .lss (.tmp 22) (.const (.int .i64 0)))⟩])
 (.cond (.tmp 23)
 (.ops [⟨some 24, none, .prim (.fadr 2 (.tmp 3))⟩,
 ⟨none, none, .prim (.store 1 (.tmp 24) (.const (.string (ByteArray.mk #[]))))⟩])
 .skip)))
 .skip))
 (.seq (.ops [⟨some 25, none, .prim (.load 3 true (.tmp 3))⟩,
 ⟨none, none, .prim (.store 3 (.tmp 2) (.tmp 25))⟩])
 .ret))))
def o123 : List Tmp := [2, 3]
def r123 : List RV := [.cell 2 3 true]
theorem t123 : Text Tryz.prog 123 o123 c123 r123 26 := ⟨⟨Tryz.f123, _, by kernel_rfl, by kernel_rfl, rfl, by kernel_rfl, by kernel_rfl, rfl⟩, by kernel_rfl⟩
def c124 : ACode :=
 (.seq (.ops [⟨some 2, none, .prim (.boxr (.tmp 0))⟩,
 ⟨some 3, none, .prim (.boxr (.tmp 1))⟩,
 ⟨some 4, none, .prim (.mov (.const (.bool false)))⟩])
 (.seq (.seq (.ops [⟨some 5, none, .prim (.fadr 1 (.tmp 2))⟩,
 ⟨some 6, none, .prim (.load 1 false (.tmp 5))⟩,
 ⟨some 7, none, .prim (.fadr 1 (.tmp 3))⟩,
 ⟨some 8, none, .prim (.load 1 false (.tmp 7))⟩,
 ⟨some 9, none, .prim (.bin false .neq (.tmp 6) (.tmp 8))⟩])
 (.cond (.tmp 9)
 (.seq (.ops [⟨some 10, none, .prim (.fadr 1 (.tmp 2))⟩,
 ⟨some 11, none, .prim (.load 1 false (.tmp 10))⟩,
 ⟨some 12, none, .prim (.fadr 1 (.tmp 3))⟩,
 ⟨some 13, none, .prim (.load 1 false (.tmp 12))⟩,
 ⟨some 14, none, .prim (.bin false .lss (.tmp 11) (.tmp 13))⟩,
 ⟨some 4, none, .prim (.mov (.tmp 14))⟩])
 .ret)
 .skip))
 (.seq (.seq (.ops [⟨some 15, none, .prim (.fadr 0 (.tmp 2))⟩,
 ⟨some 16, none, .prim (.load 1 false (.tmp 15))⟩,
 ⟨some 17, none, .prim (.fadr 0 (.tmp 3))⟩,
 ⟨some 18, none, .prim (.load 1 false (.tmp 17))⟩,
 ⟨some 19, none, .prim (.bin false .neq (.tmp 16) (.tmp 18))⟩])
 (.cond (.tmp 19)
 (.seq (.ops [⟨some 20, none, .prim (.fadr 0 (.tmp 2))⟩,
 ⟨some 21, none, .prim (.load 1 false (.tmp 20))⟩,
 ⟨some 22, none, .prim (.fadr 0 (.tmp 3))⟩,
 ⟨some 23, none, .prim (.load 1 false (.tmp 22))⟩,
 ⟨some 24, none, .prim (.bin false .lss (.tmp 21) (.tmp 23))⟩,
 ⟨some 4, none, .prim (.mov (.tmp 24))⟩])
 .ret)
 .skip))
 (.seq (.ops [⟨some 25, none, .prim (.fadr 2 (.tmp 2))⟩,
 ⟨some 26, none, .prim (.load 1 false (.tmp 25))⟩,
 ⟨some 27, none, .prim (.fadr 2 (.tmp 3))⟩,
 ⟨some 28, none, .prim (.load 1 false (.tmp 27))⟩,
 ⟨some 29, none, .prim (.bin false .lss (.tmp 26) (.tmp 28))⟩,
 ⟨some 4, none, .prim (.mov (.tmp 29))⟩])
 .ret))))
def o124 : List Tmp := []
def r124 : List RV := [.tmp 4]
theorem t124 : Text Tryz.prog 124 o124 c124 r124 30 := ⟨⟨Tryz.f124, _, by kernel_rfl, by kernel_rfl, rfl, by kernel_rfl, by kernel_rfl, rfl⟩, by kernel_rfl⟩
def c132 : ACode :=
 (.seq (.ops [⟨some 2, none, .prim (.mov (.const (.bool false)))⟩])
 (.seq (.ops [⟨some 3, none, .prim (.mov (.tmp 0))⟩,
 ⟨some 4, none, .prim (.mov (.tmp 0))⟩,
 ⟨some 5, none, .prim (.bin false .neq (.tmp 3) (.tmp 4))⟩,
 ⟨some 2, none, .prim (.mov (.tmp 5))⟩])
 .ret))
def o132 : List Tmp := []
def r132 : List RV := [.tmp 2]
theorem t132 : Text Tryz.prog 132 o132 c132 r132 6 := ⟨⟨Tryz.f132, _, by kernel_rfl, by kernel_rfl, rfl, by kernel_rfl, by kernel_rfl, rfl⟩, by kernel_rfl⟩
def c133 : ACode :=
 (.seq (.ops [⟨some 2, none, .prim (.mov (.const (.string (ByteArray.mk #[]))))⟩])
 (.seq (.ops [⟨some 3, none, .prim (.build [.pl (.string .empty), .pl (.string .empty), .pl (.string .empty), .pl (.string .empty), .pl (.string .empty), .pl (.string .empty), .pl (.string .empty)] [(0, 1, (.const (.string (ByteArray.mk #[97])))), (1, 1, (.const (.string (ByteArray.mk #[98])))), (2, 1, (.const (.string (ByteArray.mk #[99, 114, 105, 116])))), (3, 1, (.const (.string (ByteArray.mk #[119, 97, 114, 110])))), (4, 1, (.const (.string (ByteArray.mk #[97, 98])))), (5, 1, (.const (.string (ByteArray.mk #[0, 255])))), (6, 1, (.const (.string (ByteArray.mk #[97, 98, 97, 98, 97, 98, 97, 98, 97, 98, 97, 98, 97, 98, 97, 98, 97, 98, 97, 98, 97, 98, 97, 98]))))])⟩,
 ⟨some 4, none, .prim (.mov (.tmp 0))⟩,
 ⟨some 5, none, .call (.func 99) [(.tmp 4), (.const (.int .i64 0)), (.const (.int .i64 6))]⟩,
 ⟨some 6, none, .prim (.idxa 1 7 false (.tmp 3) (.tmp 5))⟩,
 ⟨some 2, none, .prim (.mov (.tmp 6))⟩])
 .ret))
def o133 : List Tmp := []
def r133 : List RV := [.tmp 2]
theorem t133 : Text Tryz.prog 133 o133 c133 r133 7 := ⟨⟨Tryz.f133, _, by kernel_rfl, by kernel_rfl, rfl, by kernel_rfl, by kernel_rfl, rfl⟩, by kernel_rfl⟩
def c142 : ACode :=
 (.seq (.ops [⟨some 1, none, .prim (.boxr (.tmp 0))⟩,
 ⟨some 2, none, .prim (.mov (.const (.bool false)))⟩])
 (.seq (.seq (.ops [⟨some 5, none, .prim (.fadr 1 (.tmp 1))⟩,
 ⟨some 6, none, .prim (.load 1 false (.tmp 5))⟩,
 ⟨some 7, none, .call (.func 108) [(.tmp 6)]⟩,
 ⟨some 8, none, .prim (.un .not (.tmp 7))⟩])
 (.cond (.tmp 8)
 (.seq (.ops [⟨some 2, none, .prim (.mov (.const (.bool false)))⟩])
 .ret)
 .skip))
 (.seq (.seq (.ops [⟨some 9, none, .prim (.load 3 true (.tmp 1))⟩,
 ⟨some 10, none, .call (.func 159) [(.tmp 9)]⟩])
 (.cond (.tmp 10)
 (.seq (.ops [⟨some 12, none, .prim (.fadr 2 (.tmp 1))⟩,
 ⟨some 13, none, .prim (.load 1 false (.tmp 12))⟩,
 ⟨some 14, none, .call (.func 160) [(.tmp 13)]⟩,
 ⟨some 11, none, .prim (.mov (.tmp 14))⟩,
 ⟨some 15, none, .prim (.extr 0 (.tmp 11))⟩,
 ⟨some 16, none, .prim (.extr 1 (.tmp 11))⟩,
 ⟨some 3, none, .fresh 6 3 (.tmp 15)⟩,
 ⟨some 4, none, .prim (.mov (.tmp 16))⟩])
 (.seq (.ops [⟨some 17, none, .prim (.mov (.tmp 4))⟩,
 ⟨some 2, none, .prim (.mov (.tmp 17))⟩])
 .ret))
 .skip))
 (.seq (.ops [⟨some 18, none, .prim (.fadr 0 (.tmp 1))⟩,
 ⟨some 19, none, .prim (.load 1 false (.tmp 18))⟩,
 ⟨some 20, none, .prim (.bin false .eql (.tmp 19) (.const (.int .i64 1)))⟩,
 ⟨some 21, none, .prim (.mov (.tmp 20))⟩,
 ⟨some 22, (some (21, false)), .prim (.fadr 0 (.tmp 1))⟩,
 ⟨some 23, (some (21, false)), .prim (.load 1 false (.tmp 22))⟩,
 ⟨some 24, (some (21, false)), .prim (.bin false .eql (.tmp 23) (.const (.int .i64 2)))⟩,
 ⟨some 25, none, .prim (.pick (.tmp 21) (.const (.bool true)) (.tmp 24))⟩,
 ⟨some 26, none, .prim (.mov (.tmp 25))⟩,
 ⟨some 27, (some (26, true)), .prim (.fadr 2 (.tmp 1))⟩,
 ⟨some 28, (some (26, true)), .prim (.load 1 false (.tmp 27))⟩,
 ⟨some 29, (some (26, true)), .prim (.lens (.tmp 28))⟩,
 ⟨some 30, (some (26, true)), .prim (.bin false .leq (.tmp 29) (.const (.int .i64 24)))⟩,
 ⟨some 31, none, .prim (.pick (.tmp 26) (.tmp 30) (.const (.bool false)))⟩,
 ⟨some 2, none, .prim (.mov (.tmp 31))⟩])
 .ret))))
def o142 : List Tmp := []
def r142 : List RV := [.tmp 2]
theorem t142 : Text Tryz.prog 142 o142 c142 r142 32 := ⟨⟨Tryz.f142, _, by kernel_rfl, by kernel_rfl, rfl, by kernel_rfl, by kernel_rfl, rfl⟩, by kernel_rfl⟩
def c143 : ACode :=
 (.seq (.ops [⟨some 2, none, .prim (.boxr (.tmp 0))⟩,
 ⟨some 3, none, .prim (.boxr (.tmp 1))⟩,
 ⟨some 4, none, .prim (.mov (.const (.int .i64 0)))⟩])
 (.seq (.draw [⟨⟨some 5, none, .prim (.fadr 1 (.tmp 2))⟩, [], false, 0, 0⟩,
 ⟨⟨some 6, none, .prim (.load 1 false (.tmp 5))⟩, [0], false, 0, 0⟩,
 ⟨⟨some 7, none, .prim (.fadr 1 (.tmp 3))⟩, [], false, 0, 0⟩,
 ⟨⟨some 8, none, .prim (.load 1 false (.tmp 7))⟩, [2], false, 0, 0⟩,
 ⟨⟨some 9, none, .call (.func 162) [(.tmp 6), (.tmp 8)]⟩, [0, 1, 2, 3], true, 0, 0⟩,
 ⟨⟨some 10, none, .prim (.fadr 0 (.tmp 2))⟩, [], false, 0, 1⟩,
 ⟨⟨some 11, none, .prim (.load 1 false (.tmp 10))⟩, [5], false, 0, 1⟩,
 ⟨⟨some 12, none, .prim (.fadr 0 (.tmp 3))⟩, [], false, 0, 1⟩,
 ⟨⟨some 13, none, .prim (.load 1 false (.tmp 12))⟩, [7], false, 0, 1⟩,
 ⟨⟨some 14, none, .call (.func 163) [(.tmp 11), (.tmp 13)]⟩, (List.range 9), true, 0, 0⟩,
 ⟨⟨some 15, none, .prim (.fadr 2 (.tmp 2))⟩, [], false, 0, 2⟩,
 ⟨⟨some 16, none, .prim (.load 1 false (.tmp 15))⟩, [10], false, 0, 2⟩,
 ⟨⟨some 17, none, .prim (.fadr 2 (.tmp 3))⟩, [], false, 0, 2⟩,
 ⟨⟨some 18, none, .prim (.load 1 false (.tmp 17))⟩, [12], false, 0, 2⟩,
 ⟨⟨some 19, none, .call (.func 162) [(.tmp 16), (.tmp 18)]⟩, (List.range 14), true, 0, 0⟩,
 ⟨⟨some 20, none, .prim (.bsl false 1 false 3 [.pl (.int .i64 0)] [(0, 1, (.tmp 9)), (1, 1, (.tmp 14)), (2, 1, (.tmp 19))])⟩, (List.range 15), false, 3, 3⟩,
 ⟨⟨some 21, none, .call (.func 161) [(.tmp 20)]⟩, (List.range 16), true, 0, 0⟩,
 ⟨⟨some 4, none, .prim (.mov (.tmp 21))⟩, (List.range 17), false, 4, 4⟩])
 .ret))
def o143 : List Tmp := []
def r143 : List RV := [.tmp 4]
theorem t143 : Text Tryz.prog 143 o143 c143 r143 22 := ⟨⟨Tryz.f143, _, by kernel_rfl, by kernel_rfl, rfl, by kernel_rfl, by kernel_rfl, rfl⟩, by kernel_rfl⟩
def c144 : ACode :=
 (.seq (.ops [⟨some 2, none, .prim (.mov (.const (.bool false)))⟩])
 (.seq (.ops [⟨some 3, none, .prim (.mov (.tmp 0))⟩,
 ⟨some 4, none, .prim (.bin false .geq (.tmp 3) (.const (.int .u8 97)))⟩,
 ⟨some 5, none, .prim (.mov (.tmp 4))⟩,
 ⟨some 6, (some (5, true)), .prim (.mov (.tmp 0))⟩,
 ⟨some 7, (some (5, true)), .prim (.bin false .leq (.tmp 6) (.const (.int .u8 122)))⟩,
 ⟨some 8, none, .prim (.pick (.tmp 5) (.tmp 7) (.const (.bool false)))⟩,
 ⟨some 9, none, .prim (.mov (.tmp 8))⟩,
 ⟨some 10, (some (9, false)), .prim (.mov (.tmp 0))⟩,
 ⟨some 11, (some (9, false)), .prim (.bin false .geq (.tmp 10) (.const (.int .u8 65)))⟩,
 ⟨some 12, (some (9, false)), .prim (.mov (.tmp 11))⟩,
 ⟨some 13, (some (12, true)), .prim (.mov (.tmp 0))⟩,
 ⟨some 14, (some (12, true)), .prim (.bin false .leq (.tmp 13) (.const (.int .u8 90)))⟩,
 ⟨some 15, (some (9, false)), .prim (.pick (.tmp 12) (.tmp 14) (.const (.bool false)))⟩,
 ⟨some 16, none, .prim (.pick (.tmp 9) (.const (.bool true)) (.tmp 15))⟩,
 ⟨some 17, none, .prim (.mov (.tmp 16))⟩,
 ⟨some 18, (some (17, false)), .prim (.mov (.tmp 0))⟩,
 ⟨some 19, (some (17, false)), .prim (.bin false .eql (.tmp 18) (.const (.int .u8 95)))⟩,
 ⟨some 20, none, .prim (.pick (.tmp 17) (.const (.bool true)) (.tmp 19))⟩,
 ⟨some 2, none, .prim (.mov (.tmp 20))⟩])
 .ret))
def o144 : List Tmp := []
def r144 : List RV := [.tmp 2]
theorem t144 : Text Tryz.prog 144 o144 c144 r144 21 := ⟨⟨Tryz.f144, _, by kernel_rfl, by kernel_rfl, rfl, by kernel_rfl, by kernel_rfl, rfl⟩, by kernel_rfl⟩
def c146 : ACode :=
 (.seq (.ops [⟨some 3, none, .prim (.boxr (.tmp 1))⟩,
 ⟨some 4, none, .prim (.mov (.const (.bool false)))⟩])
 (.seq (.ops [⟨some 5, none, .prim (.mov (.tmp 0))⟩,
 ⟨some 6, none, .prim (.mkfn 166 [] [(.tmp 3)])⟩,
 ⟨some 7, none, .call (.func 165) [(.tmp 5), (.tmp 6)]⟩,
 ⟨some 8, none, .prim (.un .not (.tmp 7))⟩,
 ⟨some 4, none, .prim (.mov (.tmp 8))⟩])
 .ret))
def o146 : List Tmp := []
def r146 : List RV := [.tmp 4]
theorem t146 : Text Tryz.prog 146 o146 c146 r146 9 := ⟨⟨Tryz.f146, _, by kernel_rfl, by kernel_rfl, rfl, by kernel_rfl, by kernel_rfl, rfl⟩, by kernel_rfl⟩
def c148 : ACode :=
 (.seq (.ops [⟨some 4, none, .prim (.mov (.const (.string (ByteArray.mk #[]))))⟩])
 (.seq (.after (.ops [⟨some 5, none, .prim (.mov (.const (.slice none 0 0)))⟩]) (.own 5 1))
 (.seq (.seq (.ops [⟨some 8, none, .prim (.mov (.tmp 1))⟩,
 ⟨some 9, none, .prim (.lenv (.tmp 8))⟩,
 ⟨some 10, none, .prim (.mov (.const (.int .i64 0)))⟩])
 (.block 0 (.loop [1, 2, 3, 4, 6, 7, 11, 12, 13, 14, 15, 16, 17, 18, 19, 20, 21, 22] (.seq (.ops [⟨some 11, none, .prim (.bin false .lss (.tmp 10) (.tmp 9))⟩])
 (.seq (.cond (.tmp 11)
 .skip
 (.exit 0))
 (.seq (.block 1 (.seq (.ops [⟨some 12, none, .prim (.iadrs 1 (.tmp 8) (.tmp 10))⟩,
 ⟨some 13, none, .prim (.load 1 false (.tmp 12))⟩,
 ⟨some 7, none, .prim (.mov (.tmp 13))⟩])
 (.ops [⟨some 14, none, .prim (.mov (.tmp 5))⟩,
 ⟨some 15, none, .prim (.mov (.tmp 0))⟩,
 ⟨some 16, none, .prim (.mov (.tmp 7))⟩,
 ⟨some 17, none, .call (.func 168) [(.tmp 15), (.tmp 16)]⟩,
 ⟨some 18, none, .call (.func 72) [(.tmp 17)]⟩,
 ⟨some 19, none, .prim (.app 1 (.tmp 14) (.tmp 18))⟩,
 ⟨some 5, none, .prim (.mov (.tmp 19))⟩])))
 (.ops [⟨some 20, none, .prim (.bin false .add (.tmp 10) (.const (.int .i64 1)))⟩,
 ⟨some 10, none, .prim (.mov (.tmp 20))⟩])))))))
 (.seq (.ops [⟨some 21, none, .prim (.mov (.tmp 5))⟩,
 ⟨some 22, none, .prim (.b2s (.tmp 21))⟩,
 ⟨some 4, none, .prim (.mov (.tmp 22))⟩])
 .ret))))
def o148 : List Tmp := []
def r148 : List RV := [.tmp 4]
theorem t148 : Text Tryz.prog 148 o148 c148 r148 23 := ⟨⟨Tryz.f148, _, by kernel_rfl, by kernel_rfl, rfl, by kernel_rfl, by kernel_rfl, rfl⟩, by kernel_rfl⟩
def c152 : ACode :=
 (.seq (.ops [⟨some 2, none, .prim (.mov (.const (.string (ByteArray.mk #[]))))⟩])
 (.seq (.ops [⟨some 3, none, .prim (.build [.pl (.string .empty), .pl (.string .empty), .pl (.string .empty), .pl (.string .empty), .pl (.string .empty), .pl (.string .empty), .pl (.string .empty), .pl (.string .empty), .pl (.string .empty)] [(0, 1, (.const (.string (ByteArray.mk #[97, 124, 98])))), (1, 1, (.const (.string (ByteArray.mk #[])))), (2, 1, (.const (.string (ByteArray.mk #[40, 99, 114, 105, 116, 124, 119, 97, 114, 110, 41])))), (3, 1, (.const (.string (ByteArray.mk #[91, 97, 45, 99, 93, 43, 46, 42])))), (4, 1, (.const (.string (ByteArray.mk #[46, 43])))), (5, 1, (.const (.string (ByteArray.mk #[40, 97, 98, 41, 42])))), (6, 1, (.const (.string (ByteArray.mk #[97, 63, 98, 63])))), (7, 1, (.const (.string (ByteArray.mk #[91, 94, 97, 93, 42])))), (8, 1, (.const (.string (ByteArray.mk #[97, 42, 97, 42, 97, 42, 97, 42, 97, 42, 97, 42, 97, 42, 97, 42, 97, 42, 97, 42, 97, 42, 97, 42, 97, 42, 97, 42]))))])⟩,
 ⟨some 4, none, .prim (.mov (.tmp 0))⟩,
 ⟨some 5, none, .call (.func 99) [(.tmp 4), (.const (.int .i64 0)), (.const (.int .i64 8))]⟩,
 ⟨some 6, none, .prim (.idxa 1 9 false (.tmp 3) (.tmp 5))⟩,
 ⟨some 2, none, .prim (.mov (.tmp 6))⟩])
 .ret))
def o152 : List Tmp := []
def r152 : List RV := [.tmp 2]
theorem t152 : Text Tryz.prog 152 o152 c152 r152 7 := ⟨⟨Tryz.f152, _, by kernel_rfl, by kernel_rfl, rfl, by kernel_rfl, by kernel_rfl, rfl⟩, by kernel_rfl⟩
def c159 : ACode :=
 (.seq (.ops [⟨some 1, none, .prim (.boxr (.tmp 0))⟩,
 ⟨some 2, none, .prim (.mov (.const (.bool false)))⟩])
 (.seq (.ops [⟨some 3, none, .prim (.fadr 0 (.tmp 1))⟩,
 ⟨some 4, none, .prim (.load 1 false (.tmp 3))⟩,
 ⟨some 5, none, .prim (.bin false .eql (.tmp 4) (.const (.int .i64 3)))⟩,
 ⟨some 6, none, .prim (.mov (.tmp 5))⟩,
 ⟨some 7, (some (6, false)), .prim (.fadr 0 (.tmp 1))⟩,
 ⟨some 8, (some (6, false)), .prim (.load 1 false (.tmp 7))⟩,
 ⟨some 9, (some (6, false)), .prim (.bin false .eql (.tmp 8) (.const (.int .i64 4)))⟩,
 ⟨some 10, none, .prim (.pick (.tmp 6) (.const (.bool true)) (.tmp 9))⟩,
 ⟨some 2, none, .prim (.mov (.tmp 10))⟩])
 .ret))
def o159 : List Tmp := []
def r159 : List RV := [.tmp 2]
theorem t159 : Text Tryz.prog 159 o159 c159 r159 11 := ⟨⟨Tryz.f159, _, by kernel_rfl, by kernel_rfl, rfl, by kernel_rfl, by kernel_rfl, rfl⟩, by kernel_rfl⟩
def c160 : ACode :=
 (.seq (.ops [⟨some 2, none, .prim (.allocm [.pl (.int .i64 0), .pl (.int .u64 0), .pl (.int .u64 0), .pl (.int .u64 0), .pl (.int .u64 0), .nils])⟩,
 ⟨some 3, none, .prim (.mov (.const (.bool false)))⟩])
 (.seq (.ops [⟨some 6, none, .prim (.mov (.tmp 0))⟩,
 ⟨some 7, none, .prim (.mov (.tmp 0))⟩,
 ⟨some 8, none, .prim (.lens (.tmp 7))⟩,
 ⟨some 9, none, .prim (.bin false .gtr (.tmp 8) (.const (.int .i64 40)))⟩,
 ⟨some 10, none, .prim (.build [.pl (.string .empty), .pl (.int .i64 0), .pl (.bool false)] [(0, 1, (.tmp 6)), (2, 1, (.tmp 9))])⟩,
 ⟨some 11, none, .prim (.boxm (.tmp 10))⟩,
 ⟨some 4, none, .prim (.mov (.tmp 11))⟩])
 (.seq (.ops [⟨some 12, none, .prim (.mov (.tmp 4))⟩,
 ⟨some 13, none, .call (.func 171) [(.tmp 12), (.const (.int .i64 0))]⟩,
 ⟨some 5, none, .fresh 6 5 (.tmp 13)⟩])
 (.seq (.seq (.ops [⟨some 14, none, .prim (.mov (.tmp 4))⟩,
 ⟨some 15, none, .prim (.nilc (.tmp 14))⟩,
 ⟨some 16, none, .prim (.fadr 2 (.tmp 15))⟩,
 ⟨some 17, none, .prim (.load 1 false (.tmp 16))⟩,
 ⟨some 18, none, .prim (.mov (.tmp 17))⟩,
 ⟨some 19, (some (18, false)), .prim (.mov (.tmp 4))⟩,
 ⟨some 20, (some (18, false)), .prim (.nilc (.tmp 19))⟩,
 ⟨some 21, (some (18, false)), .prim (.fadr 1 (.tmp 20))⟩,
 ⟨some 22, (some (18, false)), .prim (.load 1 false (.tmp 21))⟩,
 ⟨some 23, (some (18, false)), .prim (.mov (.tmp 0))⟩,
 ⟨some 24, (some (18, false)), .prim (.lens (.tmp 23))⟩,
 ⟨some 25, (some (18, false)), .prim (.bin false .lss (.tmp 22) (.tmp 24))⟩,
 ⟨some 26, none, .prim (.pick (.tmp 18) (.const (.bool true)) (.tmp 25))⟩])
 (.cond (.tmp 26)
 (.seq (.ops [⟨some 27, none, .prim (.build [.pl (.int .i64 0), .pl (.int .u64 0), .pl (.int .u64 0), .pl (.int .u64 0), .pl (.int .u64 0), .nils] [])⟩,
 ⟨none, none, .prim (.store 6 (.tmp 2) (.tmp 27))⟩,
 ⟨some 3, none, .prim (.mov (.const (.bool false)))⟩])
 .ret)
 .skip))
 (.seq (.ops [⟨some 28, none, .prim (.load 6 true (.tmp 5))⟩,
 ⟨none, none, .prim (.store 6 (.tmp 2) (.tmp 28))⟩,
 ⟨some 3, none, .prim (.mov (.const (.bool true)))⟩])
 .ret)))))
def o160 : List Tmp := [2, 11]
def r160 : List RV := [.cell 2 6 true, .tmp 3]
theorem t160 : Text Tryz.prog 160 o160 c160 r160 29 := ⟨⟨Tryz.f160, _, by kernel_rfl, by kernel_rfl, rfl, by kernel_rfl, by kernel_rfl, rfl⟩, by kernel_rfl⟩
def c161 : ACode :=
 (.seq (.ops [⟨some 2, none, .prim (.mov (.const (.int .i64 0)))⟩])
 (.seq (.ops [⟨some 3, none, .prim (.mov (.const (.int .i64 0)))⟩])
 (.seq (.seq (.ops [⟨some 6, none, .prim (.mov (.tmp 0))⟩,
 ⟨some 7, none, .prim (.lenv (.tmp 6))⟩,
 ⟨some 8, none, .prim (.mov (.const (.int .i64 0)))⟩])
 (.block 0 (.loop [0, 1, 2, 4, 5, 9, 10, 11, 12, 13, 14, 15, 16, 17] (.seq (.ops [⟨some 9, none, .prim (.bin false .lss (.tmp 8) (.tmp 7))⟩])
 (.seq (.cond (.tmp 9)
 .skip
 (.exit 0))
 (.seq (.block 1 (.seq (.ops [⟨some 10, none, .prim (.iadrs 1 (.tmp 6) (.tmp 8))⟩,
 ⟨some 11, none, .prim (.load 1 false (.tmp 10))⟩,
 ⟨some 5, none, .prim (.mov (.tmp 11))⟩])
 (.seq (.ops [⟨some 12, none, .prim (.mov (.tmp 5))⟩,
 ⟨some 13, none, .prim (.mov (.tmp 3))⟩,
 ⟨some 14, none, .prim (.bin false .neq (.tmp 12) (.tmp 13))⟩])
 (.cond (.tmp 14)
 (.seq (.ops [⟨some 15, none, .prim (.mov (.tmp 5))⟩,
 ⟨some 2, none, .prim (.mov (.tmp 15))⟩])
 .ret)
 .skip))))
 (.ops [⟨some 16, none, .prim (.bin false .add (.tmp 8) (.const (.int .i64 1)))⟩,
 ⟨some 8, none, .prim (.mov (.tmp 16))⟩])))))))
 (.seq (.ops [⟨some 17, none, .prim (.mov (.tmp 3))⟩,
 ⟨some 2, none, .prim (.mov (.tmp 17))⟩])
 .ret))))
def o161 : List Tmp := []
def r161 : List RV := [.tmp 2]
theorem t161 : Text Tryz.prog 161 o161 c161 r161 18 := ⟨⟨Tryz.f161, _, by kernel_rfl, by kernel_rfl, rfl, by kernel_rfl, by kernel_rfl, rfl⟩, by kernel_rfl⟩
def c162 : ACode :=
 (.seq (.ops [⟨some 4, none, .prim (.mov (.const (.int .i64 0)))⟩])
 (.seq (.ops [⟨some 5, none, .prim (.mov (.tmp 0))⟩,
 ⟨some 6, none, .prim (.mov (.tmp 1))⟩,
 ⟨some 7, none, .call (.func 172) [(.tmp 5), (.tmp 6)]⟩,
 ⟨some 4, none, .prim (.mov (.tmp 7))⟩])
 .ret))
def o162 : List Tmp := []
def r162 : List RV := [.tmp 4]
theorem t162 : Text Tryz.prog 162 o162 c162 r162 8 := ⟨⟨Tryz.f162, _, by kernel_rfl, by kernel_rfl, rfl, by kernel_rfl, by kernel_rfl, rfl⟩, by kernel_rfl⟩
def c163 : ACode :=
 (.seq (.ops [⟨some 4, none, .prim (.mov (.const (.int .i64 0)))⟩])
 (.seq (.ops [⟨some 7, none, .prim (.mov (.tmp 0))⟩,
 ⟨some 8, none, .call (.func 173) [(.tmp 7)]⟩,
 ⟨some 5, none, .prim (.mov (.tmp 8))⟩])
 (.seq (.ops [⟨some 9, none, .prim (.mov (.tmp 1))⟩,
 ⟨some 10, none, .call (.func 173) [(.tmp 9)]⟩,
 ⟨some 6, none, .prim (.mov (.tmp 10))⟩])
 (.seq (.seq (.ops [⟨some 11, none, .prim (.mov (.tmp 5))⟩])
 (.cond (.tmp 11)
 (.seq (.seq (.ops [⟨some 12, none, .prim (.mov (.tmp 6))⟩])
 (.cond (.tmp 12)
 (.seq (.ops [⟨some 4, none, .prim (.mov (.const (.int .i64 0)))⟩])
 .ret)
 .skip))
 (.seq (.ops [⟨some 4, none, .prim (.mov (.const (.int .i64 (-1))))⟩])
 .ret))
 .skip))
 (.seq (.seq (.ops [⟨some 13, none, .prim (.mov (.tmp 6))⟩])
 (.cond (.tmp 13)
 (.seq (.ops [⟨some 4, none, .prim (.mov (.const (.int .i64 1)))⟩])
 .ret)
 .skip))
 (.seq (.seq (.ops [⟨some 14, none, .prim (.mov (.tmp 0))⟩,
 ⟨some 15, none, .prim (.mov (.tmp 1))⟩,
 ⟨some 16, none, .prim (.bin false .lss (.tmp 14) (.tmp 15))⟩])
 (.cond (.tmp 16)
 (.seq (.ops [⟨some 4, none, .prim (.mov (.const (.int .i64 (-1))))⟩])
 .ret)
 .skip))
 (.seq (.seq (.ops [⟨some 17, none, .prim (.mov (.tmp 0))⟩,
 ⟨some 18, none, .prim (.mov (.tmp 1))⟩,
 ⟨some 19, none, .prim (.bin false .gtr (.tmp 17) (.tmp 18))⟩])
 (.cond (.tmp 19)
 (.seq (.ops [⟨some 4, none, .prim (.mov (.const (.int .i64 1)))⟩])
 .ret)
 .skip))
 (.seq (.ops [⟨some 4, none, .prim (.mov (.const (.int .i64 0)))⟩])
 .ret))))))))
def o163 : List Tmp := []
def r163 : List RV := [.tmp 4]
theorem t163 : Text Tryz.prog 163 o163 c163 r163 20 := ⟨⟨Tryz.f163, _, by kernel_rfl, by kernel_rfl, rfl, by kernel_rfl, by kernel_rfl, rfl⟩, by kernel_rfl⟩
def c165 : ACode :=
 (.seq (.ops [⟨some 4, none, .prim (.mov (.const (.bool false)))⟩])
 (.seq (.ops [⟨some 5, none, .prim (.mov (.tmp 0))⟩,
 ⟨some 6, none, .prim (.mov (.tmp 1))⟩,
 ⟨some 7, none, .call (.func 175) [(.tmp 5), (.tmp 6)]⟩,
 ⟨some 8, none, .prim (.bin false .geq (.tmp 7) (.const (.int .i64 0)))⟩,
 ⟨some 4, none, .prim (.mov (.tmp 8))⟩])
 .ret))
def o165 : List Tmp := []
def r165 : List RV := [.tmp 4]
theorem t165 : Text Tryz.prog 165 o165 c165 r165 9 := ⟨⟨Tryz.f165, _, by kernel_rfl, by kernel_rfl, rfl, by kernel_rfl, by kernel_rfl, rfl⟩, by kernel_rfl⟩
def c166 : ACode :=
 (.seq (.ops [⟨some 2, none, .prim (.boxr (.tmp 0))⟩,
 ⟨some 3, none, .prim (.mov (.const (.bool false)))⟩])
 (.seq (.ops [⟨some 4, none, .prim (.load 3 true (.tmp 2))⟩,
 ⟨some 5, none, .prim (.load 1 false (.tmp 1))⟩,
 ⟨some 6, none, .call (.func 167) [(.tmp 4), (.tmp 5)]⟩,
 ⟨some 7, none, .prim (.un .not (.tmp 6))⟩,
 ⟨some 3, none, .prim (.mov (.tmp 7))⟩])
 .ret))
def o166 : List Tmp := []
def r166 : List RV := [.tmp 3]
theorem t166 : Text Tryz.prog 166 o166 c166 r166 8 := ⟨⟨Tryz.f166, _, by kernel_rfl, by kernel_rfl, rfl, by kernel_rfl, by kernel_rfl, rfl⟩, by kernel_rfl⟩
def c167 : ACode :=
 (.seq (.ops [⟨some 2, none, .prim (.boxr (.tmp 0))⟩,
 ⟨some 4, none, .prim (.mov (.const (.bool false)))⟩])
 (.seq (.seq (.ops [⟨some 8, none, .prim (.load 3 true (.tmp 2))⟩,
 ⟨some 9, none, .call (.func 142) [(.tmp 8)]⟩,
 ⟨some 10, none, .prim (.un .not (.tmp 9))⟩])
 (.cond (.tmp 10)
 (.seq (.ops [⟨some 4, none, .prim (.mov (.const (.bool false)))⟩])
 .ret)
 .skip))
 (.seq (.ops [⟨some 11, none, .prim (.mov (.tmp 1))⟩,
 ⟨some 12, none, .prim (.fadr 1 (.tmp 2))⟩,
 ⟨some 13, none, .prim (.load 1 false (.tmp 12))⟩,
 ⟨some 14, none, .call (.func 168) [(.tmp 11), (.tmp 13)]⟩,
 ⟨some 5, none, .prim (.mov (.tmp 14))⟩])
 (.seq (.seq (.ops [⟨some 15, none, .prim (.fadr 0 (.tmp 2))⟩,
 ⟨some 16, none, .prim (.load 1 false (.tmp 15))⟩])
 (.block 0 (.seq (.ops [⟨some 18, none, .prim (.bin false .eql (.tmp 16) (.const (.int .i64 1)))⟩,
 ⟨some 17, none, .prim (.mov (.tmp 18))⟩])
 (.cond (.tmp 17)
 (.seq (.ops [⟨some 19, none, .prim (.mov (.tmp 5))⟩,
 ⟨some 20, none, .prim (.fadr 2 (.tmp 2))⟩,
 ⟨some 21, none, .prim (.load 1 false (.tmp 20))⟩,
 ⟨some 22, none, .prim (.bin false .eql (.tmp 19) (.tmp 21))⟩,
 ⟨some 4, none, .prim (.mov (.tmp 22))⟩])
 .ret)
 (.seq (.ops [⟨some 24, none, .prim (.bin false .eql (.tmp 16) (.const (.int .i64 2)))⟩,
 ⟨some 23, none, .prim (.mov (.tmp 24))⟩])
 (.cond (.tmp 23)
 (.seq (.ops [⟨some 25, none, .prim (.mov (.tmp 5))⟩,
 ⟨some 26, none, .prim (.fadr 2 (.tmp 2))⟩,
 ⟨some 27, none, .prim (.load 1 false (.tmp 26))⟩,
 ⟨some 28, none, .prim (.bin false .neq (.tmp 25) (.tmp 27))⟩,
 ⟨some 4, none, .prim (.mov (.tmp 28))⟩])
 .ret)
 .skip))))))
 (.seq (.ops [⟨some 30, none, .prim (.load 3 true (.tmp 2))⟩,
 ⟨some 31, none, .call (.func 176) [(.tmp 30)]⟩,
 ⟨some 29, none, .prim (.mov (.tmp 31))⟩,
 ⟨some 32, none, .prim (.extr 0 (.tmp 29))⟩,
 ⟨some 33, none, .prim (.extr 1 (.tmp 29))⟩,
 ⟨some 6, none, .prim (.mov (.tmp 32))⟩,
 ⟨some 7, none, .prim (.mov (.tmp 33))⟩])
 (.seq (.draw [⟨⟨some 34, none, .prim (.mov (.tmp 7))⟩, [], false, 0, 0⟩,
 ⟨⟨some 35, none, .prim (.mov (.tmp 34))⟩, [0], false, 0, 0⟩,
 ⟨⟨some 36, (some (35, true)), .prim (.mov (.tmp 6))⟩, [0, 1], false, 0, 0⟩,
 ⟨⟨some 37, (some (35, true)), .prim (.mov (.tmp 5))⟩, [0, 1], false, 0, 0⟩,
 ⟨⟨some 38, (some (35, true)), .call (.func 177) [(.tmp 36), (.tmp 37)]⟩, [0, 1, 2, 3], true, 0, 0⟩,
 ⟨⟨some 39, (some (35, true)), .prim (.fadr 0 (.tmp 2))⟩, [0, 1], false, 0, 1⟩,
 ⟨⟨some 40, (some (35, true)), .prim (.load 1 false (.tmp 39))⟩, [0, 1, 5], false, 0, 1⟩,
 ⟨⟨some 41, (some (35, true)), .prim (.bin false .eql (.tmp 40) (.const (.int .i64 3)))⟩, [0, 1, 5, 6], false, 0, 1⟩,
 ⟨⟨some 42, (some (35, true)), .prim (.bin true .eql (.tmp 38) (.tmp 41))⟩, (List.range 8), false, 1, 1⟩,
 ⟨⟨some 43, none, .prim (.pick (.tmp 35) (.tmp 42) (.const (.bool false)))⟩, (List.range 9), false, 1, 1⟩,
 ⟨⟨some 4, none, .prim (.mov (.tmp 43))⟩, (List.range 10), false, 1, 1⟩])
 .ret))))))
def o167 : List Tmp := []
def r167 : List RV := [.tmp 4]
theorem t167 : Text Tryz.prog 167 o167 c167 r167 44 := ⟨⟨Tryz.f167, _, by kernel_rfl, by kernel_rfl, rfl, by kernel_rfl, by kernel_rfl, rfl⟩, by kernel_rfl⟩
def c168 : ACode :=
 (.seq (.ops [⟨some 3, none, .prim (.boxr (.tmp 1))⟩,
 ⟨some 4, none, .prim (.mov (.const (.string (ByteArray.mk #[]))))⟩])
 (.seq (.ops [⟨some 6, none, .prim (.mov (.tmp 0))⟩,
 ⟨some 7, none, .prim (.mkfn 179 [] [(.tmp 3)])⟩,
 ⟨some 8, none, .call (.func 178) [(.tmp 6), (.tmp 7)]⟩,
 ⟨some 5, none, .prim (.mov (.tmp 8))⟩])
 (.seq (.seq (.ops [⟨some 9, none, .prim (.mov (.tmp 5))⟩,
 ⟨some 10, none, .prim (.bin false .lss (.tmp 9) (.const (.int .i64 0)))⟩])
 (.cond (.tmp 10)
 (.seq (.ops [⟨some 4, none, .prim (.mov (.const (.string (ByteArray.mk #[]))))⟩])
 .ret)
 .skip))
 (.seq (.ops [⟨some 11, none, .prim (.mov (.tmp 0))⟩,
 ⟨some 12, none, .prim (.mov (.tmp 5))⟩,
 ⟨some 13, none, .prim (.iadrs 2 (.tmp 11) (.tmp 12))⟩,
 ⟨some 14, none, .prim (.fadr 1 (.tmp 13))⟩,
 ⟨some 15, none, .prim (.load 1 false (.tmp 14))⟩,
 ⟨some 4, none, .prim (.mov (.tmp 15))⟩])
 .ret))))
def o168 : List Tmp := []
def r168 : List RV := [.tmp 4]
theorem t168 : Text Tryz.prog 168 o168 c168 r168 16 := ⟨⟨Tryz.f168, _, by kernel_rfl, by kernel_rfl, rfl, by kernel_rfl, by kernel_rfl, rfl⟩, by kernel_rfl⟩
def c171 : ACode :=
 (.seq (.ops [⟨some 4, none, .prim (.allocm [.pl (.int .i64 0), .pl (.int .u64 0), .pl (.int .u64 0), .pl (.int .u64 0), .pl (.int .u64 0), .nils])⟩])
 (.seq (.ops [⟨some 6, none, .prim (.mov (.tmp 0))⟩,
 ⟨some 7, none, .prim (.mov (.tmp 1))⟩,
 ⟨some 8, none, .call (.func 181) [(.tmp 6), (.tmp 7)]⟩,
 ⟨some 9, none, .prim (.bsl true 6 true 1 [.pl (.int .i64 0), .pl (.int .u64 0), .pl (.int .u64 0), .pl (.int .u64 0), .pl (.int .u64 0), .nils] [(0, 6, (.tmp 8))])⟩,
 ⟨some 5, none, .prim (.mov (.tmp 9))⟩])
 (.seq (.block 0 (.loop [2, 3, 6, 7, 8, 9, 10, 11, 12, 13, 14, 15, 16, 17, 18, 19, 20, 21, 22, 23, 24, 25] (.seq (.seq (.ops [⟨some 10, none, .prim (.mov (.tmp 0))⟩,
 ⟨some 11, none, .call (.func 182) [(.tmp 10), (.const (.int .u8 124))]⟩])
 (.cond (.tmp 11)
 .skip
 (.exit 0)))
 (.block 1 (.ops [⟨some 12, none, .prim (.mov (.tmp 5))⟩,
 ⟨some 13, none, .prim (.mov (.tmp 0))⟩,
 ⟨some 14, none, .prim (.mov (.tmp 1))⟩,
 ⟨some 15, none, .call (.func 181) [(.tmp 13), (.tmp 14)]⟩,
 ⟨some 16, none, .prim (.bsl false 6 true 1 [.pl (.int .i64 0), .pl (.int .u64 0), .pl (.int .u64 0), .pl (.int .u64 0), .pl (.int .u64 0), .nils] [(0, 6, (.tmp 15))])⟩,
 ⟨some 17, none, .prim (.app 6 (.tmp 12) (.tmp 16))⟩,
 ⟨some 5, none, .prim (.mov (.tmp 17))⟩])))))
 (.seq (.seq (.ops [⟨some 18, none, .prim (.mov (.tmp 5))⟩,
 ⟨some 19, none, .prim (.lenv (.tmp 18))⟩,
 ⟨some 20, none, .prim (.bin false .eql (.tmp 19) (.const (.int .i64 1)))⟩])
 (.cond (.tmp 20)
 (.seq (.ops [⟨some 21, none, .prim (.mov (.tmp 5))⟩,
 ⟨some 22, none, .prim (.iadrs 6 (.tmp 21) (.const (.int .i64 0)))⟩,
 ⟨some 23, none, .prim (.load 6 true (.tmp 22))⟩,
 ⟨none, none, .prim (.store 6 (.tmp 4) (.tmp 23))⟩])
 .ret)
 .skip))
 (.seq (.ghost (.shut 5) (.ops [⟨some 24, none, .prim (.mov (.tmp 5))⟩,
 ⟨some 25, none, .prim (.build [.pl (.int .i64 0), .pl (.int .u64 0), .pl (.int .u64 0), .pl (.int .u64 0), .pl (.int .u64 0), .nils] [(0, 1, (.const (.int .i64 3))), (5, 1, (.tmp 24))])⟩,
 ⟨none, none, .prim (.store 6 (.tmp 4) (.tmp 25))⟩]))
 .ret)))))
def o171 : List Tmp := [4, 9]
def r171 : List RV := [.cell 4 6 true]
theorem t171 : Text Tryz.prog 171 o171 c171 r171 26 := ⟨⟨Tryz.f171, _, by kernel_rfl, by kernel_rfl, rfl, by kernel_rfl, by kernel_rfl, rfl⟩, by kernel_rfl⟩
def c172 : ACode :=
 (.seq (.ops [⟨some 4, none, .prim (.mov (.const (.int .i64 0)))⟩])
 (.seq (.ops [⟨some 5, none, .prim (.mov (.tmp 0))⟩,
 ⟨some 6, none, .prim (.mov (.tmp 1))⟩,
 ⟨some 7, none, .call (.func 183) [(.tmp 5), (.tmp 6)]⟩,
 ⟨some 4, none, .prim (.mov (.tmp 7))⟩])
 .ret))
def o172 : List Tmp := []
def r172 : List RV := [.tmp 4]
theorem t172 : Text Tryz.prog 172 o172 c172 r172 8 := ⟨⟨Tryz.f172, _, by kernel_rfl, by kernel_rfl, rfl, by kernel_rfl, by kernel_rfl, rfl⟩, by kernel_rfl⟩
def c173 : ACode :=
 (.seq (.ops [⟨some 2, none, .prim (.mov (.const (.bool false)))⟩])
 (.seq (.ops [⟨some 3, none, .prim (.mov (.tmp 0))⟩,
 ⟨some 4, none, .prim (.mov (.tmp 0))⟩,
 ⟨some 5, none, .prim (.bin false .neq (.tmp 3) (.tmp 4))⟩,
 ⟨some 2, none, .prim (.mov (.tmp 5))⟩])
 .ret))
def o173 : List Tmp := []
def r173 : List RV := [.tmp 2]
theorem t173 : Text Tryz.prog 173 o173 c173 r173 6 := ⟨⟨Tryz.f173, _, by kernel_rfl, by kernel_rfl, rfl, by kernel_rfl, by kernel_rfl, rfl⟩, by kernel_rfl⟩
def c174 : ACode :=
 (.seq (.ops [⟨some 2, none, .prim (.mov (.const (.bool false)))⟩])
 (.seq (.ops [⟨some 3, none, .prim (.mov (.tmp 0))⟩,
 ⟨some 4, none, .call (.func 165) [(.tmp 3), (.func 184)]⟩,
 ⟨some 2, none, .prim (.mov (.tmp 4))⟩])
 .ret))
def o174 : List Tmp := []
def r174 : List RV := [.tmp 2]
theorem t174 : Text Tryz.prog 174 o174 c174 r174 5 := ⟨⟨Tryz.f174, _, by kernel_rfl, by kernel_rfl, rfl, by kernel_rfl, by kernel_rfl, rfl⟩, by kernel_rfl⟩
def c175 : ACode :=
 (.seq (.ops [⟨some 4, none, .prim (.mov (.const (.int .i64 0)))⟩])
 (.seq (.seq (.ops [⟨some 6, none, .prim (.mov (.tmp 0))⟩,
 ⟨some 7, none, .prim (.lenv (.tmp 6))⟩,
 ⟨some 8, none, .prim (.mov (.const (.int .i64 0)))⟩])
 (.block 0 (.loop [2, 3, 4, 5, 6, 9, 10, 11, 12, 13, 14, 15, 16, 17, 18] (.seq (.ops [⟨some 9, none, .prim (.bin false .lss (.tmp 8) (.tmp 7))⟩])
 (.seq (.cond (.tmp 9)
 .skip
 (.exit 0))
 (.seq (.block 1 (.seq (.ops [⟨some 10, none, .prim (.mov (.tmp 8))⟩,
 ⟨some 5, none, .prim (.mov (.tmp 10))⟩])
 (.seq (.ops [⟨some 11, none, .prim (.mov (.tmp 1))⟩,
 ⟨some 12, none, .prim (.mov (.tmp 0))⟩,
 ⟨some 13, none, .prim (.mov (.tmp 5))⟩,
 ⟨some 14, none, .prim (.iadrs 3 (.tmp 12) (.tmp 13))⟩,
 ⟨some 15, none, .prim (.load 3 true (.tmp 14))⟩,
 ⟨some 16, none, .call (.tmp 11) [(.tmp 15)]⟩])
 (.cond (.tmp 16)
 (.seq (.ops [⟨some 17, none, .prim (.mov (.tmp 5))⟩,
 ⟨some 4, none, .prim (.mov (.tmp 17))⟩])
 .ret)
 .skip))))
 (.ops [⟨some 18, none, .prim (.bin false .add (.tmp 8) (.const (.int .i64 1)))⟩,
 ⟨some 8, none, .prim (.mov (.tmp 18))⟩])))))))
 (.seq (.ops [⟨some 4, none, .prim (.mov (.const (.int .i64 (-1))))⟩])
 .ret)))
def o175 : List Tmp := []
def r175 : List RV := [.tmp 4]
theorem t175 : Text Tryz.prog 175 o175 c175 r175 19 := ⟨⟨Tryz.f175, _, by kernel_rfl, by kernel_rfl, rfl, by kernel_rfl, by kernel_rfl, rfl⟩, by kernel_rfl⟩
def c176 : ACode :=
 (.seq (.ops [⟨some 1, none, .prim (.boxr (.tmp 0))⟩,
 ⟨some 2, none, .prim (.mov (.const (.slice none 0 0)))⟩,
 ⟨some 3, none, .prim (.mov (.const (.bool false)))⟩])
 (.seq (.ops [⟨some 7, none, .prim (.fadr 2 (.tmp 1))⟩,
 ⟨some 8, none, .prim (.load 1 false (.tmp 7))⟩,
 ⟨some 9, none, .call (.func 160) [(.tmp 8)]⟩,
 ⟨some 6, none, .prim (.mov (.tmp 9))⟩,
 ⟨some 10, none, .prim (.extr 0 (.tmp 6))⟩,
 ⟨some 11, none, .prim (.extr 1 (.tmp 6))⟩,
 ⟨some 4, none, .fresh 6 4 (.tmp 10)⟩,
 ⟨some 5, none, .prim (.mov (.tmp 11))⟩])
 (.seq (.seq (.ops [⟨some 12, none, .prim (.mov (.tmp 5))⟩,
 ⟨some 13, none, .prim (.un .not (.tmp 12))⟩])
 (.cond (.tmp 13)
 (.seq (.ops [⟨some 2, none, .prim (.mov (.const (.slice none 0 0)))⟩,
 ⟨some 3, none, .prim (.mov (.const (.bool false)))⟩])
 (.ghost (.shut 2) .ret))
 .skip))
 (.seq (.ops [⟨some 14, none, .prim (.load 6 true (.tmp 4))⟩,
 ⟨some 15, none, .call (.func 185) [(.tmp 14)]⟩,
 ⟨some 16, none, .prim (.extr 0 (.tmp 15))⟩,
 ⟨some 17, none, .prim (.extr 1 (.tmp 15))⟩,
 ⟨some 2, none, .prim (.mov (.tmp 16))⟩,
 ⟨some 3, none, .prim (.mov (.tmp 17))⟩])
 (.ghost (.shut 2) .ret)))))
def o176 : List Tmp := []
def r176 : List RV := [.tmp 2, .tmp 3]
theorem t176 : Text Tryz.prog 176 o176 c176 r176 18 := ⟨⟨Tryz.f176, _, by kernel_rfl, by kernel_rfl, rfl, by kernel_rfl, by kernel_rfl, rfl⟩, by kernel_rfl⟩
def c177 : ACode :=
 (.seq (.ops [⟨some 4, none, .prim (.mov (.const (.bool false)))⟩])
 (.seq (.seq (.ops [⟨some 9, none, .prim (.mov (.tmp 0))⟩,
 ⟨some 10, none, .call (.func 186) [(.tmp 9)]⟩,
 ⟨some 11, none, .prim (.un .not (.tmp 10))⟩])
 (.cond (.tmp 11)
 (.seq (.ops [⟨some 4, none, .prim (.mov (.const (.bool false)))⟩])
 .ret)
 .skip))
 (.seq (.ops [⟨some 12, none, .prim (.mov (.tmp 0))⟩,
 ⟨some 13, none, .call (.func 187) [(.tmp 12)]⟩,
 ⟨some 5, none, .prim (.mov (.tmp 13))⟩])
 (.seq (.seq (.ops [⟨some 14, none, .prim (.mov (.tmp 1))⟩,
 ⟨some 15, none, .prim (.lens (.tmp 14))⟩,
 ⟨some 16, none, .prim (.mov (.const (.int .i64 0)))⟩])
 (.block 0 (.loop [2, 3, 4, 6, 7, 8, 9, 10, 11, 12, 13, 14, 17, 18, 19, 20, 21, 22, 23, 24, 25, 26, 27, 28, 29, 30, 31, 32, 33, 34, 35, 36, 37, 38, 39, 40, 41, 42, 43] (.seq (.ops [⟨some 17, none, .prim (.bin false .lss (.tmp 16) (.tmp 15))⟩])
 (.seq (.cond (.tmp 17)
 .skip
 (.exit 0))
 (.seq (.block 1 (.seq (.ops [⟨some 18, none, .prim (.mov (.tmp 16))⟩,
 ⟨some 6, none, .prim (.mov (.tmp 18))⟩])
 (.ops [⟨some 19, none, .prim (.mov (.tmp 0))⟩,
 ⟨some 20, none, .prim (.mov (.tmp 5))⟩,
 ⟨some 21, none, .prim (.mov (.tmp 1))⟩,
 ⟨some 22, none, .prim (.mov (.tmp 6))⟩,
 ⟨some 23, none, .prim (.idxs (.tmp 21) (.tmp 22))⟩,
 ⟨some 24, none, .call (.func 188) [(.tmp 19), (.tmp 20), (.tmp 23)]⟩,
 ⟨some 5, none, .prim (.mov (.tmp 24))⟩])))
 (.ops [⟨some 25, none, .prim (.bin false .add (.tmp 16) (.const (.int .i64 1)))⟩,
 ⟨some 16, none, .prim (.mov (.tmp 25))⟩])))))))
 (.seq (.seq (.ops [⟨some 26, none, .prim (.mov (.tmp 0))⟩,
 ⟨some 27, none, .prim (.lenv (.tmp 26))⟩,
 ⟨some 28, none, .prim (.mov (.const (.int .i64 0)))⟩])
 (.block 2 (.loop [0, 1, 2, 3, 4, 6, 7, 8, 9, 10, 11, 12, 13, 14, 15, 16, 17, 18, 19, 20, 21, 22, 23, 24, 25, 29, 30, 31, 32, 33, 34, 35, 36, 37, 38, 39, 40, 41, 42, 43] (.seq (.ops [⟨some 29, none, .prim (.bin false .lss (.tmp 28) (.tmp 27))⟩])
 (.seq (.cond (.tmp 29)
 .skip
 (.exit 2))
 (.seq (.block 3 (.seq (.ops [⟨some 30, none, .prim (.mov (.tmp 28))⟩,
 ⟨some 31, none, .prim (.iadrs 7 (.tmp 26) (.tmp 28))⟩,
 ⟨some 32, none, .prim (.load 7 true (.tmp 31))⟩,
 ⟨some 8, none, .prim (.allocm [.pl (.int .i64 0), .pl (.int .u64 0), .pl (.int .u64 0), .pl (.int .u64 0), .pl (.int .u64 0), .pl (.int .i64 0), .pl (.int .i64 0)])⟩,
 ⟨some 7, none, .prim (.mov (.tmp 30))⟩,
 ⟨none, none, .prim (.store 7 (.tmp 8) (.tmp 32))⟩])
 (.seq (.ops [⟨some 33, none, .prim (.mov (.tmp 5))⟩,
 ⟨some 34, none, .prim (.mov (.tmp 7))⟩,
 ⟨some 35, none, .prim (.bin false .shr (.tmp 33) (.tmp 34))⟩,
 ⟨some 36, none, .prim (.bin false .and (.tmp 35) (.const (.int .u64 1)))⟩,
 ⟨some 37, none, .prim (.bin false .eql (.tmp 36) (.const (.int .u64 1)))⟩,
 ⟨some 38, none, .prim (.mov (.tmp 37))⟩,
 ⟨some 39, (some (38, true)), .prim (.fadr 0 (.tmp 8))⟩,
 ⟨some 40, (some (38, true)), .prim (.load 1 false (.tmp 39))⟩,
 ⟨some 41, (some (38, true)), .prim (.bin false .eql (.tmp 40) (.const (.int .i64 4)))⟩,
 ⟨some 42, none, .prim (.pick (.tmp 38) (.tmp 41) (.const (.bool false)))⟩])
 (.cond (.tmp 42)
 (.seq (.ops [⟨some 4, none, .prim (.mov (.const (.bool true)))⟩])
 .ret)
 .skip))))
 (.after (.after (.ops [⟨some 43, none, .prim (.bin false .add (.tmp 28) (.const (.int .i64 1)))⟩,
 ⟨some 28, none, .prim (.mov (.tmp 43))⟩]) (.clear [8, 39])) (.keep 0))))))))
 (.seq (.ops [⟨some 4, none, .prim (.mov (.const (.bool false)))⟩])
 .ret))))))
def o177 : List Tmp := [8]
def r177 : List RV := [.tmp 4]
theorem t177 : Text Tryz.prog 177 o177 c177 r177 44 := ⟨⟨Tryz.f177, _, by kernel_rfl, by kernel_rfl, rfl, by kernel_rfl, by kernel_rfl, rfl⟩, by kernel_rfl⟩
def c178 : ACode :=
 (.seq (.ops [⟨some 4, none, .prim (.mov (.const (.int .i64 0)))⟩])
 (.seq (.seq (.ops [⟨some 6, none, .prim (.mov (.tmp 0))⟩,
 ⟨some 7, none, .prim (.lenv (.tmp 6))⟩,
 ⟨some 8, none, .prim (.mov (.const (.int .i64 0)))⟩])
 (.block 0 (.loop [2, 3, 4, 5, 6, 9, 10, 11, 12, 13, 14, 15, 16, 17, 18] (.seq (.ops [⟨some 9, none, .prim (.bin false .lss (.tmp 8) (.tmp 7))⟩])
 (.seq (.cond (.tmp 9)
 .skip
 (.exit 0))
 (.seq (.block 1 (.seq (.ops [⟨some 10, none, .prim (.mov (.tmp 8))⟩,
 ⟨some 5, none, .prim (.mov (.tmp 10))⟩])
 (.seq (.ops [⟨some 11, none, .prim (.mov (.tmp 1))⟩,
 ⟨some 12, none, .prim (.mov (.tmp 0))⟩,
 ⟨some 13, none, .prim (.mov (.tmp 5))⟩,
 ⟨some 14, none, .prim (.iadrs 2 (.tmp 12) (.tmp 13))⟩,
 ⟨some 15, none, .prim (.load 2 true (.tmp 14))⟩,
 ⟨some 16, none, .call (.tmp 11) [(.tmp 15)]⟩])
 (.cond (.tmp 16)
 (.seq (.ops [⟨some 17, none, .prim (.mov (.tmp 5))⟩,
 ⟨some 4, none, .prim (.mov (.tmp 17))⟩])
 .ret)
 .skip))))
 (.ops [⟨some 18, none, .prim (.bin false .add (.tmp 8) (.const (.int .i64 1)))⟩,
 ⟨some 8, none, .prim (.mov (.tmp 18))⟩])))))))
 (.seq (.ops [⟨some 4, none, .prim (.mov (.const (.int .i64 (-1))))⟩])
 .ret)))
def o178 : List Tmp := []
def r178 : List RV := [.tmp 4]
theorem t178 : Text Tryz.prog 178 o178 c178 r178 19 := ⟨⟨Tryz.f178, _, by kernel_rfl, by kernel_rfl, rfl, by kernel_rfl, by kernel_rfl, rfl⟩, by kernel_rfl⟩
def c179 : ACode :=
 (.seq (.ops [⟨some 2, none, .prim (.boxr (.tmp 0))⟩,
 ⟨some 3, none, .prim (.mov (.const (.bool false)))⟩])
 (.seq (.ops [⟨some 4, none, .prim (.fadr 0 (.tmp 2))⟩,
 ⟨some 5, none, .prim (.load 1 false (.tmp 4))⟩,
 ⟨some 6, none, .prim (.load 1 false (.tmp 1))⟩,
 ⟨some 7, none, .prim (.bin false .eql (.tmp 5) (.tmp 6))⟩,
 ⟨some 3, none, .prim (.mov (.tmp 7))⟩])
 .ret))
def o179 : List Tmp := []
def r179 : List RV := [.tmp 3]
theorem t179 : Text Tryz.prog 179 o179 c179 r179 8 := ⟨⟨Tryz.f179, _, by kernel_rfl, by kernel_rfl, rfl, by kernel_rfl, by kernel_rfl, rfl⟩, by kernel_rfl⟩
def c181 : ACode :=
 (.seq (.ops [⟨some 4, none, .prim (.allocm [.pl (.int .i64 0), .pl (.int .u64 0), .pl (.int .u64 0), .pl (.int .u64 0), .pl (.int .u64 0), .nils])⟩])
 (.seq (.ops [⟨some 5, none, .prim (.mov (.const (.slice none 0 0)))⟩])
 (.seq (.block 0 (.loop [2, 3, 6, 7, 8, 9, 10, 11, 12, 13, 14, 15, 16, 17, 18, 19, 20, 21, 22, 23, 24, 25, 26, 27, 28, 29, 30, 31, 32] (.seq (.seq (.ops [⟨some 6, none, .prim (.mov (.tmp 0))⟩,
 ⟨some 7, none, .call (.func 191) [(.tmp 6)]⟩,
 ⟨some 8, none, .prim (.un .not (.tmp 7))⟩,
 ⟨some 9, none, .prim (.mov (.tmp 8))⟩,
 ⟨some 10, (some (9, true)), .prim (.mov (.tmp 0))⟩,
 ⟨some 11, (some (9, true)), .call (.func 192) [(.tmp 10), (.const (.int .u8 124))]⟩,
 ⟨some 12, (some (9, true)), .prim (.un .not (.tmp 11))⟩,
 ⟨some 13, none, .prim (.pick (.tmp 9) (.tmp 12) (.const (.bool false)))⟩,
 ⟨some 14, none, .prim (.mov (.tmp 13))⟩,
 ⟨some 15, (some (14, true)), .prim (.mov (.tmp 0))⟩,
 ⟨some 16, (some (14, true)), .call (.func 192) [(.tmp 15), (.const (.int .u8 41))]⟩,
 ⟨some 17, (some (14, true)), .prim (.un .not (.tmp 16))⟩,
 ⟨some 18, none, .prim (.pick (.tmp 14) (.tmp 17) (.const (.bool false)))⟩])
 (.cond (.tmp 18)
 .skip
 (.exit 0)))
 (.block 1 (.ops [⟨some 19, none, .prim (.mov (.tmp 5))⟩,
 ⟨some 20, none, .prim (.mov (.tmp 0))⟩,
 ⟨some 21, none, .prim (.mov (.tmp 1))⟩,
 ⟨some 22, none, .call (.func 193) [(.tmp 20), (.tmp 21)]⟩,
 ⟨some 23, none, .prim (.bsl false 6 true 1 [.pl (.int .i64 0), .pl (.int .u64 0), .pl (.int .u64 0), .pl (.int .u64 0), .pl (.int .u64 0), .nils] [(0, 6, (.tmp 22))])⟩,
 ⟨some 24, none, .prim (.app 6 (.tmp 19) (.tmp 23))⟩,
 ⟨some 5, none, .prim (.mov (.tmp 24))⟩])))))
 (.seq (.seq (.ops [⟨some 25, none, .prim (.mov (.tmp 5))⟩,
 ⟨some 26, none, .prim (.lenv (.tmp 25))⟩,
 ⟨some 27, none, .prim (.bin false .eql (.tmp 26) (.const (.int .i64 1)))⟩])
 (.cond (.tmp 27)
 (.seq (.ops [⟨some 28, none, .prim (.mov (.tmp 5))⟩,
 ⟨some 29, none, .prim (.iadrs 6 (.tmp 28) (.const (.int .i64 0)))⟩,
 ⟨some 30, none, .prim (.load 6 true (.tmp 29))⟩,
 ⟨none, none, .prim (.store 6 (.tmp 4) (.tmp 30))⟩])
 .ret)
 .skip))
 (.seq (.ghost (.shut 5) (.ops [⟨some 31, none, .prim (.mov (.tmp 5))⟩,
 ⟨some 32, none, .prim (.build [.pl (.int .i64 0), .pl (.int .u64 0), .pl (.int .u64 0), .pl (.int .u64 0), .pl (.int .u64 0), .nils] [(0, 1, (.const (.int .i64 2))), (5, 1, (.tmp 31))])⟩,
 ⟨none, none, .prim (.store 6 (.tmp 4) (.tmp 32))⟩]))
 .ret)))))
def o181 : List Tmp := [4]
def r181 : List RV := [.cell 4 6 true]
theorem t181 : Text Tryz.prog 181 o181 c181 r181 33 := ⟨⟨Tryz.f181, _, by kernel_rfl, by kernel_rfl, rfl, by kernel_rfl, by kernel_rfl, rfl⟩, by kernel_rfl⟩
def c182 : ACode :=
 (.seq (.ops [⟨some 4, none, .prim (.mov (.const (.bool false)))⟩])
 (.seq (.seq (.ops [⟨some 5, none, .prim (.mov (.tmp 0))⟩,
 ⟨some 6, none, .prim (.mov (.tmp 1))⟩,
 ⟨some 7, none, .call (.func 192) [(.tmp 5), (.tmp 6)]⟩,
 ⟨some 8, none, .prim (.un .not (.tmp 7))⟩])
 (.cond (.tmp 8)
 (.seq (.ops [⟨some 4, none, .prim (.mov (.const (.bool false)))⟩])
 .ret)
 .skip))
 (.seq (.ops [⟨some 9, none, .prim (.mov (.tmp 0))⟩,
 ⟨some 10, none, .prim (.nilc (.tmp 9))⟩,
 ⟨some 11, none, .prim (.fadr 1 (.tmp 10))⟩,
 ⟨some 12, none, .prim (.load 1 false (.tmp 11))⟩,
 ⟨some 13, none, .prim (.bin false .add (.tmp 12) (.const (.int .i64 1)))⟩,
 ⟨some 14, none, .prim (.nilc (.tmp 9))⟩,
 ⟨some 15, none, .prim (.fadr 1 (.tmp 14))⟩,
 ⟨none, none, .prim (.store 1 (.tmp 15) (.tmp 13))⟩])
 (.seq (.ops [⟨some 4, none, .prim (.mov (.const (.bool true)))⟩])
 .ret))))
def o182 : List Tmp := []
def r182 : List RV := [.tmp 4]
theorem t182 : Text Tryz.prog 182 o182 c182 r182 16 := ⟨⟨Tryz.f182, _, by kernel_rfl, by kernel_rfl, rfl, by kernel_rfl, by kernel_rfl, rfl⟩, by kernel_rfl⟩
def c184 : ACode :=
 (.seq (.ops [⟨some 1, none, .prim (.boxr (.tmp 0))⟩,
 ⟨some 2, none, .prim (.mov (.const (.bool false)))⟩])
 (.seq (.seq (.ops [⟨some 5, none, .prim (.load 3 true (.tmp 1))⟩,
 ⟨some 6, none, .call (.func 159) [(.tmp 5)]⟩,
 ⟨some 7, none, .prim (.un .not (.tmp 6))⟩,
 ⟨some 8, none, .prim (.mov (.tmp 7))⟩,
 ⟨some 9, (some (8, false)), .prim (.load 3 true (.tmp 1))⟩,
 ⟨some 10, (some (8, false)), .call (.func 142) [(.tmp 9)]⟩,
 ⟨some 11, (some (8, false)), .prim (.un .not (.tmp 10))⟩,
 ⟨some 12, none, .prim (.pick (.tmp 8) (.const (.bool true)) (.tmp 11))⟩])
 (.cond (.tmp 12)
 (.seq (.ops [⟨some 2, none, .prim (.mov (.const (.bool false)))⟩])
 .ret)
 .skip))
 (.seq (.ops [⟨some 14, none, .prim (.load 3 true (.tmp 1))⟩,
 ⟨some 15, none, .call (.func 176) [(.tmp 14)]⟩,
 ⟨some 13, none, .prim (.mov (.tmp 15))⟩,
 ⟨some 16, none, .prim (.extr 0 (.tmp 13))⟩,
 ⟨some 17, none, .prim (.extr 1 (.tmp 13))⟩,
 ⟨some 3, none, .prim (.mov (.tmp 16))⟩,
 ⟨some 4, none, .prim (.mov (.tmp 17))⟩])
 (.seq (.ops [⟨some 18, none, .prim (.mov (.tmp 4))⟩,
 ⟨some 19, none, .prim (.un .not (.tmp 18))⟩,
 ⟨some 2, none, .prim (.mov (.tmp 19))⟩])
 .ret))))
def o184 : List Tmp := []
def r184 : List RV := [.tmp 2]
theorem t184 : Text Tryz.prog 184 o184 c184 r184 20 := ⟨⟨Tryz.f184, _, by kernel_rfl, by kernel_rfl, rfl, by kernel_rfl, by kernel_rfl, rfl⟩, by kernel_rfl⟩
def c185 : ACode :=
 (.seq (.ops [⟨some 1, none, .prim (.boxr (.tmp 0))⟩,
 ⟨some 2, none, .prim (.mov (.const (.slice none 0 0)))⟩,
 ⟨some 3, none, .prim (.mov (.const (.bool false)))⟩])
 (.seq (.ops [⟨some 5, none, .prim (.load 6 true (.tmp 1))⟩,
 ⟨some 6, none, .call (.func 194) [(.tmp 5)]⟩,
 ⟨some 4, none, .prim (.mov (.tmp 6))⟩])
 (.seq (.seq (.ops [⟨some 7, none, .prim (.mov (.tmp 4))⟩,
 ⟨some 8, none, .prim (.bin false .eql (.tmp 7) (.const (.int .i64 0)))⟩,
 ⟨some 9, none, .prim (.mov (.tmp 8))⟩,
 ⟨some 10, (some (9, false)), .prim (.mov (.tmp 4))⟩,
 ⟨some 11, (some (9, false)), .prim (.bin false .gtr (.tmp 10) (.const (.int .i64 40)))⟩,
 ⟨some 12, none, .prim (.pick (.tmp 9) (.const (.bool true)) (.tmp 11))⟩])
 (.cond (.tmp 12)
 (.seq (.ops [⟨some 2, none, .prim (.mov (.const (.slice none 0 0)))⟩,
 ⟨some 3, none, .prim (.mov (.const (.bool false)))⟩])
 (.ghost (.shut 2) .ret))
 .skip))
 (.seq (.ops [⟨some 13, none, .prim (.load 6 true (.tmp 1))⟩,
 ⟨some 14, none, .call (.func 195) [(.const (.slice none 0 0)), (.tmp 13)]⟩,
 ⟨some 15, none, .prim (.build [.pl (.int .i64 0), .pl (.int .u64 0), .pl (.int .u64 0), .pl (.int .u64 0), .pl (.int .u64 0), .pl (.int .i64 0), .pl (.int .i64 0)] [(0, 1, (.const (.int .i64 4)))])⟩,
 ⟨some 16, none, .prim (.bsl false 7 true 1 [.pl (.int .i64 0), .pl (.int .u64 0), .pl (.int .u64 0), .pl (.int .u64 0), .pl (.int .u64 0), .pl (.int .i64 0), .pl (.int .i64 0)] [(0, 7, (.tmp 15))])⟩,
 ⟨some 17, none, .prim (.app 7 (.tmp 14) (.tmp 16))⟩,
 ⟨some 2, none, .prim (.mov (.tmp 17))⟩,
 ⟨some 3, none, .prim (.mov (.const (.bool true)))⟩])
 (.ghost (.shut 2) .ret)))))
def o185 : List Tmp := []
def r185 : List RV := [.tmp 2, .tmp 3]
theorem t185 : Text Tryz.prog 185 o185 c185 r185 18 := ⟨⟨Tryz.f185, _, by kernel_rfl, by kernel_rfl, rfl, by kernel_rfl, by kernel_rfl, rfl⟩, by kernel_rfl⟩
def c186 : ACode :=
 (.seq (.ops [⟨some 1, none, .prim (.boxr (.tmp 0))⟩,
 ⟨some 2, none, .prim (.mov (.const (.bool false)))⟩])
 (.seq (.seq (.ops [⟨some 4, none, .prim (.load 1 false (.tmp 1))⟩,
 ⟨some 5, none, .prim (.lenv (.tmp 4))⟩,
 ⟨some 6, none, .prim (.bin false .lss (.tmp 5) (.const (.int .i64 1)))⟩,
 ⟨some 7, none, .prim (.mov (.tmp 6))⟩,
 ⟨some 8, (some (7, false)), .prim (.load 1 false (.tmp 1))⟩,
 ⟨some 9, (some (7, false)), .prim (.lenv (.tmp 8))⟩,
 ⟨some 10, (some (7, false)), .prim (.bin false .gtr (.tmp 9) (.const (.int .i64 40)))⟩,
 ⟨some 11, none, .prim (.pick (.tmp 7) (.const (.bool true)) (.tmp 10))⟩])
 (.cond (.tmp 11)
 (.seq (.ops [⟨some 2, none, .prim (.mov (.const (.bool false)))⟩])
 .ret)
 .skip))
 (.seq (.ops [⟨some 12, none, .prim (.load 1 false (.tmp 1))⟩,
 ⟨some 13, none, .prim (.lenv (.tmp 12))⟩,
 ⟨some 14, none, .prim (.bin false .sub (.tmp 13) (.const (.int .i64 1)))⟩,
 ⟨some 3, none, .prim (.mov (.tmp 14))⟩])
 (.seq (.draw [⟨⟨some 15, none, .prim (.load 1 false (.tmp 1))⟩, [], false, 0, 0⟩,
 ⟨⟨some 16, none, .prim (.mov (.tmp 3))⟩, [], false, 0, 0⟩,
 ⟨⟨some 17, none, .prim (.slcv 7 (.tmp 15) none (some (.tmp 16)))⟩, [0, 1], false, 0, 0⟩,
 ⟨⟨some 18, none, .prim (.mkfn 197 [] [(.tmp 1)])⟩, [], false, 0, 0⟩,
 ⟨⟨some 19, none, .call (.func 196) [(.tmp 17), (.tmp 18)]⟩, [0, 1, 2, 3], true, 0, 0⟩,
 ⟨⟨some 20, none, .prim (.un .not (.tmp 19))⟩, [0, 1, 2, 3, 4], false, 1, 1⟩,
 ⟨⟨some 21, none, .prim (.mov (.tmp 20))⟩, (List.range 6), false, 1, 1⟩,
 ⟨⟨some 22, (some (21, true)), .prim (.load 1 false (.tmp 1))⟩, (List.range 7), false, 1, 1⟩,
 ⟨⟨some 23, (some (21, true)), .prim (.mov (.tmp 3))⟩, (List.range 7), false, 1, 1⟩,
 ⟨⟨some 24, (some (21, true)), .prim (.iadrs 7 (.tmp 22) (.tmp 23))⟩, (List.range 9), false, 1, 1⟩,
 ⟨⟨some 25, (some (21, true)), .prim (.load 7 true (.tmp 24))⟩, (List.range 10), false, 1, 1⟩,
 ⟨⟨some 26, (some (21, true)), .prim (.load 1 false (.tmp 1))⟩, (List.range 7), false, 1, 1⟩,
 ⟨⟨some 27, (some (21, true)), .prim (.lenv (.tmp 26))⟩, [0, 1, 2, 3, 4, 5, 6, 11], false, 1, 1⟩,
 ⟨⟨some 28, (some (21, true)), .call (.func 198) [(.tmp 25), (.tmp 27), (.const (.bool true))]⟩, (List.range 13), true, 0, 0⟩,
 ⟨⟨some 29, none, .prim (.pick (.tmp 21) (.tmp 28) (.const (.bool false)))⟩, (List.range 14), false, 2, 2⟩,
 ⟨⟨some 2, none, .prim (.mov (.tmp 29))⟩, (List.range 15), false, 2, 2⟩])
 .ret))))
def o186 : List Tmp := []
def r186 : List RV := [.tmp 2]
theorem t186 : Text Tryz.prog 186 o186 c186 r186 30 := ⟨⟨Tryz.f186, _, by kernel_rfl, by kernel_rfl, rfl, by kernel_rfl, by kernel_rfl, rfl⟩, by kernel_rfl⟩
def c187 : ACode :=
 (.seq (.ops [⟨some 2, none, .prim (.mov (.const (.int .u64 0)))⟩])
 (.seq (.ops [⟨some 3, none, .prim (.allocm [.pl (.int .u64 0)])⟩,
 ⟨none, none, .prim (.store 1 (.tmp 3) (.const (.int .u64 0)))⟩])
 (.seq (.ops [⟨some 4, none, .prim (.mov (.tmp 0))⟩,
 ⟨some 5, none, .call (.func 199) [(.tmp 4), (.const (.int .i64 0)), (.tmp 3)]⟩,
 ⟨some 2, none, .prim (.mov (.tmp 5))⟩])
 .ret)))
def o187 : List Tmp := [3]
def r187 : List RV := [.tmp 2]
theorem t187 : Text Tryz.prog 187 o187 c187 r187 6 := ⟨⟨Tryz.f187, _, by kernel_rfl, by kernel_rfl, rfl, by kernel_rfl, by kernel_rfl, rfl⟩, by kernel_rfl⟩
def c188 : ACode :=
 (.seq (.ops [⟨some 6, none, .prim (.mov (.const (.int .u64 0)))⟩])
 (.seq (.ops [⟨some 7, none, .prim (.allocm [.pl (.int .u64 0)])⟩,
 ⟨none, none, .prim (.store 1 (.tmp 7) (.const (.int .u64 0)))⟩,
 ⟨some 8, none, .prim (.mov (.const (.int .u64 0)))⟩])
 (.seq (.seq (.ops [⟨some 11, none, .prim (.mov (.tmp 0))⟩,
 ⟨some 12, none, .prim (.lenv (.tmp 11))⟩,
 ⟨some 13, none, .prim (.mov (.const (.int .i64 0)))⟩])
 (.block 0 (.loop [3, 4, 5, 6, 9, 10, 14, 15, 16, 17, 18, 19, 20, 21, 22, 23, 24, 25, 26, 27, 28, 29, 30, 31, 32, 33, 34, 35, 36, 37, 38, 39, 40, 41, 42, 43, 44, 45, 46, 47] (.seq (.ops [⟨some 14, none, .prim (.bin false .lss (.tmp 13) (.tmp 12))⟩])
 (.seq (.cond (.tmp 14)
 .skip
 (.exit 0))
 (.seq (.block 1 (.seq (.ops [⟨some 15, none, .prim (.mov (.tmp 13))⟩,
 ⟨some 16, none, .prim (.iadrs 7 (.tmp 11) (.tmp 13))⟩,
 ⟨some 17, none, .prim (.load 7 true (.tmp 16))⟩,
 ⟨some 10, none, .prim (.allocm [.pl (.int .i64 0), .pl (.int .u64 0), .pl (.int .u64 0), .pl (.int .u64 0), .pl (.int .u64 0), .pl (.int .i64 0), .pl (.int .i64 0)])⟩,
 ⟨some 9, none, .prim (.mov (.tmp 15))⟩,
 ⟨none, none, .prim (.store 7 (.tmp 10) (.tmp 17))⟩])
 (.seq (.ops [⟨some 18, none, .prim (.mov (.tmp 1))⟩,
 ⟨some 19, none, .prim (.mov (.tmp 9))⟩,
 ⟨some 20, none, .prim (.bin false .shr (.tmp 18) (.tmp 19))⟩,
 ⟨some 21, none, .prim (.bin false .and (.tmp 20) (.const (.int .u64 1)))⟩,
 ⟨some 22, none, .prim (.bin false .eql (.tmp 21) (.const (.int .u64 1)))⟩,
 ⟨some 23, none, .prim (.mov (.tmp 22))⟩,
 ⟨some 24, (some (23, true)), .prim (.fadr 0 (.tmp 10))⟩,
 ⟨some 25, (some (23, true)), .prim (.load 1 false (.tmp 24))⟩,
 ⟨some 26, (some (23, true)), .prim (.bin false .eql (.tmp 25) (.const (.int .i64 1)))⟩,
 ⟨some 27, none, .prim (.pick (.tmp 23) (.tmp 26) (.const (.bool false)))⟩,
 ⟨some 28, none, .prim (.mov (.tmp 27))⟩,
 ⟨some 29, (some (28, true)), .prim (.mov (.tmp 2))⟩,
 ⟨some 30, (some (28, true)), .prim (.bin false .quo (.tmp 29) (.const (.int .u8 64)))⟩,
 ⟨some 31, (some (28, true)), .prim (.fadr 1 (.tmp 10))⟩,
 ⟨some 32, (some (28, true)), .prim (.iadra 1 4 (.tmp 31) (.tmp 30))⟩,
 ⟨some 33, (some (28, true)), .prim (.load 1 false (.tmp 32))⟩,
 ⟨some 34, (some (28, true)), .prim (.mov (.tmp 2))⟩,
 ⟨some 35, (some (28, true)), .prim (.bin false .rem (.tmp 34) (.const (.int .u8 64)))⟩,
 ⟨some 36, (some (28, true)), .prim (.bin false .shr (.tmp 33) (.tmp 35))⟩,
 ⟨some 37, (some (28, true)), .prim (.bin false .and (.tmp 36) (.const (.int .u64 1)))⟩,
 ⟨some 38, (some (28, true)), .prim (.bin false .eql (.tmp 37) (.const (.int .u64 1)))⟩,
 ⟨some 39, none, .prim (.pick (.tmp 28) (.tmp 38) (.const (.bool false)))⟩])
 (.cond (.tmp 39)
 (.ops [⟨some 40, none, .prim (.mov (.tmp 8))⟩,
 ⟨some 41, none, .prim (.mov (.tmp 0))⟩,
 ⟨some 42, none, .prim (.mov (.tmp 9))⟩,
 ⟨some 43, none, .prim (.bin false .add (.tmp 42) (.const (.int .i64 1)))⟩,
 ⟨some 44, none, .call (.func 199) [(.tmp 41), (.tmp 43), (.tmp 7)]⟩,
 ⟨some 45, none, .prim (.bin false .or (.tmp 40) (.tmp 44))⟩,
 ⟨some 8, none, .prim (.mov (.tmp 45))⟩])
 .skip))))
 (.after (.after (.ops [⟨some 46, none, .prim (.bin false .add (.tmp 13) (.const (.int .i64 1)))⟩,
 ⟨some 13, none, .prim (.mov (.tmp 46))⟩]) (.clear [10, 24, 31, 32])) (.keep 1))))))))
 (.seq (.ops [⟨some 47, none, .prim (.mov (.tmp 8))⟩,
 ⟨some 6, none, .prim (.mov (.tmp 47))⟩])
 .ret))))
def o188 : List Tmp := [7, 10]
def r188 : List RV := [.tmp 6]
theorem t188 : Text Tryz.prog 188 o188 c188 r188 48 := ⟨⟨Tryz.f188, _, by kernel_rfl, by kernel_rfl, rfl, by kernel_rfl, by kernel_rfl, rfl⟩, by kernel_rfl⟩
def c191 : ACode :=
 (.seq (.ops [⟨some 2, none, .prim (.mov (.const (.bool false)))⟩])
 (.seq (.draw [⟨⟨some 3, none, .prim (.mov (.tmp 0))⟩, [], false, 0, 0⟩,
 ⟨⟨some 4, none, .prim (.nilc (.tmp 3))⟩, [0], false, 0, 0⟩,
 ⟨⟨some 5, none, .prim (.fadr 2 (.tmp 4))⟩, [0, 1], false, 0, 0⟩,
 ⟨⟨some 6, none, .prim (.load 1 false (.tmp 5))⟩, [0, 1, 2], false, 0, 0⟩,
 ⟨⟨some 7, none, .prim (.mov (.tmp 6))⟩, [0, 1, 2, 3], false, 0, 0⟩,
 ⟨⟨some 8, (some (7, false)), .prim (.mov (.tmp 0))⟩, [0, 1, 2, 3, 4], false, 0, 0⟩,
 ⟨⟨some 9, (some (7, false)), .prim (.nilc (.tmp 8))⟩, (List.range 6), false, 0, 0⟩,
 ⟨⟨some 10, (some (7, false)), .prim (.fadr 1 (.tmp 9))⟩, (List.range 7), false, 0, 0⟩,
 ⟨⟨some 11, (some (7, false)), .prim (.load 1 false (.tmp 10))⟩, (List.range 8), false, 0, 0⟩,
 ⟨⟨some 12, (some (7, false)), .prim (.mov (.tmp 0))⟩, [0, 1, 2, 3, 4], false, 0, 0⟩,
 ⟨⟨some 13, (some (7, false)), .prim (.nilc (.tmp 12))⟩, [0, 1, 2, 3, 4, 9], false, 0, 0⟩,
 ⟨⟨some 14, (some (7, false)), .prim (.fadr 0 (.tmp 13))⟩, [0, 1, 2, 3, 4, 9, 10], false, 0, 0⟩,
 ⟨⟨some 15, (some (7, false)), .prim (.load 1 false (.tmp 14))⟩, [0, 1, 2, 3, 4, 9, 10, 11], false, 0, 0⟩,
 ⟨⟨some 16, (some (7, false)), .prim (.lens (.tmp 15))⟩, [0, 1, 2, 3, 4, 9, 10, 11, 12], false, 0, 0⟩,
 ⟨⟨some 17, (some (7, false)), .prim (.bin false .geq (.tmp 11) (.tmp 16))⟩, (List.range 14), false, 0, 0⟩,
 ⟨⟨some 18, none, .prim (.pick (.tmp 7) (.const (.bool true)) (.tmp 17))⟩, (List.range 15), false, 0, 0⟩,
 ⟨⟨some 2, none, .prim (.mov (.tmp 18))⟩, (List.range 16), false, 0, 0⟩])
 .ret))
def o191 : List Tmp := []
def r191 : List RV := [.tmp 2]
theorem t191 : Text Tryz.prog 191 o191 c191 r191 19 := ⟨⟨Tryz.f191, _, by kernel_rfl, by kernel_rfl, rfl, by kernel_rfl, by kernel_rfl, rfl⟩, by kernel_rfl⟩
def c192 : ACode :=
 (.seq (.ops [⟨some 4, none, .prim (.mov (.const (.bool false)))⟩])
 (.seq (.draw [⟨⟨some 5, none, .prim (.mov (.tmp 0))⟩, [], false, 0, 0⟩,
 ⟨⟨some 6, none, .call (.func 191) [(.tmp 5)]⟩, [0], true, 0, 0⟩,
 ⟨⟨some 7, none, .prim (.un .not (.tmp 6))⟩, [0, 1], false, 1, 1⟩,
 ⟨⟨some 8, none, .prim (.mov (.tmp 7))⟩, [0, 1, 2], false, 1, 1⟩,
 ⟨⟨some 9, (some (8, true)), .prim (.mov (.tmp 0))⟩, [0, 1, 2, 3], false, 1, 1⟩,
 ⟨⟨some 10, (some (8, true)), .prim (.nilc (.tmp 9))⟩, [0, 1, 2, 3, 4], false, 1, 1⟩,
 ⟨⟨some 11, (some (8, true)), .prim (.fadr 0 (.tmp 10))⟩, (List.range 6), false, 1, 1⟩,
 ⟨⟨some 12, (some (8, true)), .prim (.load 1 false (.tmp 11))⟩, (List.range 7), false, 1, 1⟩,
 ⟨⟨some 13, (some (8, true)), .prim (.mov (.tmp 0))⟩, [0, 1, 2, 3], false, 1, 1⟩,
 ⟨⟨some 14, (some (8, true)), .prim (.nilc (.tmp 13))⟩, [0, 1, 2, 3, 8], false, 1, 1⟩,
 ⟨⟨some 15, (some (8, true)), .prim (.fadr 1 (.tmp 14))⟩, [0, 1, 2, 3, 8, 9], false, 1, 1⟩,
 ⟨⟨some 16, (some (8, true)), .prim (.load 1 false (.tmp 15))⟩, [0, 1, 2, 3, 8, 9, 10], false, 1, 1⟩,
 ⟨⟨some 17, (some (8, true)), .prim (.idxs (.tmp 12) (.tmp 16))⟩, (List.range 12), false, 1, 1⟩,
 ⟨⟨some 18, (some (8, true)), .prim (.mov (.tmp 1))⟩, [0, 1, 2, 3], false, 1, 1⟩,
 ⟨⟨some 19, (some (8, true)), .prim (.bin false .eql (.tmp 17) (.tmp 18))⟩, (List.range 14), false, 1, 1⟩,
 ⟨⟨some 20, none, .prim (.pick (.tmp 8) (.tmp 19) (.const (.bool false)))⟩, (List.range 15), false, 1, 1⟩,
 ⟨⟨some 4, none, .prim (.mov (.tmp 20))⟩, (List.range 16), false, 1, 1⟩])
 .ret))
def o192 : List Tmp := []
def r192 : List RV := [.tmp 4]
theorem t192 : Text Tryz.prog 192 o192 c192 r192 21 := ⟨⟨Tryz.f192, _, by kernel_rfl, by kernel_rfl, rfl, by kernel_rfl, by kernel_rfl, rfl⟩, by kernel_rfl⟩
def c193 : ACode :=
 (.seq (.ops [⟨some 4, none, .prim (.allocm [.pl (.int .i64 0), .pl (.int .u64 0), .pl (.int .u64 0), .pl (.int .u64 0), .pl (.int .u64 0), .nils])⟩])
 (.seq (.ops [⟨some 6, none, .prim (.mov (.tmp 0))⟩,
 ⟨some 7, none, .prim (.mov (.tmp 1))⟩,
 ⟨some 8, none, .call (.func 201) [(.tmp 6), (.tmp 7)]⟩,
 ⟨some 5, none, .fresh 6 5 (.tmp 8)⟩])
 (.seq (.block 0 (.seq (.ops [⟨some 10, none, .prim (.mov (.tmp 0))⟩,
 ⟨some 11, none, .call (.func 182) [(.tmp 10), (.const (.int .u8 42))]⟩,
 ⟨some 9, none, .prim (.mov (.tmp 11))⟩])
 (.cond (.tmp 9)
 (.seq (.ops [⟨some 12, none, .prim (.load 6 true (.tmp 5))⟩,
 ⟨some 13, none, .prim (.bsl false 6 true 1 [.pl (.int .i64 0), .pl (.int .u64 0), .pl (.int .u64 0), .pl (.int .u64 0), .pl (.int .u64 0), .nils] [(0, 6, (.tmp 12))])⟩,
 ⟨some 14, none, .prim (.build [.pl (.int .i64 0), .pl (.int .u64 0), .pl (.int .u64 0), .pl (.int .u64 0), .pl (.int .u64 0), .nils] [(0, 1, (.const (.int .i64 4))), (5, 1, (.tmp 13))])⟩,
 ⟨none, none, .prim (.store 6 (.tmp 4) (.tmp 14))⟩])
 .ret)
 (.seq (.ops [⟨some 16, none, .prim (.mov (.tmp 0))⟩,
 ⟨some 17, none, .call (.func 182) [(.tmp 16), (.const (.int .u8 43))]⟩,
 ⟨some 15, none, .prim (.mov (.tmp 17))⟩])
 (.cond (.tmp 15)
 (.seq (.ops [⟨some 18, none, .prim (.load 6 true (.tmp 5))⟩,
 ⟨some 19, none, .prim (.bsl false 6 true 1 [.pl (.int .i64 0), .pl (.int .u64 0), .pl (.int .u64 0), .pl (.int .u64 0), .pl (.int .u64 0), .nils] [(0, 6, (.tmp 18))])⟩,
 ⟨some 20, none, .prim (.build [.pl (.int .i64 0), .pl (.int .u64 0), .pl (.int .u64 0), .pl (.int .u64 0), .pl (.int .u64 0), .nils] [(0, 1, (.const (.int .i64 5))), (5, 1, (.tmp 19))])⟩,
 ⟨none, none, .prim (.store 6 (.tmp 4) (.tmp 20))⟩])
 .ret)
 (.seq (.ops [⟨some 22, none, .prim (.mov (.tmp 0))⟩,
 ⟨some 23, none, .call (.func 182) [(.tmp 22), (.const (.int .u8 63))]⟩,
 ⟨some 21, none, .prim (.mov (.tmp 23))⟩])
 (.cond (.tmp 21)
 (.seq (.ops [⟨some 24, none, .prim (.load 6 true (.tmp 5))⟩,
 ⟨some 25, none, .prim (.bsl false 6 true 1 [.pl (.int .i64 0), .pl (.int .u64 0), .pl (.int .u64 0), .pl (.int .u64 0), .pl (.int .u64 0), .nils] [(0, 6, (.tmp 24))])⟩,
 ⟨some 26, none, .prim (.build [.pl (.int .i64 0), .pl (.int .u64 0), .pl (.int .u64 0), .pl (.int .u64 0), .pl (.int .u64 0), .nils] [(0, 1, (.const (.int .i64 6))), (5, 1, (.tmp 25))])⟩,
 ⟨none, none, .prim (.store 6 (.tmp 4) (.tmp 26))⟩])
 .ret)
 .skip)))))))
 (.seq (.ops [⟨some 27, none, .prim (.load 6 true (.tmp 5))⟩,
 ⟨none, none, .prim (.store 6 (.tmp 4) (.tmp 27))⟩])
 .ret))))
def o193 : List Tmp := [4]
def r193 : List RV := [.cell 4 6 true]
theorem t193 : Text Tryz.prog 193 o193 c193 r193 28 := ⟨⟨Tryz.f193, _, by kernel_rfl, by kernel_rfl, rfl, by kernel_rfl, by kernel_rfl, rfl⟩, by kernel_rfl⟩
def c194 : ACode :=
 (.seq (.ops [⟨some 1, none, .prim (.boxr (.tmp 0))⟩,
 ⟨some 2, none, .prim (.mov (.const (.int .i64 0)))⟩])
 (.seq (.seq (.ops [⟨some 3, none, .prim (.load 6 true (.tmp 1))⟩,
 ⟨some 4, none, .call (.func 202) [(.tmp 3)]⟩,
 ⟨some 5, none, .prim (.un .not (.tmp 4))⟩])
 (.cond (.tmp 5)
 (.seq (.ops [⟨some 2, none, .prim (.mov (.const (.int .i64 0)))⟩])
 .ret)
 .skip))
 (.seq (.ops [⟨some 6, none, .prim (.load 6 true (.tmp 1))⟩,
 ⟨some 7, none, .call (.func 203) [(.tmp 6)]⟩,
 ⟨some 8, none, .prim (.bin false .add (.tmp 7) (.const (.int .i64 1)))⟩,
 ⟨some 2, none, .prim (.mov (.tmp 8))⟩])
 .ret)))
def o194 : List Tmp := []
def r194 : List RV := [.tmp 2]
theorem t194 : Text Tryz.prog 194 o194 c194 r194 9 := ⟨⟨Tryz.f194, _, by kernel_rfl, by kernel_rfl, rfl, by kernel_rfl, by kernel_rfl, rfl⟩, by kernel_rfl⟩
def c195 : ACode :=
 (.seq (.ops [⟨some 3, none, .prim (.boxr (.tmp 1))⟩,
 ⟨some 4, none, .prim (.mov (.const (.slice none 0 0)))⟩])
 (.seq (.ops [⟨some 8, none, .prim (.mov (.tmp 0))⟩,
 ⟨some 9, none, .prim (.lenv (.tmp 8))⟩,
 ⟨some 5, none, .prim (.mov (.tmp 9))⟩])
 (.seq (.seq (.ops [⟨some 10, none, .prim (.fadr 0 (.tmp 3))⟩,
 ⟨some 11, none, .prim (.load 1 false (.tmp 10))⟩])
 (.block 0 (.seq (.ops [⟨some 13, none, .prim (.bin false .eql (.tmp 11) (.const (.int .i64 1)))⟩,
 ⟨some 12, none, .prim (.mov (.tmp 13))⟩])
 (.cond (.tmp 12)
 (.seq (.ops [⟨some 14, none, .prim (.mov (.tmp 0))⟩,
 ⟨some 15, none, .prim (.fadr 1 (.tmp 3))⟩,
 ⟨some 16, none, .prim (.load 4 true (.tmp 15))⟩,
 ⟨some 17, none, .prim (.build [.pl (.int .i64 0), .pl (.int .u64 0), .pl (.int .u64 0), .pl (.int .u64 0), .pl (.int .u64 0), .pl (.int .i64 0), .pl (.int .i64 0)] [(0, 1, (.const (.int .i64 1))), (1, 4, (.tmp 16))])⟩,
 ⟨some 18, none, .prim (.bsl false 7 true 1 [.pl (.int .i64 0), .pl (.int .u64 0), .pl (.int .u64 0), .pl (.int .u64 0), .pl (.int .u64 0), .pl (.int .i64 0), .pl (.int .i64 0)] [(0, 7, (.tmp 17))])⟩,
 ⟨some 19, none, .prim (.app 7 (.tmp 14) (.tmp 18))⟩,
 ⟨some 4, none, .prim (.mov (.tmp 19))⟩])
 .ret)
 (.seq (.ops [⟨some 21, none, .prim (.bin false .eql (.tmp 11) (.const (.int .i64 2)))⟩,
 ⟨some 20, none, .prim (.mov (.tmp 21))⟩])
 (.cond (.tmp 20)
 (.seq (.ops [⟨some 22, none, .prim (.fadr 5 (.tmp 3))⟩,
 ⟨some 23, none, .prim (.load 1 false (.tmp 22))⟩,
 ⟨some 24, none, .prim (.lenv (.tmp 23))⟩,
 ⟨some 25, none, .prim (.mov (.const (.int .i64 0)))⟩])
 (.block 1 (.loop [1, 2, 3, 4, 5, 6, 7, 8, 9, 10, 11, 12, 13, 14, 15, 16, 17, 18, 19, 20, 21, 22, 26, 27, 28, 29, 30, 31, 32, 33, 34, 35, 36, 37, 38, 39, 40, 41, 42, 43, 44, 45, 46, 47, 48, 49, 50, 51, 52, 53, 54, 55, 56, 57, 58, 59, 60, 61, 62, 63, 64, 65, 66, 67, 68, 69, 70, 71, 72, 73, 74, 75, 76, 77, 78, 79, 80, 81, 82, 83, 84, 85, 86, 87, 88, 89, 90, 91, 92, 93, 94, 95, 96, 97, 98] (.seq (.ops [⟨some 26, none, .prim (.bin false .lss (.tmp 25) (.tmp 24))⟩])
 (.seq (.cond (.tmp 26)
 .skip
 (.exit 1))
 (.seq (.block 2 (.seq (.ops [⟨some 27, none, .prim (.iadrs 6 (.tmp 23) (.tmp 25))⟩,
 ⟨some 28, none, .prim (.load 6 true (.tmp 27))⟩,
 ⟨some 7, none, .fresh 6 7 (.tmp 28)⟩])
 (.ops [⟨some 29, none, .prim (.mov (.tmp 0))⟩,
 ⟨some 30, none, .prim (.load 6 true (.tmp 7))⟩,
 ⟨some 31, none, .call (.func 195) [(.tmp 29), (.tmp 30)]⟩,
 ⟨some 0, none, .prim (.mov (.tmp 31))⟩])))
 (.ops [⟨some 32, none, .prim (.bin false .add (.tmp 25) (.const (.int .i64 1)))⟩,
 ⟨some 25, none, .prim (.mov (.tmp 32))⟩])))))))
 (.seq (.ops [⟨some 34, none, .prim (.bin false .eql (.tmp 11) (.const (.int .i64 3)))⟩,
 ⟨some 33, none, .prim (.mov (.tmp 34))⟩])
 (.cond (.tmp 33)
 (.seq (.ops [⟨some 35, none, .prim (.mov (.tmp 0))⟩,
 ⟨some 36, none, .prim (.fadr 5 (.tmp 3))⟩,
 ⟨some 37, none, .prim (.load 1 false (.tmp 36))⟩,
 ⟨some 38, none, .call (.func 204) [(.tmp 35), (.tmp 37)]⟩,
 ⟨some 4, none, .prim (.mov (.tmp 38))⟩])
 .ret)
 (.seq (.ops [⟨some 40, none, .prim (.bin false .eql (.tmp 11) (.const (.int .i64 4)))⟩,
 ⟨some 39, none, .prim (.mov (.tmp 40))⟩])
 (.cond (.tmp 39)
 (.seq (.draw [⟨⟨some 41, none, .prim (.mov (.tmp 0))⟩, [], false, 0, 0⟩,
 ⟨⟨some 42, none, .prim (.mov (.tmp 5))⟩, [], false, 0, 0⟩,
 ⟨⟨some 43, none, .prim (.bin false .add (.tmp 42) (.const (.int .i64 1)))⟩, [1], false, 0, 0⟩,
 ⟨⟨some 44, none, .prim (.build [.pl (.int .i64 0), .pl (.int .u64 0), .pl (.int .u64 0), .pl (.int .u64 0), .pl (.int .u64 0), .pl (.int .i64 0), .pl (.int .i64 0)] [(0, 1, (.const (.int .i64 2))), (5, 1, (.tmp 43))])⟩, [1, 2], false, 0, 0⟩,
 ⟨⟨some 45, none, .prim (.bsl false 7 true 1 [.pl (.int .i64 0), .pl (.int .u64 0), .pl (.int .u64 0), .pl (.int .u64 0), .pl (.int .u64 0), .pl (.int .i64 0), .pl (.int .i64 0)] [(0, 7, (.tmp 44))])⟩, [1, 2, 3], false, 0, 0⟩,
 ⟨⟨some 46, none, .prim (.app 7 (.tmp 41) (.tmp 45))⟩, [0, 1, 2, 3, 4], true, 0, 0⟩,
 ⟨⟨some 47, none, .prim (.fadr 5 (.tmp 3))⟩, [], false, 0, 1⟩,
 ⟨⟨some 48, none, .prim (.load 1 false (.tmp 47))⟩, [6], false, 0, 1⟩,
 ⟨⟨some 49, none, .prim (.iadrs 6 (.tmp 48) (.const (.int .i64 0)))⟩, [6, 7], false, 0, 1⟩,
 ⟨⟨some 50, none, .prim (.load 6 true (.tmp 49))⟩, [6, 7, 8], false, 0, 1⟩,
 ⟨⟨some 51, none, .call (.func 195) [(.tmp 46), (.tmp 50)]⟩, (List.range 10), true, 0, 0⟩,
 ⟨⟨some 0, none, .prim (.mov (.tmp 51))⟩, (List.range 11), false, 2, 2⟩])
 (.seq (.ops [⟨some 52, none, .prim (.mov (.tmp 0))⟩,
 ⟨some 53, none, .prim (.mov (.tmp 5))⟩,
 ⟨some 54, none, .prim (.build [.pl (.int .i64 0), .pl (.int .u64 0), .pl (.int .u64 0), .pl (.int .u64 0), .pl (.int .u64 0), .pl (.int .i64 0), .pl (.int .i64 0)] [(0, 1, (.const (.int .i64 3))), (5, 1, (.tmp 53))])⟩,
 ⟨some 55, none, .prim (.bsl false 7 true 1 [.pl (.int .i64 0), .pl (.int .u64 0), .pl (.int .u64 0), .pl (.int .u64 0), .pl (.int .u64 0), .pl (.int .i64 0), .pl (.int .i64 0)] [(0, 7, (.tmp 54))])⟩,
 ⟨some 56, none, .prim (.app 7 (.tmp 52) (.tmp 55))⟩,
 ⟨some 0, none, .prim (.mov (.tmp 56))⟩])
 (.ops [⟨some 57, none, .prim (.mov (.tmp 0))⟩,
 ⟨some 58, none, .prim (.mov (.tmp 5))⟩,
 ⟨some 59, none, .prim (.mov (.tmp 0))⟩,
 ⟨some 60, none, .prim (.lenv (.tmp 59))⟩,
 ⟨some 61, none, .prim (.iadrs 7 (.tmp 57) (.tmp 58))⟩,
 ⟨some 62, none, .prim (.fadr 6 (.tmp 61))⟩,
 ⟨none, none, .prim (.store 1 (.tmp 62) (.tmp 60))⟩])))
 (.seq (.ops [⟨some 64, none, .prim (.bin false .eql (.tmp 11) (.const (.int .i64 5)))⟩,
 ⟨some 63, none, .prim (.mov (.tmp 64))⟩])
 (.cond (.tmp 63)
 (.seq (.ops [⟨some 65, none, .prim (.mov (.tmp 0))⟩,
 ⟨some 66, none, .prim (.fadr 5 (.tmp 3))⟩,
 ⟨some 67, none, .prim (.load 1 false (.tmp 66))⟩,
 ⟨some 68, none, .prim (.iadrs 6 (.tmp 67) (.const (.int .i64 0)))⟩,
 ⟨some 69, none, .prim (.load 6 true (.tmp 68))⟩,
 ⟨some 70, none, .call (.func 195) [(.tmp 65), (.tmp 69)]⟩,
 ⟨some 0, none, .prim (.mov (.tmp 70))⟩])
 (.ops [⟨some 71, none, .prim (.mov (.tmp 0))⟩,
 ⟨some 72, none, .prim (.mov (.tmp 5))⟩,
 ⟨some 73, none, .prim (.mov (.tmp 0))⟩,
 ⟨some 74, none, .prim (.lenv (.tmp 73))⟩,
 ⟨some 75, none, .prim (.bin false .add (.tmp 74) (.const (.int .i64 1)))⟩,
 ⟨some 76, none, .prim (.build [.pl (.int .i64 0), .pl (.int .u64 0), .pl (.int .u64 0), .pl (.int .u64 0), .pl (.int .u64 0), .pl (.int .i64 0), .pl (.int .i64 0)] [(0, 1, (.const (.int .i64 2))), (5, 1, (.tmp 72)), (6, 1, (.tmp 75))])⟩,
 ⟨some 77, none, .prim (.bsl false 7 true 1 [.pl (.int .i64 0), .pl (.int .u64 0), .pl (.int .u64 0), .pl (.int .u64 0), .pl (.int .u64 0), .pl (.int .i64 0), .pl (.int .i64 0)] [(0, 7, (.tmp 76))])⟩,
 ⟨some 78, none, .prim (.app 7 (.tmp 71) (.tmp 77))⟩,
 ⟨some 0, none, .prim (.mov (.tmp 78))⟩]))
 (.seq (.ops [⟨some 80, none, .prim (.bin false .eql (.tmp 11) (.const (.int .i64 6)))⟩,
 ⟨some 79, none, .prim (.mov (.tmp 80))⟩])
 (.cond (.tmp 79)
 (.seq (.draw [⟨⟨some 81, none, .prim (.mov (.tmp 0))⟩, [], false, 0, 0⟩,
 ⟨⟨some 82, none, .prim (.mov (.tmp 5))⟩, [], false, 0, 0⟩,
 ⟨⟨some 83, none, .prim (.bin false .add (.tmp 82) (.const (.int .i64 1)))⟩, [1], false, 0, 0⟩,
 ⟨⟨some 84, none, .prim (.build [.pl (.int .i64 0), .pl (.int .u64 0), .pl (.int .u64 0), .pl (.int .u64 0), .pl (.int .u64 0), .pl (.int .i64 0), .pl (.int .i64 0)] [(0, 1, (.const (.int .i64 2))), (5, 1, (.tmp 83))])⟩, [1, 2], false, 0, 0⟩,
 ⟨⟨some 85, none, .prim (.bsl false 7 true 1 [.pl (.int .i64 0), .pl (.int .u64 0), .pl (.int .u64 0), .pl (.int .u64 0), .pl (.int .u64 0), .pl (.int .i64 0), .pl (.int .i64 0)] [(0, 7, (.tmp 84))])⟩, [1, 2, 3], false, 0, 0⟩,
 ⟨⟨some 86, none, .prim (.app 7 (.tmp 81) (.tmp 85))⟩, [0, 1, 2, 3, 4], true, 0, 0⟩,
 ⟨⟨some 87, none, .prim (.fadr 5 (.tmp 3))⟩, [], false, 0, 1⟩,
 ⟨⟨some 88, none, .prim (.load 1 false (.tmp 87))⟩, [6], false, 0, 1⟩,
 ⟨⟨some 89, none, .prim (.iadrs 6 (.tmp 88) (.const (.int .i64 0)))⟩, [6, 7], false, 0, 1⟩,
 ⟨⟨some 90, none, .prim (.load 6 true (.tmp 89))⟩, [6, 7, 8], false, 0, 1⟩,
 ⟨⟨some 91, none, .call (.func 195) [(.tmp 86), (.tmp 90)]⟩, (List.range 10), true, 0, 0⟩,
 ⟨⟨some 0, none, .prim (.mov (.tmp 91))⟩, (List.range 11), false, 2, 2⟩])
 (.ops [⟨some 92, none, .prim (.mov (.tmp 0))⟩,
 ⟨some 93, none, .prim (.mov (.tmp 5))⟩,
 ⟨some 94, none, .prim (.mov (.tmp 0))⟩,
 ⟨some 95, none, .prim (.lenv (.tmp 94))⟩,
 ⟨some 96, none, .prim (.iadrs 7 (.tmp 92) (.tmp 93))⟩,
 ⟨some 97, none, .prim (.fadr 6 (.tmp 96))⟩,
 ⟨none, none, .prim (.store 1 (.tmp 97) (.tmp 95))⟩]))
 .skip))))))))))))))
 (.seq (.ops [⟨some 98, none, .prim (.mov (.tmp 0))⟩,
 ⟨some 4, none, .prim (.mov (.tmp 98))⟩])
 .ret))))
def o195 : List Tmp := []
def r195 : List RV := [.tmp 4]
theorem t195 : Text Tryz.prog 195 o195 c195 r195 99 := ⟨⟨Tryz.f195, _, by kernel_rfl, by kernel_rfl, rfl, by kernel_rfl, by kernel_rfl, rfl⟩, by kernel_rfl⟩
def c196 : ACode :=
 (.seq (.ops [⟨some 4, none, .prim (.mov (.const (.bool false)))⟩])
 (.seq (.ops [⟨some 5, none, .prim (.mov (.tmp 0))⟩,
 ⟨some 6, none, .prim (.mov (.tmp 1))⟩,
 ⟨some 7, none, .call (.func 205) [(.tmp 5), (.tmp 6)]⟩,
 ⟨some 8, none, .prim (.bin false .geq (.tmp 7) (.const (.int .i64 0)))⟩,
 ⟨some 4, none, .prim (.mov (.tmp 8))⟩])
 .ret))
def o196 : List Tmp := []
def r196 : List RV := [.tmp 4]
theorem t196 : Text Tryz.prog 196 o196 c196 r196 9 := ⟨⟨Tryz.f196, _, by kernel_rfl, by kernel_rfl, rfl, by kernel_rfl, by kernel_rfl, rfl⟩, by kernel_rfl⟩
def c197 : ACode :=
 (.seq (.ops [⟨some 2, none, .prim (.boxr (.tmp 0))⟩,
 ⟨some 3, none, .prim (.mov (.const (.bool false)))⟩])
 (.seq (.ops [⟨some 4, none, .prim (.load 7 true (.tmp 2))⟩,
 ⟨some 5, none, .prim (.load 1 false (.tmp 1))⟩,
 ⟨some 6, none, .prim (.lenv (.tmp 5))⟩,
 ⟨some 7, none, .call (.func 198) [(.tmp 4), (.tmp 6), (.const (.bool false))]⟩,
 ⟨some 8, none, .prim (.un .not (.tmp 7))⟩,
 ⟨some 3, none, .prim (.mov (.tmp 8))⟩])
 .ret))
def o197 : List Tmp := []
def r197 : List RV := [.tmp 3]
theorem t197 : Text Tryz.prog 197 o197 c197 r197 9 := ⟨⟨Tryz.f197, _, by kernel_rfl, by kernel_rfl, rfl, by kernel_rfl, by kernel_rfl, rfl⟩, by kernel_rfl⟩
def c198 : ACode :=
 (.seq (.ops [⟨some 3, none, .prim (.boxr (.tmp 0))⟩,
 ⟨some 4, none, .prim (.boxr (.tmp 1))⟩,
 ⟨some 6, none, .prim (.mov (.const (.bool false)))⟩])
 (.seq (.ops [⟨some 8, none, .prim (.mkfn 206 [] [(.tmp 4)])⟩,
 ⟨some 7, none, .prim (.mov (.tmp 8))⟩])
 (.seq (.seq (.ops [⟨some 9, none, .prim (.fadr 0 (.tmp 3))⟩,
 ⟨some 10, none, .prim (.load 1 false (.tmp 9))⟩,
 ⟨some 11, none, .prim (.bin false .neq (.tmp 10) (.const (.int .i64 1)))⟩,
 ⟨some 12, none, .prim (.mov (.tmp 11))⟩,
 ⟨some 13, (some (12, true)), .prim (.fadr 1 (.tmp 3))⟩,
 ⟨some 14, (some (12, true)), .prim (.load 4 true (.tmp 13))⟩,
 ⟨some 15, (some (12, true)), .prim (.build [.pl (.int .u64 0), .pl (.int .u64 0), .pl (.int .u64 0), .pl (.int .u64 0)] [])⟩,
 ⟨some 16, (some (12, true)), .prim (.eqa true [.int, .int, .int, .int] (.tmp 14) (.tmp 15))⟩,
 ⟨some 17, none, .prim (.pick (.tmp 12) (.tmp 16) (.const (.bool false)))⟩])
 (.cond (.tmp 17)
 (.seq (.ops [⟨some 6, none, .prim (.mov (.const (.bool false)))⟩])
 .ret)
 .skip))
 (.seq (.seq (.ops [⟨some 18, none, .prim (.fadr 0 (.tmp 3))⟩,
 ⟨some 19, none, .prim (.load 1 false (.tmp 18))⟩])
 (.block 0 (.seq (.ops [⟨some 21, none, .prim (.bin false .eql (.tmp 19) (.const (.int .i64 1)))⟩,
 ⟨some 20, none, .prim (.mov (.tmp 21))⟩])
 (.cond (.tmp 20)
 (.seq (.ops [⟨some 22, none, .prim (.fadr 5 (.tmp 3))⟩,
 ⟨some 23, none, .prim (.load 1 false (.tmp 22))⟩,
 ⟨some 24, none, .prim (.bin false .eql (.tmp 23) (.const (.int .i64 0)))⟩,
 ⟨some 25, none, .prim (.mov (.tmp 24))⟩,
 ⟨some 26, (some (25, true)), .prim (.fadr 6 (.tmp 3))⟩,
 ⟨some 27, (some (25, true)), .prim (.load 1 false (.tmp 26))⟩,
 ⟨some 28, (some (25, true)), .prim (.bin false .eql (.tmp 27) (.const (.int .i64 0)))⟩,
 ⟨some 29, none, .prim (.pick (.tmp 25) (.tmp 28) (.const (.bool false)))⟩,
 ⟨some 30, none, .prim (.mov (.tmp 29))⟩,
 ⟨some 31, (some (30, true)), .prim (.mov (.tmp 2))⟩,
 ⟨some 32, (some (30, true)), .prim (.un .not (.tmp 31))⟩,
 ⟨some 33, none, .prim (.pick (.tmp 30) (.tmp 32) (.const (.bool false)))⟩,
 ⟨some 6, none, .prim (.mov (.tmp 33))⟩])
 .ret)
 (.seq (.ops [⟨some 35, none, .prim (.bin false .eql (.tmp 19) (.const (.int .i64 2)))⟩,
 ⟨some 34, none, .prim (.mov (.tmp 35))⟩])
 (.cond (.tmp 34)
 (.seq (.ops [⟨some 36, none, .prim (.mov (.tmp 7))⟩,
 ⟨some 37, none, .prim (.fadr 5 (.tmp 3))⟩,
 ⟨some 38, none, .prim (.load 1 false (.tmp 37))⟩,
 ⟨some 39, none, .call (.tmp 36) [(.tmp 38)]⟩,
 ⟨some 40, none, .prim (.mov (.tmp 39))⟩,
 ⟨some 41, (some (40, true)), .prim (.mov (.tmp 7))⟩,
 ⟨some 42, (some (40, true)), .prim (.fadr 6 (.tmp 3))⟩,
 ⟨some 43, (some (40, true)), .prim (.load 1 false (.tmp 42))⟩,
 ⟨some 44, (some (40, true)), .call (.tmp 41) [(.tmp 43)]⟩,
 ⟨some 45, none, .prim (.pick (.tmp 40) (.tmp 44) (.const (.bool false)))⟩,
 ⟨some 6, none, .prim (.mov (.tmp 45))⟩])
 .ret)
 (.seq (.ops [⟨some 47, none, .prim (.bin false .eql (.tmp 19) (.const (.int .i64 3)))⟩,
 ⟨some 46, none, .prim (.mov (.tmp 47))⟩])
 (.cond (.tmp 46)
 (.seq (.ops [⟨some 48, none, .prim (.mov (.tmp 7))⟩,
 ⟨some 49, none, .prim (.fadr 5 (.tmp 3))⟩,
 ⟨some 50, none, .prim (.load 1 false (.tmp 49))⟩,
 ⟨some 51, none, .call (.tmp 48) [(.tmp 50)]⟩,
 ⟨some 52, none, .prim (.mov (.tmp 51))⟩,
 ⟨some 53, (some (52, true)), .prim (.fadr 6 (.tmp 3))⟩,
 ⟨some 54, (some (52, true)), .prim (.load 1 false (.tmp 53))⟩,
 ⟨some 55, (some (52, true)), .prim (.bin false .eql (.tmp 54) (.const (.int .i64 0)))⟩,
 ⟨some 56, none, .prim (.pick (.tmp 52) (.tmp 55) (.const (.bool false)))⟩,
 ⟨some 6, none, .prim (.mov (.tmp 56))⟩])
 .ret)
 .skip))))))))
 (.seq (.ops [⟨some 57, none, .prim (.fadr 0 (.tmp 3))⟩,
 ⟨some 58, none, .prim (.load 1 false (.tmp 57))⟩,
 ⟨some 59, none, .prim (.bin false .eql (.tmp 58) (.const (.int .i64 4)))⟩,
 ⟨some 60, none, .prim (.mov (.tmp 59))⟩,
 ⟨some 61, (some (60, true)), .prim (.fadr 5 (.tmp 3))⟩,
 ⟨some 62, (some (60, true)), .prim (.load 1 false (.tmp 61))⟩,
 ⟨some 63, (some (60, true)), .prim (.bin false .eql (.tmp 62) (.const (.int .i64 0)))⟩,
 ⟨some 64, none, .prim (.pick (.tmp 60) (.tmp 63) (.const (.bool false)))⟩,
 ⟨some 65, none, .prim (.mov (.tmp 64))⟩,
 ⟨some 66, (some (65, true)), .prim (.fadr 6 (.tmp 3))⟩,
 ⟨some 67, (some (65, true)), .prim (.load 1 false (.tmp 66))⟩,
 ⟨some 68, (some (65, true)), .prim (.bin false .eql (.tmp 67) (.const (.int .i64 0)))⟩,
 ⟨some 69, none, .prim (.pick (.tmp 65) (.tmp 68) (.const (.bool false)))⟩,
 ⟨some 6, none, .prim (.mov (.tmp 69))⟩])
 .ret)))))
def o198 : List Tmp := []
def r198 : List RV := [.tmp 6]
theorem t198 : Text Tryz.prog 198 o198 c198 r198 70 := ⟨⟨Tryz.f198, _, by kernel_rfl, by kernel_rfl, rfl, by kernel_rfl, by kernel_rfl, rfl⟩, by kernel_rfl⟩
def c199 : ACode :=
 (.seq (.ops [⟨some 6, none, .prim (.mov (.const (.int .u64 0)))⟩])
 (.seq (.seq (.ops [⟨some 8, none, .prim (.mov (.tmp 2))⟩,
 ⟨some 9, none, .prim (.nilc (.tmp 8))⟩,
 ⟨some 10, none, .prim (.load 1 false (.tmp 9))⟩,
 ⟨some 11, none, .prim (.mov (.tmp 1))⟩,
 ⟨some 12, none, .prim (.bin false .shr (.tmp 10) (.tmp 11))⟩,
 ⟨some 13, none, .prim (.bin false .and (.tmp 12) (.const (.int .u64 1)))⟩,
 ⟨some 14, none, .prim (.bin false .eql (.tmp 13) (.const (.int .u64 1)))⟩])
 (.cond (.tmp 14)
 (.seq (.ops [⟨some 6, none, .prim (.mov (.const (.int .u64 0)))⟩])
 .ret)
 .skip))
 (.seq (.draw [⟨⟨some 15, none, .prim (.mov (.tmp 2))⟩, [], false, 0, 0⟩,
 ⟨⟨some 16, none, .prim (.nilc (.tmp 15))⟩, [0], false, 0, 0⟩,
 ⟨⟨some 17, none, .prim (.load 1 false (.tmp 16))⟩, [0, 1], false, 0, 0⟩,
 ⟨⟨some 18, none, .prim (.mov (.tmp 1))⟩, [], false, 0, 0⟩,
 ⟨⟨some 19, none, .prim (.bin false .shl (.const (.int .u64 1)) (.tmp 18))⟩, [3], false, 0, 0⟩,
 ⟨⟨some 20, none, .prim (.bin false .or (.tmp 17) (.tmp 19))⟩, [0, 1, 2, 3, 4], false, 0, 0⟩,
 ⟨⟨some 21, none, .prim (.nilc (.tmp 15))⟩, (List.range 6), false, 0, 0⟩,
 ⟨⟨none, none, .prim (.store 1 (.tmp 21) (.tmp 20))⟩, (List.range 7), true, 0, 0⟩])
 (.seq (.seq (.ops [⟨some 22, none, .prim (.mov (.tmp 0))⟩,
 ⟨some 23, none, .prim (.mov (.tmp 1))⟩,
 ⟨some 24, none, .prim (.iadrs 7 (.tmp 22) (.tmp 23))⟩,
 ⟨some 25, none, .prim (.load 7 true (.tmp 24))⟩,
 ⟨some 7, none, .prim (.allocm [.pl (.int .i64 0), .pl (.int .u64 0), .pl (.int .u64 0), .pl (.int .u64 0), .pl (.int .u64 0), .pl (.int .i64 0), .pl (.int .i64 0)])⟩,
 ⟨none, none, .prim (.store 7 (.tmp 7) (.tmp 25))⟩])
 (.seq (.ops [⟨some 26, none, .prim (.fadr 0 (.tmp 7))⟩,
 ⟨some 27, none, .prim (.load 1 false (.tmp 26))⟩])
 (.block 0 (.seq (.ops [⟨some 29, none, .prim (.bin false .eql (.tmp 27) (.const (.int .i64 2)))⟩,
 ⟨some 28, none, .prim (.mov (.tmp 29))⟩])
 (.cond (.tmp 28)
 (.seq (.draw [⟨⟨some 30, none, .prim (.mov (.tmp 0))⟩, [], false, 0, 0⟩,
 ⟨⟨some 31, none, .prim (.fadr 5 (.tmp 7))⟩, [], false, 0, 0⟩,
 ⟨⟨some 32, none, .prim (.load 1 false (.tmp 31))⟩, [1], false, 0, 0⟩,
 ⟨⟨some 33, none, .prim (.mov (.tmp 2))⟩, [], false, 0, 0⟩,
 ⟨⟨some 34, none, .call (.func 199) [(.tmp 30), (.tmp 32), (.tmp 33)]⟩, [0, 1, 2, 3], true, 0, 0⟩,
 ⟨⟨some 35, none, .prim (.mov (.tmp 0))⟩, [], false, 0, 1⟩,
 ⟨⟨some 36, none, .prim (.fadr 6 (.tmp 7))⟩, [], false, 0, 1⟩,
 ⟨⟨some 37, none, .prim (.load 1 false (.tmp 36))⟩, [6], false, 0, 1⟩,
 ⟨⟨some 38, none, .prim (.mov (.tmp 2))⟩, [], false, 0, 1⟩,
 ⟨⟨some 39, none, .call (.func 199) [(.tmp 35), (.tmp 37), (.tmp 38)]⟩, (List.range 9), true, 0, 0⟩,
 ⟨⟨some 40, none, .prim (.bin false .or (.tmp 34) (.tmp 39))⟩, (List.range 10), false, 2, 2⟩,
 ⟨⟨some 6, none, .prim (.mov (.tmp 40))⟩, (List.range 11), false, 2, 2⟩])
 .ret)
 (.seq (.ops [⟨some 42, none, .prim (.bin false .eql (.tmp 27) (.const (.int .i64 3)))⟩,
 ⟨some 41, none, .prim (.mov (.tmp 42))⟩])
 (.cond (.tmp 41)
 (.seq (.ops [⟨some 43, none, .prim (.mov (.tmp 0))⟩,
 ⟨some 44, none, .prim (.fadr 5 (.tmp 7))⟩,
 ⟨some 45, none, .prim (.load 1 false (.tmp 44))⟩,
 ⟨some 46, none, .prim (.mov (.tmp 2))⟩,
 ⟨some 47, none, .call (.func 199) [(.tmp 43), (.tmp 45), (.tmp 46)]⟩,
 ⟨some 6, none, .prim (.mov (.tmp 47))⟩])
 .ret)
 .skip)))))))
 (.seq (.ops [⟨some 48, none, .prim (.mov (.tmp 1))⟩,
 ⟨some 49, none, .prim (.bin false .shl (.const (.int .u64 1)) (.tmp 48))⟩,
 ⟨some 6, none, .prim (.mov (.tmp 49))⟩])
 .ret)))))
def o199 : List Tmp := [7]
def r199 : List RV := [.tmp 6]
theorem t199 : Text Tryz.prog 199 o199 c199 r199 50 := ⟨⟨Tryz.f199, _, by kernel_rfl, by kernel_rfl, rfl, by kernel_rfl, by kernel_rfl, rfl⟩, by kernel_rfl⟩
def c201 : ACode :=
 (.seq (.ops [⟨some 4, none, .prim (.allocm [.pl (.int .i64 0), .pl (.int .u64 0), .pl (.int .u64 0), .pl (.int .u64 0), .pl (.int .u64 0), .nils])⟩])
 (.seq (.ops [⟨some 7, none, .prim (.build [.pl (.int .i64 0), .pl (.int .u64 0), .pl (.int .u64 0), .pl (.int .u64 0), .pl (.int .u64 0), .nils] [(0, 1, (.const (.int .i64 1)))])⟩,
 ⟨some 5, none, .prim (.allocm [.pl (.int .i64 0), .pl (.int .u64 0), .pl (.int .u64 0), .pl (.int .u64 0), .pl (.int .u64 0), .nils])⟩,
 ⟨none, none, .prim (.store 6 (.tmp 5) (.tmp 7))⟩])
 (.seq (.seq (.ops [⟨some 8, none, .prim (.mov (.tmp 0))⟩,
 ⟨some 9, none, .call (.func 208) [(.tmp 8)]⟩,
 ⟨some 6, none, .prim (.mov (.tmp 9))⟩])
 (.seq (.ops [⟨some 10, none, .prim (.mov (.tmp 6))⟩])
 (.block 0 (.seq (.ops [⟨some 27, none, .prim (.bin false .eql (.tmp 10) (.const (.int .u8 40)))⟩,
 ⟨some 26, none, .prim (.mov (.tmp 27))⟩])
 (.cond (.tmp 26)
 (.seq (.ops [⟨some 28, none, .prim (.mov (.tmp 0))⟩,
 ⟨some 29, none, .prim (.mov (.tmp 0))⟩,
 ⟨some 30, none, .prim (.nilc (.tmp 29))⟩,
 ⟨some 31, none, .prim (.fadr 2 (.tmp 30))⟩,
 ⟨some 32, none, .prim (.load 1 false (.tmp 31))⟩,
 ⟨some 33, none, .prim (.mov (.tmp 32))⟩,
 ⟨some 34, (some (33, false)), .prim (.mov (.tmp 1))⟩,
 ⟨some 35, (some (33, false)), .prim (.bin false .eql (.tmp 34) (.const (.int .i64 8)))⟩,
 ⟨some 36, none, .prim (.pick (.tmp 33) (.const (.bool true)) (.tmp 35))⟩,
 ⟨some 37, none, .prim (.nilc (.tmp 28))⟩,
 ⟨some 38, none, .prim (.fadr 2 (.tmp 37))⟩,
 ⟨none, none, .prim (.store 1 (.tmp 38) (.tmp 36))⟩])
 (.seq (.seq (.ops [⟨some 39, none, .prim (.mov (.tmp 0))⟩,
 ⟨some 40, none, .prim (.nilc (.tmp 39))⟩,
 ⟨some 41, none, .prim (.fadr 2 (.tmp 40))⟩,
 ⟨some 42, none, .prim (.load 1 false (.tmp 41))⟩,
 ⟨some 43, none, .prim (.un .not (.tmp 42))⟩])
 (.cond (.tmp 43)
 (.ops [⟨some 44, none, .prim (.mov (.tmp 0))⟩,
 ⟨some 45, none, .prim (.mov (.tmp 1))⟩,
 ⟨some 46, none, .prim (.bin false .add (.tmp 45) (.const (.int .i64 1)))⟩,
 ⟨some 47, none, .call (.func 171) [(.tmp 44), (.tmp 46)]⟩,
 ⟨none, none, .prim (.store 6 (.tmp 5) (.tmp 47))⟩])
 .skip))
 (.ops [⟨some 48, none, .prim (.mov (.tmp 0))⟩,
 ⟨some 49, none, .prim (.mov (.tmp 0))⟩,
 ⟨some 50, none, .call (.func 182) [(.tmp 49), (.const (.int .u8 41))]⟩,
 ⟨some 51, none, .prim (.un .not (.tmp 50))⟩,
 ⟨some 52, none, .prim (.mov (.tmp 51))⟩,
 ⟨some 53, (some (52, false)), .prim (.mov (.tmp 0))⟩,
 ⟨some 54, (some (52, false)), .prim (.nilc (.tmp 53))⟩,
 ⟨some 55, (some (52, false)), .prim (.fadr 2 (.tmp 54))⟩,
 ⟨some 56, (some (52, false)), .prim (.load 1 false (.tmp 55))⟩,
 ⟨some 57, none, .prim (.pick (.tmp 52) (.const (.bool true)) (.tmp 56))⟩,
 ⟨some 58, none, .prim (.nilc (.tmp 48))⟩,
 ⟨some 59, none, .prim (.fadr 2 (.tmp 58))⟩,
 ⟨none, none, .prim (.store 1 (.tmp 59) (.tmp 57))⟩])))
 (.seq (.ops [⟨some 61, none, .prim (.bin false .eql (.tmp 10) (.const (.int .u8 91)))⟩,
 ⟨some 60, none, .prim (.mov (.tmp 61))⟩])
 (.cond (.tmp 60)
 (.ops [⟨some 62, none, .prim (.mov (.tmp 0))⟩,
 ⟨some 63, none, .call (.func 209) [(.tmp 62)]⟩,
 ⟨some 64, none, .prim (.fadr 1 (.tmp 5))⟩,
 ⟨none, none, .prim (.store 4 (.tmp 64) (.tmp 63))⟩])
 (.seq (.ops [⟨some 66, none, .prim (.bin false .eql (.tmp 10) (.const (.int .u8 46)))⟩,
 ⟨some 65, none, .prim (.mov (.tmp 66))⟩])
 (.cond (.tmp 65)
 (.ops [⟨some 67, none, .prim (.fadr 1 (.tmp 5))⟩,
 ⟨some 68, none, .prim (.load 4 true (.tmp 67))⟩,
 ⟨some 69, none, .call (.func 210) [(.tmp 68)]⟩,
 ⟨some 70, none, .prim (.fadr 1 (.tmp 5))⟩,
 ⟨none, none, .prim (.store 4 (.tmp 70) (.tmp 69))⟩])
 (.seq (.ops [⟨some 72, none, .prim (.bin false .eql (.tmp 10) (.const (.int .u8 92)))⟩,
 ⟨some 71, none, .prim (.mov (.tmp 72))⟩])
 (.cond (.tmp 71)
 (.ops [⟨some 73, none, .prim (.fadr 1 (.tmp 5))⟩,
 ⟨some 74, none, .prim (.mov (.tmp 0))⟩,
 ⟨some 75, none, .call (.func 212) [(.tmp 74)]⟩,
 ⟨some 76, none, .call (.func 211) [(.tmp 73), (.tmp 75)]⟩])
 (.seq (.ops [⟨some 11, none, .prim (.mov (.tmp 0))⟩,
 ⟨some 12, none, .prim (.mov (.tmp 0))⟩,
 ⟨some 13, none, .prim (.nilc (.tmp 12))⟩,
 ⟨some 14, none, .prim (.fadr 2 (.tmp 13))⟩,
 ⟨some 15, none, .prim (.load 1 false (.tmp 14))⟩,
 ⟨some 16, none, .prim (.mov (.tmp 15))⟩,
 ⟨some 17, (some (16, false)), .prim (.mov (.tmp 6))⟩,
 ⟨some 18, (some (16, false)), .call (.func 213) [(.const (.string (ByteArray.mk #[42, 43, 63, 93]))), (.tmp 17)]⟩,
 ⟨some 19, (some (16, false)), .prim (.bin false .geq (.tmp 18) (.const (.int .i64 0)))⟩,
 ⟨some 20, none, .prim (.pick (.tmp 16) (.const (.bool true)) (.tmp 19))⟩,
 ⟨some 21, none, .prim (.nilc (.tmp 11))⟩,
 ⟨some 22, none, .prim (.fadr 2 (.tmp 21))⟩,
 ⟨none, none, .prim (.store 1 (.tmp 22) (.tmp 20))⟩])
 (.ops [⟨some 23, none, .prim (.fadr 1 (.tmp 5))⟩,
 ⟨some 24, none, .prim (.mov (.tmp 6))⟩,
 ⟨some 25, none, .call (.func 211) [(.tmp 23), (.tmp 24)]⟩])))))))))))))
 (.seq (.ops [⟨some 77, none, .prim (.load 6 true (.tmp 5))⟩,
 ⟨none, none, .prim (.store 6 (.tmp 4) (.tmp 77))⟩])
 .ret))))
def o201 : List Tmp := [4, 5]
def r201 : List RV := [.cell 4 6 true]
theorem t201 : Text Tryz.prog 201 o201 c201 r201 78 := ⟨⟨Tryz.f201, _, by kernel_rfl, by kernel_rfl, rfl, by kernel_rfl, by kernel_rfl, rfl⟩, by kernel_rfl⟩
def c202 : ACode :=
 (.seq (.ops [⟨some 1, none, .prim (.boxr (.tmp 0))⟩,
 ⟨some 2, none, .prim (.mov (.const (.bool false)))⟩])
 (.seq (.ops [⟨some 4, none, .prim (.fadr 5 (.tmp 1))⟩,
 ⟨some 5, none, .prim (.load 1 false (.tmp 4))⟩,
 ⟨some 6, none, .prim (.lenv (.tmp 5))⟩,
 ⟨some 3, none, .prim (.mov (.tmp 6))⟩])
 (.seq (.seq (.ops [⟨some 7, none, .prim (.fadr 0 (.tmp 1))⟩,
 ⟨some 8, none, .prim (.load 1 false (.tmp 7))⟩])
 (.block 0 (.seq (.ops [⟨some 10, none, .prim (.bin false .eql (.tmp 8) (.const (.int .i64 1)))⟩,
 ⟨some 9, none, .prim (.mov (.tmp 10))⟩])
 (.cond (.tmp 9)
 (.seq (.ops [⟨some 11, none, .prim (.mov (.tmp 3))⟩,
 ⟨some 12, none, .prim (.bin false .eql (.tmp 11) (.const (.int .i64 0)))⟩,
 ⟨some 2, none, .prim (.mov (.tmp 12))⟩])
 .ret)
 (.seq (.ops [⟨some 14, none, .prim (.bin false .eql (.tmp 8) (.const (.int .i64 2)))⟩,
 ⟨some 13, none, .prim (.mov (.tmp 14))⟩])
 (.cond (.tmp 13)
 .skip
 (.seq (.ops [⟨some 16, none, .prim (.bin false .eql (.tmp 8) (.const (.int .i64 3)))⟩,
 ⟨some 15, none, .prim (.mov (.tmp 16))⟩])
 (.cond (.tmp 15)
 (.seq (.ops [⟨some 17, none, .prim (.mov (.tmp 3))⟩,
 ⟨some 18, none, .prim (.bin false .eql (.tmp 17) (.const (.int .i64 0)))⟩])
 (.cond (.tmp 18)
 (.seq (.ops [⟨some 2, none, .prim (.mov (.const (.bool false)))⟩])
 .ret)
 .skip))
 (.seq (.seq (.ops [⟨some 20, none, .prim (.bin false .eql (.tmp 8) (.const (.int .i64 4)))⟩,
 ⟨some 19, none, .prim (.mov (.tmp 20))⟩])
 (.cond (.tmp 19)
 .skip
 (.seq (.ops [⟨some 21, none, .prim (.bin false .eql (.tmp 8) (.const (.int .i64 5)))⟩,
 ⟨some 19, none, .prim (.mov (.tmp 21))⟩])
 (.cond (.tmp 19)
 .skip
 (.ops [⟨some 22, none, .prim (.bin false .eql (.tmp 8) (.const (.int .i64 6)))⟩,
 ⟨some 19, none, .prim (.mov (.tmp 22))⟩])))))
 (.cond (.tmp 19)
 (.seq (.ops [⟨some 23, none, .prim (.mov (.tmp 3))⟩,
 ⟨some 24, none, .prim (.bin false .neq (.tmp 23) (.const (.int .i64 1)))⟩])
 (.cond (.tmp 24)
 (.seq (.ops [⟨some 2, none, .prim (.mov (.const (.bool false)))⟩])
 .ret)
 .skip))
 (.seq (.ops [⟨some 2, none, .prim (.mov (.const (.bool false)))⟩])
 .ret)))))))))))
 (.seq (.ops [⟨some 25, none, .prim (.fadr 1 (.tmp 1))⟩,
 ⟨some 26, none, .prim (.load 4 true (.tmp 25))⟩,
 ⟨some 27, none, .prim (.build [.pl (.int .u64 0), .pl (.int .u64 0), .pl (.int .u64 0), .pl (.int .u64 0)] [])⟩,
 ⟨some 28, none, .prim (.eqa false [.int, .int, .int, .int] (.tmp 26) (.tmp 27))⟩,
 ⟨some 29, none, .prim (.mov (.tmp 28))⟩,
 ⟨some 30, (some (29, true)), .prim (.fadr 5 (.tmp 1))⟩,
 ⟨some 31, (some (29, true)), .prim (.load 1 false (.tmp 30))⟩,
 ⟨some 32, (some (29, true)), .call (.func 214) [(.tmp 31), (.func 215)]⟩,
 ⟨some 33, (some (29, true)), .prim (.un .not (.tmp 32))⟩,
 ⟨some 34, none, .prim (.pick (.tmp 29) (.tmp 33) (.const (.bool false)))⟩,
 ⟨some 2, none, .prim (.mov (.tmp 34))⟩])
 .ret))))
def o202 : List Tmp := []
def r202 : List RV := [.tmp 2]
theorem t202 : Text Tryz.prog 202 o202 c202 r202 35 := ⟨⟨Tryz.f202, _, by kernel_rfl, by kernel_rfl, rfl, by kernel_rfl, by kernel_rfl, rfl⟩, by kernel_rfl⟩
def c203 : ACode :=
 (.seq (.ops [⟨some 1, none, .prim (.boxr (.tmp 0))⟩,
 ⟨some 2, none, .prim (.mov (.const (.int .i64 0)))⟩])
 (.seq (.ops [⟨some 3, none, .prim (.mov (.const (.int .i64 0)))⟩])
 (.seq (.seq (.ops [⟨some 6, none, .prim (.fadr 5 (.tmp 1))⟩,
 ⟨some 7, none, .prim (.load 1 false (.tmp 6))⟩,
 ⟨some 8, none, .prim (.lenv (.tmp 7))⟩,
 ⟨some 9, none, .prim (.mov (.const (.int .i64 0)))⟩])
 (.block 0 (.loop [0, 2, 4, 5, 6, 10, 11, 12, 13, 14, 15, 16, 17, 18, 19, 20, 21, 22, 23, 24, 25, 26, 27, 28, 29, 30, 31, 32, 33, 34, 35, 36, 37, 38, 39, 40] (.seq (.ops [⟨some 10, none, .prim (.bin false .lss (.tmp 9) (.tmp 8))⟩])
 (.seq (.cond (.tmp 10)
 .skip
 (.exit 0))
 (.seq (.block 1 (.seq (.ops [⟨some 11, none, .prim (.iadrs 6 (.tmp 7) (.tmp 9))⟩,
 ⟨some 12, none, .prim (.load 6 true (.tmp 11))⟩,
 ⟨some 5, none, .fresh 6 5 (.tmp 12)⟩])
 (.ops [⟨some 13, none, .prim (.mov (.tmp 3))⟩,
 ⟨some 14, none, .prim (.load 6 true (.tmp 5))⟩,
 ⟨some 15, none, .call (.func 203) [(.tmp 14)]⟩,
 ⟨some 16, none, .prim (.bin false .add (.tmp 13) (.tmp 15))⟩,
 ⟨some 3, none, .prim (.mov (.tmp 16))⟩])))
 (.ops [⟨some 17, none, .prim (.bin false .add (.tmp 9) (.const (.int .i64 1)))⟩,
 ⟨some 9, none, .prim (.mov (.tmp 17))⟩])))))))
 (.seq (.seq (.ops [⟨some 18, none, .prim (.fadr 0 (.tmp 1))⟩,
 ⟨some 19, none, .prim (.load 1 false (.tmp 18))⟩])
 (.block 2 (.seq (.ops [⟨some 21, none, .prim (.bin false .eql (.tmp 19) (.const (.int .i64 1)))⟩,
 ⟨some 20, none, .prim (.mov (.tmp 21))⟩])
 (.cond (.tmp 20)
 (.seq (.ops [⟨some 2, none, .prim (.mov (.const (.int .i64 1)))⟩])
 .ret)
 (.seq (.ops [⟨some 23, none, .prim (.bin false .eql (.tmp 19) (.const (.int .i64 3)))⟩,
 ⟨some 22, none, .prim (.mov (.tmp 23))⟩])
 (.cond (.tmp 22)
 (.seq (.ops [⟨some 24, none, .prim (.mov (.tmp 3))⟩,
 ⟨some 25, none, .prim (.fadr 5 (.tmp 1))⟩,
 ⟨some 26, none, .prim (.load 1 false (.tmp 25))⟩,
 ⟨some 27, none, .prim (.lenv (.tmp 26))⟩,
 ⟨some 28, none, .prim (.bin false .sub (.tmp 27) (.const (.int .i64 1)))⟩,
 ⟨some 29, none, .prim (.bin false .mul (.const (.int .i64 2)) (.tmp 28))⟩,
 ⟨some 30, none, .prim (.bin false .add (.tmp 24) (.tmp 29))⟩,
 ⟨some 2, none, .prim (.mov (.tmp 30))⟩])
 .ret)
 (.seq (.ops [⟨some 32, none, .prim (.bin false .eql (.tmp 19) (.const (.int .i64 4)))⟩,
 ⟨some 31, none, .prim (.mov (.tmp 32))⟩])
 (.cond (.tmp 31)
 (.seq (.ops [⟨some 33, none, .prim (.mov (.tmp 3))⟩,
 ⟨some 34, none, .prim (.bin false .add (.tmp 33) (.const (.int .i64 2)))⟩,
 ⟨some 2, none, .prim (.mov (.tmp 34))⟩])
 .ret)
 (.seq (.seq (.ops [⟨some 36, none, .prim (.bin false .eql (.tmp 19) (.const (.int .i64 5)))⟩,
 ⟨some 35, none, .prim (.mov (.tmp 36))⟩])
 (.cond (.tmp 35)
 .skip
 (.ops [⟨some 37, none, .prim (.bin false .eql (.tmp 19) (.const (.int .i64 6)))⟩,
 ⟨some 35, none, .prim (.mov (.tmp 37))⟩])))
 (.cond (.tmp 35)
 (.seq (.ops [⟨some 38, none, .prim (.mov (.tmp 3))⟩,
 ⟨some 39, none, .prim (.bin false .add (.tmp 38) (.const (.int .i64 1)))⟩,
 ⟨some 2, none, .prim (.mov (.tmp 39))⟩])
 .ret)
 .skip))))))))))
 (.seq (.ops [⟨some 40, none, .prim (.mov (.tmp 3))⟩,
 ⟨some 2, none, .prim (.mov (.tmp 40))⟩])
 .ret)))))
def o203 : List Tmp := []
def r203 : List RV := [.tmp 2]
theorem t203 : Text Tryz.prog 203 o203 c203 r203 41 := ⟨⟨Tryz.f203, _, by kernel_rfl, by kernel_rfl, rfl, by kernel_rfl, by kernel_rfl, rfl⟩, by kernel_rfl⟩
def c204 : ACode :=
 (.seq (.ops [⟨some 4, none, .prim (.mov (.const (.slice none 0 0)))⟩])
 (.seq (.ops [⟨some 5, none, .prim (.mov (.const (.slice none 0 0)))⟩])
 (.seq (.ops [⟨some 12, none, .prim (.mov (.tmp 1))⟩,
 ⟨some 13, none, .prim (.lenv (.tmp 12))⟩,
 ⟨some 14, none, .prim (.bin false .sub (.tmp 13) (.const (.int .i64 1)))⟩,
 ⟨some 6, none, .prim (.mov (.tmp 14))⟩])
 (.seq (.seq (.ops [⟨some 15, none, .prim (.mov (.tmp 1))⟩,
 ⟨some 16, none, .prim (.mov (.tmp 6))⟩,
 ⟨some 17, none, .prim (.slcv 6 (.tmp 15) none (some (.tmp 16)))⟩,
 ⟨some 18, none, .prim (.lenv (.tmp 17))⟩,
 ⟨some 19, none, .prim (.mov (.const (.int .i64 0)))⟩])
 (.block 0 (.loop [2, 3, 4, 7, 8, 9, 10, 11, 12, 13, 14, 15, 16, 20, 21, 22, 23, 24, 25, 26, 27, 28, 29, 30, 31, 32, 33, 34, 35, 36, 37, 38, 39, 40, 41, 42, 43, 44, 45, 46, 47, 48, 49, 50, 51, 52, 53, 54, 55, 56, 57, 58, 59, 60, 61, 62, 63, 64, 65, 66, 67, 68] (.seq (.ops [⟨some 20, none, .prim (.bin false .lss (.tmp 19) (.tmp 18))⟩])
 (.seq (.cond (.tmp 20)
 .skip
 (.exit 0))
 (.seq (.block 1 (.seq (.ops [⟨some 21, none, .prim (.iadrs 6 (.tmp 17) (.tmp 19))⟩,
 ⟨some 22, none, .prim (.load 6 true (.tmp 21))⟩,
 ⟨some 8, none, .fresh 6 8 (.tmp 22)⟩])
 (.seq (.ops [⟨some 23, none, .prim (.mov (.tmp 0))⟩,
 ⟨some 24, none, .prim (.lenv (.tmp 23))⟩,
 ⟨some 9, none, .prim (.mov (.tmp 24))⟩])
 (.seq (.draw [⟨⟨some 25, none, .prim (.mov (.tmp 0))⟩, [], false, 0, 0⟩,
 ⟨⟨some 26, none, .prim (.mov (.tmp 9))⟩, [], false, 0, 0⟩,
 ⟨⟨some 27, none, .prim (.bin false .add (.tmp 26) (.const (.int .i64 1)))⟩, [1], false, 0, 0⟩,
 ⟨⟨some 28, none, .prim (.build [.pl (.int .i64 0), .pl (.int .u64 0), .pl (.int .u64 0), .pl (.int .u64 0), .pl (.int .u64 0), .pl (.int .i64 0), .pl (.int .i64 0)] [(0, 1, (.const (.int .i64 2))), (5, 1, (.tmp 27))])⟩, [1, 2], false, 0, 0⟩,
 ⟨⟨some 29, none, .prim (.bsl false 7 true 1 [.pl (.int .i64 0), .pl (.int .u64 0), .pl (.int .u64 0), .pl (.int .u64 0), .pl (.int .u64 0), .pl (.int .i64 0), .pl (.int .i64 0)] [(0, 7, (.tmp 28))])⟩, [1, 2, 3], false, 0, 0⟩,
 ⟨⟨some 30, none, .prim (.app 7 (.tmp 25) (.tmp 29))⟩, [0, 1, 2, 3, 4], true, 0, 0⟩,
 ⟨⟨some 31, none, .prim (.load 6 true (.tmp 8))⟩, [], false, 0, 1⟩,
 ⟨⟨some 32, none, .call (.func 195) [(.tmp 30), (.tmp 31)]⟩, (List.range 7), true, 0, 0⟩,
 ⟨⟨some 0, none, .prim (.mov (.tmp 32))⟩, (List.range 8), false, 2, 2⟩])
 (.seq (.ops [⟨some 33, none, .prim (.mov (.tmp 5))⟩,
 ⟨some 34, none, .prim (.mov (.tmp 0))⟩,
 ⟨some 35, none, .prim (.lenv (.tmp 34))⟩,
 ⟨some 36, none, .prim (.bsl false 1 false 1 [.pl (.int .i64 0)] [(0, 1, (.tmp 35))])⟩,
 ⟨some 37, none, .prim (.app 1 (.tmp 33) (.tmp 36))⟩,
 ⟨some 5, none, .prim (.mov (.tmp 37))⟩])
 (.seq (.ops [⟨some 38, none, .prim (.mov (.tmp 0))⟩,
 ⟨some 39, none, .prim (.build [.pl (.int .i64 0), .pl (.int .u64 0), .pl (.int .u64 0), .pl (.int .u64 0), .pl (.int .u64 0), .pl (.int .i64 0), .pl (.int .i64 0)] [(0, 1, (.const (.int .i64 3)))])⟩,
 ⟨some 40, none, .prim (.bsl false 7 true 1 [.pl (.int .i64 0), .pl (.int .u64 0), .pl (.int .u64 0), .pl (.int .u64 0), .pl (.int .u64 0), .pl (.int .i64 0), .pl (.int .i64 0)] [(0, 7, (.tmp 39))])⟩,
 ⟨some 41, none, .prim (.app 7 (.tmp 38) (.tmp 40))⟩,
 ⟨some 0, none, .prim (.mov (.tmp 41))⟩])
 (.ops [⟨some 42, none, .prim (.mov (.tmp 0))⟩,
 ⟨some 43, none, .prim (.mov (.tmp 9))⟩,
 ⟨some 44, none, .prim (.mov (.tmp 0))⟩,
 ⟨some 45, none, .prim (.lenv (.tmp 44))⟩,
 ⟨some 46, none, .prim (.iadrs 7 (.tmp 42) (.tmp 43))⟩,
 ⟨some 47, none, .prim (.fadr 6 (.tmp 46))⟩,
 ⟨none, none, .prim (.store 1 (.tmp 47) (.tmp 45))⟩])))))))
 (.ops [⟨some 48, none, .prim (.bin false .add (.tmp 19) (.const (.int .i64 1)))⟩,
 ⟨some 19, none, .prim (.mov (.tmp 48))⟩])))))))
 (.seq (.ops [⟨some 49, none, .prim (.mov (.tmp 0))⟩,
 ⟨some 50, none, .prim (.mov (.tmp 1))⟩,
 ⟨some 51, none, .prim (.mov (.tmp 6))⟩,
 ⟨some 52, none, .prim (.iadrs 6 (.tmp 50) (.tmp 51))⟩,
 ⟨some 53, none, .prim (.load 6 true (.tmp 52))⟩,
 ⟨some 54, none, .call (.func 195) [(.tmp 49), (.tmp 53)]⟩,
 ⟨some 0, none, .prim (.mov (.tmp 54))⟩])
 (.seq (.seq (.ops [⟨some 55, none, .prim (.mov (.tmp 5))⟩,
 ⟨some 56, none, .prim (.lenv (.tmp 55))⟩,
 ⟨some 57, none, .prim (.mov (.const (.int .i64 0)))⟩])
 (.block 2 (.loop [1, 2, 3, 4, 5, 6, 7, 8, 9, 10, 11, 12, 13, 14, 15, 16, 17, 18, 19, 20, 21, 22, 23, 24, 25, 26, 27, 28, 29, 30, 31, 32, 33, 34, 35, 36, 37, 38, 39, 40, 41, 42, 43, 44, 45, 46, 47, 48, 49, 50, 51, 52, 53, 54, 58, 59, 60, 61, 62, 63, 64, 65, 66, 67, 68] (.seq (.ops [⟨some 58, none, .prim (.bin false .lss (.tmp 57) (.tmp 56))⟩])
 (.seq (.cond (.tmp 58)
 .skip
 (.exit 2))
 (.seq (.block 3 (.seq (.ops [⟨some 59, none, .prim (.iadrs 1 (.tmp 55) (.tmp 57))⟩,
 ⟨some 60, none, .prim (.load 1 false (.tmp 59))⟩,
 ⟨some 11, none, .prim (.mov (.tmp 60))⟩])
 (.ops [⟨some 61, none, .prim (.mov (.tmp 0))⟩,
 ⟨some 62, none, .prim (.mov (.tmp 11))⟩,
 ⟨some 63, none, .prim (.mov (.tmp 0))⟩,
 ⟨some 64, none, .prim (.lenv (.tmp 63))⟩,
 ⟨some 65, none, .prim (.iadrs 7 (.tmp 61) (.tmp 62))⟩,
 ⟨some 66, none, .prim (.fadr 5 (.tmp 65))⟩,
 ⟨none, none, .prim (.store 1 (.tmp 66) (.tmp 64))⟩])))
 (.ops [⟨some 67, none, .prim (.bin false .add (.tmp 57) (.const (.int .i64 1)))⟩,
 ⟨some 57, none, .prim (.mov (.tmp 67))⟩])))))))
 (.seq (.ops [⟨some 68, none, .prim (.mov (.tmp 0))⟩,
 ⟨some 4, none, .prim (.mov (.tmp 68))⟩])
 .ret)))))))
def o204 : List Tmp := []
def r204 : List RV := [.tmp 4]
theorem t204 : Text Tryz.prog 204 o204 c204 r204 69 := ⟨⟨Tryz.f204, _, by kernel_rfl, by kernel_rfl, rfl, by kernel_rfl, by kernel_rfl, rfl⟩, by kernel_rfl⟩
def c205 : ACode :=
 (.seq (.ops [⟨some 4, none, .prim (.mov (.const (.int .i64 0)))⟩])
 (.seq (.seq (.ops [⟨some 6, none, .prim (.mov (.tmp 0))⟩,
 ⟨some 7, none, .prim (.lenv (.tmp 6))⟩,
 ⟨some 8, none, .prim (.mov (.const (.int .i64 0)))⟩])
 (.block 0 (.loop [2, 3, 4, 5, 6, 9, 10, 11, 12, 13, 14, 15, 16, 17, 18] (.seq (.ops [⟨some 9, none, .prim (.bin false .lss (.tmp 8) (.tmp 7))⟩])
 (.seq (.cond (.tmp 9)
 .skip
 (.exit 0))
 (.seq (.block 1 (.seq (.ops [⟨some 10, none, .prim (.mov (.tmp 8))⟩,
 ⟨some 5, none, .prim (.mov (.tmp 10))⟩])
 (.seq (.ops [⟨some 11, none, .prim (.mov (.tmp 1))⟩,
 ⟨some 12, none, .prim (.mov (.tmp 0))⟩,
 ⟨some 13, none, .prim (.mov (.tmp 5))⟩,
 ⟨some 14, none, .prim (.iadrs 7 (.tmp 12) (.tmp 13))⟩,
 ⟨some 15, none, .prim (.load 7 true (.tmp 14))⟩,
 ⟨some 16, none, .call (.tmp 11) [(.tmp 15)]⟩])
 (.cond (.tmp 16)
 (.seq (.ops [⟨some 17, none, .prim (.mov (.tmp 5))⟩,
 ⟨some 4, none, .prim (.mov (.tmp 17))⟩])
 .ret)
 .skip))))
 (.ops [⟨some 18, none, .prim (.bin false .add (.tmp 8) (.const (.int .i64 1)))⟩,
 ⟨some 8, none, .prim (.mov (.tmp 18))⟩])))))))
 (.seq (.ops [⟨some 4, none, .prim (.mov (.const (.int .i64 (-1))))⟩])
 .ret)))
def o205 : List Tmp := []
def r205 : List RV := [.tmp 4]
theorem t205 : Text Tryz.prog 205 o205 c205 r205 19 := ⟨⟨Tryz.f205, _, by kernel_rfl, by kernel_rfl, rfl, by kernel_rfl, by kernel_rfl, rfl⟩, by kernel_rfl⟩
def c206 : ACode :=
 (.seq (.ops [⟨some 3, none, .prim (.mov (.const (.bool false)))⟩])
 (.seq (.ops [⟨some 4, none, .prim (.mov (.tmp 0))⟩,
 ⟨some 5, none, .prim (.bin false .geq (.tmp 4) (.const (.int .i64 0)))⟩,
 ⟨some 6, none, .prim (.mov (.tmp 5))⟩,
 ⟨some 7, (some (6, true)), .prim (.mov (.tmp 0))⟩,
 ⟨some 8, (some (6, true)), .prim (.load 1 false (.tmp 1))⟩,
 ⟨some 9, (some (6, true)), .prim (.bin false .lss (.tmp 7) (.tmp 8))⟩,
 ⟨some 10, none, .prim (.pick (.tmp 6) (.tmp 9) (.const (.bool false)))⟩,
 ⟨some 3, none, .prim (.mov (.tmp 10))⟩])
 .ret))
def o206 : List Tmp := []
def r206 : List RV := [.tmp 3]
theorem t206 : Text Tryz.prog 206 o206 c206 r206 11 := ⟨⟨Tryz.f206, _, by kernel_rfl, by kernel_rfl, rfl, by kernel_rfl, by kernel_rfl, rfl⟩, by kernel_rfl⟩
def c208 : ACode :=
 (.seq (.ops [⟨some 2, none, .prim (.mov (.const (.int .u8 0)))⟩])
 (.seq (.seq (.ops [⟨some 3, none, .prim (.mov (.tmp 0))⟩,
 ⟨some 4, none, .call (.func 191) [(.tmp 3)]⟩])
 (.cond (.tmp 4)
 (.seq (.ops [⟨some 5, none, .prim (.mov (.tmp 0))⟩,
 ⟨some 6, none, .prim (.nilc (.tmp 5))⟩,
 ⟨some 7, none, .prim (.fadr 2 (.tmp 6))⟩,
 ⟨none, none, .prim (.store 1 (.tmp 7) (.const (.bool true)))⟩])
 (.seq (.ops [⟨some 2, none, .prim (.mov (.const (.int .u8 0)))⟩])
 .ret))
 .skip))
 (.seq (.ops [⟨some 8, none, .prim (.mov (.tmp 0))⟩,
 ⟨some 9, none, .prim (.nilc (.tmp 8))⟩,
 ⟨some 10, none, .prim (.fadr 1 (.tmp 9))⟩,
 ⟨some 11, none, .prim (.load 1 false (.tmp 10))⟩,
 ⟨some 12, none, .prim (.bin false .add (.tmp 11) (.const (.int .i64 1)))⟩,
 ⟨some 13, none, .prim (.nilc (.tmp 8))⟩,
 ⟨some 14, none, .prim (.fadr 1 (.tmp 13))⟩,
 ⟨none, none, .prim (.store 1 (.tmp 14) (.tmp 12))⟩])
 (.seq (.draw [⟨⟨some 15, none, .prim (.mov (.tmp 0))⟩, [], false, 0, 0⟩,
 ⟨⟨some 16, none, .prim (.nilc (.tmp 15))⟩, [0], false, 0, 0⟩,
 ⟨⟨some 17, none, .prim (.fadr 0 (.tmp 16))⟩, [0, 1], false, 0, 0⟩,
 ⟨⟨some 18, none, .prim (.load 1 false (.tmp 17))⟩, [0, 1, 2], false, 0, 0⟩,
 ⟨⟨some 19, none, .prim (.mov (.tmp 0))⟩, [], false, 0, 0⟩,
 ⟨⟨some 20, none, .prim (.nilc (.tmp 19))⟩, [4], false, 0, 0⟩,
 ⟨⟨some 21, none, .prim (.fadr 1 (.tmp 20))⟩, [4, 5], false, 0, 0⟩,
 ⟨⟨some 22, none, .prim (.load 1 false (.tmp 21))⟩, [4, 5, 6], false, 0, 0⟩,
 ⟨⟨some 23, none, .prim (.bin false .sub (.tmp 22) (.const (.int .i64 1)))⟩, [4, 5, 6, 7], false, 0, 0⟩,
 ⟨⟨some 24, none, .prim (.idxs (.tmp 18) (.tmp 23))⟩, (List.range 9), false, 0, 0⟩,
 ⟨⟨some 2, none, .prim (.mov (.tmp 24))⟩, (List.range 10), false, 0, 0⟩])
 .ret))))
def o208 : List Tmp := []
def r208 : List RV := [.tmp 2]
theorem t208 : Text Tryz.prog 208 o208 c208 r208 25 := ⟨⟨Tryz.f208, _, by kernel_rfl, by kernel_rfl, rfl, by kernel_rfl, by kernel_rfl, rfl⟩, by kernel_rfl⟩
def c209 : ACode :=
 (.seq (.ops [⟨some 2, none, .prim (.allocm [.pl (.int .u64 0), .pl (.int .u64 0), .pl (.int .u64 0), .pl (.int .u64 0)])⟩])
 (.seq (.ops [⟨some 3, none, .prim (.allocm [.pl (.int .u64 0), .pl (.int .u64 0), .pl (.int .u64 0), .pl (.int .u64 0)])⟩])
 (.seq (.ops [⟨some 9, none, .prim (.mov (.tmp 0))⟩,
 ⟨some 10, none, .call (.func 182) [(.tmp 9), (.const (.int .u8 94))]⟩,
 ⟨some 4, none, .prim (.mov (.tmp 10))⟩])
 (.seq (.seq (.ops [⟨some 5, none, .prim (.mov (.const (.bool true)))⟩])
 (.block 0 (.loop [1, 6, 7, 8, 9, 10, 11, 12, 13, 14, 15, 16, 17, 18, 19, 20, 21, 22, 23, 24, 25, 26, 27, 28, 29, 30, 31, 32, 33, 34, 35, 36, 37, 38, 39, 40, 41, 42, 43, 44, 45, 46, 47, 48, 49, 50, 51, 52, 53, 54, 55, 56, 57, 58, 59, 60, 61, 62, 63, 64, 65, 66, 67] (.seq (.seq (.ops [⟨some 11, none, .prim (.mov (.tmp 5))⟩,
 ⟨some 12, none, .prim (.mov (.tmp 11))⟩,
 ⟨some 13, (some (12, false)), .prim (.mov (.tmp 0))⟩,
 ⟨some 14, (some (12, false)), .call (.func 191) [(.tmp 13)]⟩,
 ⟨some 15, (some (12, false)), .prim (.un .not (.tmp 14))⟩,
 ⟨some 16, (some (12, false)), .prim (.mov (.tmp 15))⟩,
 ⟨some 17, (some (16, true)), .prim (.mov (.tmp 0))⟩,
 ⟨some 18, (some (16, true)), .call (.func 192) [(.tmp 17), (.const (.int .u8 93))]⟩,
 ⟨some 19, (some (16, true)), .prim (.un .not (.tmp 18))⟩,
 ⟨some 20, (some (12, false)), .prim (.pick (.tmp 16) (.tmp 19) (.const (.bool false)))⟩,
 ⟨some 21, none, .prim (.pick (.tmp 12) (.const (.bool true)) (.tmp 20))⟩])
 (.cond (.tmp 21)
 .skip
 (.exit 0)))
 (.seq (.block 1 (.seq (.ops [⟨some 22, none, .prim (.mov (.tmp 0))⟩,
 ⟨some 23, none, .call (.func 221) [(.tmp 22)]⟩,
 ⟨some 6, none, .prim (.mov (.tmp 23))⟩])
 (.seq (.ops [⟨some 24, none, .prim (.mov (.tmp 6))⟩,
 ⟨some 7, none, .prim (.mov (.tmp 24))⟩])
 (.seq (.seq (.ops [⟨some 25, none, .prim (.mov (.tmp 0))⟩,
 ⟨some 26, none, .call (.func 182) [(.tmp 25), (.const (.int .u8 45))]⟩])
 (.cond (.tmp 26)
 (.ops [⟨some 27, none, .prim (.mov (.tmp 0))⟩,
 ⟨some 28, none, .call (.func 221) [(.tmp 27)]⟩,
 ⟨some 7, none, .prim (.mov (.tmp 28))⟩])
 .skip))
 (.seq (.ops [⟨some 29, none, .prim (.mov (.tmp 0))⟩,
 ⟨some 30, none, .prim (.mov (.tmp 0))⟩,
 ⟨some 31, none, .prim (.nilc (.tmp 30))⟩,
 ⟨some 32, none, .prim (.fadr 2 (.tmp 31))⟩,
 ⟨some 33, none, .prim (.load 1 false (.tmp 32))⟩,
 ⟨some 34, none, .prim (.mov (.tmp 33))⟩,
 ⟨some 35, (some (34, false)), .prim (.mov (.tmp 7))⟩,
 ⟨some 36, (some (34, false)), .prim (.mov (.tmp 6))⟩,
 ⟨some 37, (some (34, false)), .prim (.bin false .lss (.tmp 35) (.tmp 36))⟩,
 ⟨some 38, none, .prim (.pick (.tmp 34) (.const (.bool true)) (.tmp 37))⟩,
 ⟨some 39, none, .prim (.nilc (.tmp 29))⟩,
 ⟨some 40, none, .prim (.fadr 2 (.tmp 39))⟩,
 ⟨none, none, .prim (.store 1 (.tmp 40) (.tmp 38))⟩])
 (.seq (.ops [⟨some 41, none, .prim (.mov (.tmp 6))⟩,
 ⟨some 42, none, .prim (.convi .i64 (.tmp 41))⟩,
 ⟨some 8, none, .prim (.mov (.tmp 42))⟩])
 (.block 2 (.loop [1, 5, 6, 9, 10, 11, 12, 13, 14, 15, 16, 17, 18, 19, 20, 21, 22, 23, 24, 25, 26, 27, 28, 29, 30, 31, 32, 33, 34, 35, 36, 37, 38, 39, 40, 41, 42, 43, 44, 45, 46, 47, 48, 49, 50, 51, 52, 53, 54, 55, 56, 57, 58, 59, 60, 61, 62, 63, 64, 65, 66, 67] (.seq (.seq (.ops [⟨some 43, none, .prim (.mov (.tmp 8))⟩,
 ⟨some 44, none, .prim (.mov (.tmp 7))⟩,
 ⟨some 45, none, .prim (.convi .i64 (.tmp 44))⟩,
 ⟨some 46, none, .prim (.bin false .leq (.tmp 43) (.tmp 45))⟩])
 (.cond (.tmp 46)
 .skip
 (.exit 2)))
 (.seq (.block 3 (.ops [⟨some 49, none, .prim (.mov (.tmp 8))⟩,
 ⟨some 50, none, .prim (.convi .u8 (.tmp 49))⟩,
 ⟨some 51, none, .call (.func 211) [(.tmp 3), (.tmp 50)]⟩]))
 (.ops [⟨some 47, none, .prim (.mov (.tmp 8))⟩,
 ⟨some 48, none, .prim (.bin false .add (.tmp 47) (.const (.int .i64 1)))⟩,
 ⟨some 8, none, .prim (.mov (.tmp 48))⟩])))))))))))
 (.ops [⟨some 5, none, .prim (.mov (.const (.bool false)))⟩]))))))
 (.seq (.ops [⟨some 52, none, .prim (.mov (.tmp 0))⟩,
 ⟨some 53, none, .prim (.mov (.tmp 0))⟩,
 ⟨some 54, none, .call (.func 182) [(.tmp 53), (.const (.int .u8 93))]⟩,
 ⟨some 55, none, .prim (.un .not (.tmp 54))⟩,
 ⟨some 56, none, .prim (.mov (.tmp 55))⟩,
 ⟨some 57, (some (56, false)), .prim (.mov (.tmp 0))⟩,
 ⟨some 58, (some (56, false)), .prim (.nilc (.tmp 57))⟩,
 ⟨some 59, (some (56, false)), .prim (.fadr 2 (.tmp 58))⟩,
 ⟨some 60, (some (56, false)), .prim (.load 1 false (.tmp 59))⟩,
 ⟨some 61, none, .prim (.pick (.tmp 56) (.const (.bool true)) (.tmp 60))⟩,
 ⟨some 62, none, .prim (.nilc (.tmp 52))⟩,
 ⟨some 63, none, .prim (.fadr 2 (.tmp 62))⟩,
 ⟨none, none, .prim (.store 1 (.tmp 63) (.tmp 61))⟩])
 (.seq (.seq (.ops [⟨some 64, none, .prim (.mov (.tmp 4))⟩])
 (.cond (.tmp 64)
 (.seq (.ops [⟨some 65, none, .prim (.load 4 true (.tmp 3))⟩,
 ⟨some 66, none, .call (.func 210) [(.tmp 65)]⟩,
 ⟨none, none, .prim (.store 4 (.tmp 2) (.tmp 66))⟩])
 .ret)
 .skip))
 (.seq (.ops [⟨some 67, none, .prim (.load 4 true (.tmp 3))⟩,
 ⟨none, none, .prim (.store 4 (.tmp 2) (.tmp 67))⟩])
 .ret)))))))
def o209 : List Tmp := [2, 3]
def r209 : List RV := [.cell 2 4 true]
theorem t209 : Text Tryz.prog 209 o209 c209 r209 68 := ⟨⟨Tryz.f209, _, by kernel_rfl, by kernel_rfl, rfl, by kernel_rfl, by kernel_rfl, rfl⟩, by kernel_rfl⟩
def c210 : ACode :=
 (.seq (.ops [⟨some 1, none, .prim (.boxm (.tmp 0))⟩,
 ⟨some 2, none, .prim (.allocm [.pl (.int .u64 0), .pl (.int .u64 0), .pl (.int .u64 0), .pl (.int .u64 0)])⟩])
 (.seq (.seq (.ops [⟨some 4, none, .prim (.mov (.const (.int .i64 0)))⟩])
 (.block 0 (.loop [0, 3, 5, 6, 7, 8, 9, 10, 11, 12, 13, 14] (.seq (.ops [⟨some 5, none, .prim (.bin false .lss (.tmp 4) (.const (.int .i64 4)))⟩])
 (.seq (.cond (.tmp 5)
 .skip
 (.exit 0))
 (.seq (.block 1 (.seq (.ops [⟨some 6, none, .prim (.mov (.tmp 4))⟩,
 ⟨some 3, none, .prim (.mov (.tmp 6))⟩])
 (.ops [⟨some 7, none, .prim (.mov (.tmp 3))⟩,
 ⟨some 8, none, .prim (.mov (.tmp 3))⟩,
 ⟨some 9, none, .prim (.iadra 1 4 (.tmp 1) (.tmp 8))⟩,
 ⟨some 10, none, .prim (.load 1 false (.tmp 9))⟩,
 ⟨some 11, none, .prim (.un .xor (.tmp 10))⟩,
 ⟨some 12, none, .prim (.iadra 1 4 (.tmp 1) (.tmp 7))⟩,
 ⟨none, none, .prim (.store 1 (.tmp 12) (.tmp 11))⟩])))
 (.ops [⟨some 13, none, .prim (.bin false .add (.tmp 4) (.const (.int .i64 1)))⟩,
 ⟨some 4, none, .prim (.mov (.tmp 13))⟩])))))))
 (.seq (.ops [⟨some 14, none, .prim (.load 4 true (.tmp 1))⟩,
 ⟨none, none, .prim (.store 4 (.tmp 2) (.tmp 14))⟩])
 .ret)))
def o210 : List Tmp := [1, 2]
def r210 : List RV := [.cell 2 4 true]
theorem t210 : Text Tryz.prog 210 o210 c210 r210 15 := ⟨⟨Tryz.f210, _, by kernel_rfl, by kernel_rfl, rfl, by kernel_rfl, by kernel_rfl, rfl⟩, by kernel_rfl⟩
def c211 : ACode :=
 (.draw [⟨⟨some 4, none, .prim (.mov (.tmp 0))⟩, [], false, 0, 0⟩,
 ⟨⟨some 5, none, .prim (.mov (.tmp 1))⟩, [], false, 0, 0⟩,
 ⟨⟨some 6, none, .prim (.bin false .quo (.tmp 5) (.const (.int .u8 64)))⟩, [1], false, 0, 0⟩,
 ⟨⟨some 7, none, .prim (.nilc (.tmp 4))⟩, [0], false, 0, 0⟩,
 ⟨⟨some 8, none, .prim (.iadra 1 4 (.tmp 7) (.tmp 6))⟩, [0, 1, 2, 3], false, 0, 0⟩,
 ⟨⟨some 9, none, .prim (.load 1 false (.tmp 8))⟩, [0, 1, 2, 3, 4], false, 0, 0⟩,
 ⟨⟨some 10, none, .prim (.mov (.tmp 1))⟩, [], false, 0, 0⟩,
 ⟨⟨some 11, none, .prim (.bin false .rem (.tmp 10) (.const (.int .u8 64)))⟩, [6], false, 0, 0⟩,
 ⟨⟨some 12, none, .prim (.bin false .shl (.const (.int .u64 1)) (.tmp 11))⟩, [6, 7], false, 0, 0⟩,
 ⟨⟨some 13, none, .prim (.bin false .or (.tmp 9) (.tmp 12))⟩, (List.range 9), false, 0, 0⟩,
 ⟨⟨some 14, none, .prim (.nilc (.tmp 4))⟩, [0], false, 0, 0⟩,
 ⟨⟨some 15, none, .prim (.iadra 1 4 (.tmp 14) (.tmp 6))⟩, (List.range 11), false, 0, 0⟩,
 ⟨⟨none, none, .prim (.store 1 (.tmp 15) (.tmp 13))⟩, (List.range 12), true, 0, 0⟩])
def o211 : List Tmp := []
def r211 : List RV := []
theorem t211 : Text Tryz.prog 211 o211 c211 r211 16 := ⟨⟨Tryz.f211, _, by kernel_rfl, by kernel_rfl, rfl, by kernel_rfl, by kernel_rfl, rfl⟩, by kernel_rfl⟩
def c212 : ACode :=
 (.seq (.ops [⟨some 2, none, .prim (.mov (.const (.int .u8 0)))⟩])
 (.seq (.ops [⟨some 4, none, .prim (.mov (.tmp 0))⟩,
 ⟨some 5, none, .call (.func 208) [(.tmp 4)]⟩,
 ⟨some 3, none, .prim (.mov (.tmp 5))⟩])
 (.seq (.ops [⟨some 6, none, .prim (.mov (.tmp 0))⟩,
 ⟨some 7, none, .prim (.mov (.tmp 0))⟩,
 ⟨some 8, none, .prim (.nilc (.tmp 7))⟩,
 ⟨some 9, none, .prim (.fadr 2 (.tmp 8))⟩,
 ⟨some 10, none, .prim (.load 1 false (.tmp 9))⟩,
 ⟨some 11, none, .prim (.mov (.tmp 10))⟩,
 ⟨some 12, (some (11, false)), .prim (.mov (.tmp 3))⟩,
 ⟨some 13, (some (11, false)), .call (.func 213) [(.const (.string (ByteArray.mk #[124, 42, 43, 63, 40, 41, 91, 93, 46, 92, 94, 45]))), (.tmp 12)]⟩,
 ⟨some 14, (some (11, false)), .prim (.bin false .lss (.tmp 13) (.const (.int .i64 0)))⟩,
 ⟨some 15, none, .prim (.pick (.tmp 11) (.const (.bool true)) (.tmp 14))⟩,
 ⟨some 16, none, .prim (.nilc (.tmp 6))⟩,
 ⟨some 17, none, .prim (.fadr 2 (.tmp 16))⟩,
 ⟨none, none, .prim (.store 1 (.tmp 17) (.tmp 15))⟩])
 (.seq (.ops [⟨some 18, none, .prim (.mov (.tmp 3))⟩,
 ⟨some 2, none, .prim (.mov (.tmp 18))⟩])
 .ret))))
def o212 : List Tmp := []
def r212 : List RV := [.tmp 2]
theorem t212 : Text Tryz.prog 212 o212 c212 r212 19 := ⟨⟨Tryz.f212, _, by kernel_rfl, by kernel_rfl, rfl, by kernel_rfl, by kernel_rfl, rfl⟩, by kernel_rfl⟩
def c213 : ACode :=
 (.seq (.ops [⟨some 4, none, .prim (.mov (.const (.int .i64 0)))⟩])
 (.seq (.ops [⟨some 5, none, .prim (.mov (.tmp 0))⟩,
 ⟨some 6, none, .prim (.mov (.tmp 1))⟩,
 ⟨some 7, none, .call (.func 222) [(.tmp 5), (.tmp 6)]⟩,
 ⟨some 4, none, .prim (.mov (.tmp 7))⟩])
 .ret))
def o213 : List Tmp := []
def r213 : List RV := [.tmp 4]
theorem t213 : Text Tryz.prog 213 o213 c213 r213 8 := ⟨⟨Tryz.f213, _, by kernel_rfl, by kernel_rfl, rfl, by kernel_rfl, by kernel_rfl, rfl⟩, by kernel_rfl⟩
def c214 : ACode :=
 (.seq (.ops [⟨some 4, none, .prim (.mov (.const (.bool false)))⟩])
 (.seq (.ops [⟨some 5, none, .prim (.mov (.tmp 0))⟩,
 ⟨some 6, none, .prim (.mov (.tmp 1))⟩,
 ⟨some 7, none, .call (.func 223) [(.tmp 5), (.tmp 6)]⟩,
 ⟨some 8, none, .prim (.bin false .geq (.tmp 7) (.const (.int .i64 0)))⟩,
 ⟨some 4, none, .prim (.mov (.tmp 8))⟩])
 .ret))
def o214 : List Tmp := []
def r214 : List RV := [.tmp 4]
theorem t214 : Text Tryz.prog 214 o214 c214 r214 9 := ⟨⟨Tryz.f214, _, by kernel_rfl, by kernel_rfl, rfl, by kernel_rfl, by kernel_rfl, rfl⟩, by kernel_rfl⟩
def c215 : ACode :=
 (.seq (.ops [⟨some 1, none, .prim (.boxr (.tmp 0))⟩,
 ⟨some 2, none, .prim (.mov (.const (.bool false)))⟩])
 (.seq (.ops [⟨some 3, none, .prim (.load 6 true (.tmp 1))⟩,
 ⟨some 4, none, .call (.func 202) [(.tmp 3)]⟩,
 ⟨some 5, none, .prim (.un .not (.tmp 4))⟩,
 ⟨some 2, none, .prim (.mov (.tmp 5))⟩])
 .ret))
def o215 : List Tmp := []
def r215 : List RV := [.tmp 2]
theorem t215 : Text Tryz.prog 215 o215 c215 r215 6 := ⟨⟨Tryz.f215, _, by kernel_rfl, by kernel_rfl, rfl, by kernel_rfl, by kernel_rfl, rfl⟩, by kernel_rfl⟩
def c221 : ACode :=
 (.seq (.ops [⟨some 2, none, .prim (.mov (.const (.int .u8 0)))⟩])
 (.seq (.ops [⟨some 4, none, .prim (.mov (.tmp 0))⟩,
 ⟨some 5, none, .call (.func 208) [(.tmp 4)]⟩,
 ⟨some 3, none, .prim (.mov (.tmp 5))⟩])
 (.seq (.seq (.ops [⟨some 6, none, .prim (.mov (.tmp 3))⟩,
 ⟨some 7, none, .prim (.bin false .eql (.tmp 6) (.const (.int .u8 92)))⟩])
 (.cond (.tmp 7)
 (.seq (.ops [⟨some 8, none, .prim (.mov (.tmp 0))⟩,
 ⟨some 9, none, .call (.func 212) [(.tmp 8)]⟩,
 ⟨some 2, none, .prim (.mov (.tmp 9))⟩])
 .ret)
 .skip))
 (.seq (.ops [⟨some 10, none, .prim (.mov (.tmp 0))⟩,
 ⟨some 11, none, .prim (.mov (.tmp 0))⟩,
 ⟨some 12, none, .prim (.nilc (.tmp 11))⟩,
 ⟨some 13, none, .prim (.fadr 2 (.tmp 12))⟩,
 ⟨some 14, none, .prim (.load 1 false (.tmp 13))⟩,
 ⟨some 15, none, .prim (.mov (.tmp 14))⟩,
 ⟨some 16, (some (15, false)), .prim (.mov (.tmp 3))⟩,
 ⟨some 17, (some (15, false)), .call (.func 213) [(.const (.string (ByteArray.mk #[92, 93, 91, 94, 45]))), (.tmp 16)]⟩,
 ⟨some 18, (some (15, false)), .prim (.bin false .geq (.tmp 17) (.const (.int .i64 0)))⟩,
 ⟨some 19, none, .prim (.pick (.tmp 15) (.const (.bool true)) (.tmp 18))⟩,
 ⟨some 20, none, .prim (.nilc (.tmp 10))⟩,
 ⟨some 21, none, .prim (.fadr 2 (.tmp 20))⟩,
 ⟨none, none, .prim (.store 1 (.tmp 21) (.tmp 19))⟩])
 (.seq (.ops [⟨some 22, none, .prim (.mov (.tmp 3))⟩,
 ⟨some 2, none, .prim (.mov (.tmp 22))⟩])
 .ret)))))
def o221 : List Tmp := []
def r221 : List RV := [.tmp 2]
theorem t221 : Text Tryz.prog 221 o221 c221 r221 23 := ⟨⟨Tryz.f221, _, by kernel_rfl, by kernel_rfl, rfl, by kernel_rfl, by kernel_rfl, rfl⟩, by kernel_rfl⟩
def c222 : ACode :=
 (.seq (.ops [⟨some 4, none, .prim (.mov (.const (.int .i64 0)))⟩])
 (.seq (.ops [⟨some 5, none, .prim (.mov (.tmp 0))⟩,
 ⟨some 6, none, .prim (.mov (.tmp 1))⟩,
 ⟨some 7, none, .call (.func 225) [(.tmp 5), (.tmp 6)]⟩,
 ⟨some 4, none, .prim (.mov (.tmp 7))⟩])
 .ret))
def o222 : List Tmp := []
def r222 : List RV := [.tmp 4]
theorem t222 : Text Tryz.prog 222 o222 c222 r222 8 := ⟨⟨Tryz.f222, _, by kernel_rfl, by kernel_rfl, rfl, by kernel_rfl, by kernel_rfl, rfl⟩, by kernel_rfl⟩
def c223 : ACode :=
 (.seq (.ops [⟨some 4, none, .prim (.mov (.const (.int .i64 0)))⟩])
 (.seq (.seq (.ops [⟨some 6, none, .prim (.mov (.tmp 0))⟩,
 ⟨some 7, none, .prim (.lenv (.tmp 6))⟩,
 ⟨some 8, none, .prim (.mov (.const (.int .i64 0)))⟩])
 (.block 0 (.loop [2, 3, 4, 5, 6, 9, 10, 11, 12, 13, 14, 15, 16, 17, 18] (.seq (.ops [⟨some 9, none, .prim (.bin false .lss (.tmp 8) (.tmp 7))⟩])
 (.seq (.cond (.tmp 9)
 .skip
 (.exit 0))
 (.seq (.block 1 (.seq (.ops [⟨some 10, none, .prim (.mov (.tmp 8))⟩,
 ⟨some 5, none, .prim (.mov (.tmp 10))⟩])
 (.seq (.ops [⟨some 11, none, .prim (.mov (.tmp 1))⟩,
 ⟨some 12, none, .prim (.mov (.tmp 0))⟩,
 ⟨some 13, none, .prim (.mov (.tmp 5))⟩,
 ⟨some 14, none, .prim (.iadrs 6 (.tmp 12) (.tmp 13))⟩,
 ⟨some 15, none, .prim (.load 6 true (.tmp 14))⟩,
 ⟨some 16, none, .call (.tmp 11) [(.tmp 15)]⟩])
 (.cond (.tmp 16)
 (.seq (.ops [⟨some 17, none, .prim (.mov (.tmp 5))⟩,
 ⟨some 4, none, .prim (.mov (.tmp 17))⟩])
 .ret)
 .skip))))
 (.ops [⟨some 18, none, .prim (.bin false .add (.tmp 8) (.const (.int .i64 1)))⟩,
 ⟨some 8, none, .prim (.mov (.tmp 18))⟩])))))))
 (.seq (.ops [⟨some 4, none, .prim (.mov (.const (.int .i64 (-1))))⟩])
 .ret)))
def o223 : List Tmp := []
def r223 : List RV := [.tmp 4]
theorem t223 : Text Tryz.prog 223 o223 c223 r223 19 := ⟨⟨Tryz.f223, _, by kernel_rfl, by kernel_rfl, rfl, by kernel_rfl, by kernel_rfl, rfl⟩, by kernel_rfl⟩
end Go.Proofs.YtmkmhhjkdaklbaaGreat
