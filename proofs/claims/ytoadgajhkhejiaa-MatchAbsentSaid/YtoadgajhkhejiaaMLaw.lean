/- What the functions do, over abstract values: printed by a program, checked by the kernel. No condition. -/
import Derived.Test.YtoadgajhkhejiaaProg
import Derived.Test.YtoadgajhkhejiaaAbSpec
namespace Go.Proofs.Ytoadgajhkhejiaa
open Go Go.Ab
set_option maxRecDepth 100000

/-- sordine/sordinelaw8.MatchAbsent -/
def c3 : ACode :=
  (.seq (.ops [⟨some 2, none, .prim (.boxr (.tmp 0))⟩,
      ⟨some 4, none, .prim (.mov (.const (Go.Value.bool Bool.false)))⟩])
    (.seq (.seq (.ops [⟨some 10, none, .prim (.load 3 true (.tmp 2))⟩,
      ⟨some 11, none, .prim (.bsl false 3 true 1 [.pl (.int .i64 0), .pl (.string .empty), .pl (.string .empty)] [(0, 3, (.tmp 10))])⟩,
      ⟨some 12, none, .prim (.mov (.tmp 1))⟩,
      ⟨some 13, none, .call (.func 13) [(.tmp 11), (.tmp 12)]⟩,
      ⟨some 14, none, .prim (.un .not (.tmp 13))⟩])
    (.cond (.tmp 14)
    (.seq (.ops [⟨some 15, none, .call (.func 14) []⟩,
      ⟨some 4, none, .prim (.mov (.tmp 15))⟩])
    .ret)
    .skip))
    (.seq (.after (.after (.ops [⟨some 5, none, .prim (.mov (.const (Go.Value.slice Option.none 0 0)))⟩,
      ⟨some 6, none, .prim (.mov (.const (Go.Value.slice Option.none 0 0)))⟩]) (.own 5 2)) (.own 6 2))
    (.seq (.seq (.ops [⟨some 7, none, .prim (.mov (.const (Go.Value.int Go.IntKind.i64 0)))⟩])
    (.block 0 (.loop [0, 3, 4, 8, 9, 10, 11, 12, 13, 14, 15, 16, 17, 18, 19, 20, 21, 22, 23, 24, 25, 26, 27, 28, 29, 30, 31, 32, 33, 34, 35, 36, 37, 38, 39, 40, 41, 42, 43, 44, 45, 46, 47, 48, 49, 50, 51, 52, 53, 54, 55, 56, 57, 58, 59, 60, 61, 62, 63, 64, 65, 66, 67, 68, 69, 70, 71, 72, 73, 74, 75, 76, 77, 78, 79, 80, 81, 82, 83, 84, 85, 86, 87, 88, 89, 90, 91, 92, 93, 94, 95, 96, 97, 98] (.seq (.seq (.ops [⟨some 16, none, .prim (.mov (.tmp 7))⟩,
      ⟨some 17, none, .prim (.mov (.tmp 1))⟩,
      ⟨some 18, none, .prim (.lenv (.tmp 17))⟩,
      ⟨some 19, none, .prim (.bin false .lss (.tmp 16) (.tmp 18))⟩])
    (.cond (.tmp 19)
    .skip
    (.exit 0)))
    (.seq (.block 1 (.seq (.seq (.ops [⟨some 22, none, .prim (.mov (.tmp 1))⟩,
      ⟨some 23, none, .prim (.mov (.tmp 7))⟩,
      ⟨some 24, none, .prim (.iadrs 2 (.tmp 22) (.tmp 23))⟩,
      ⟨some 25, none, .prim (.fadr 1 (.tmp 24))⟩,
      ⟨some 26, none, .prim (.load 1 false (.tmp 25))⟩,
      ⟨some 27, none, .prim (.lens (.tmp 26))⟩,
      ⟨some 28, none, .prim (.bin false .gtr (.tmp 27) (.const (Go.Value.int Go.IntKind.i64 30)))⟩])
    (.cond (.tmp 28)
    (.seq (.ops [⟨some 29, none, .call (.func 14) []⟩,
      ⟨some 4, none, .prim (.mov (.tmp 29))⟩])
    .ret)
    .skip))
    (.seq (.draw [⟨⟨some 30, none, .prim (.mov (.tmp 1))⟩, [], false, 0, 0⟩,
      ⟨⟨some 31, none, .prim (.mov (.tmp 7))⟩, [], false, 0, 0⟩,
      ⟨⟨some 32, none, .prim (.iadrs 2 (.tmp 30) (.tmp 31))⟩, [0, 1], false, 0, 0⟩,
      ⟨⟨some 33, none, .prim (.fadr 0 (.tmp 32))⟩, [0, 1, 2], false, 0, 0⟩,
      ⟨⟨some 34, none, .prim (.load 1 false (.tmp 33))⟩, [0, 1, 2, 3], false, 0, 0⟩,
      ⟨⟨some 35, none, .prim (.fadr 1 (.tmp 2))⟩, [], false, 0, 0⟩,
      ⟨⟨some 36, none, .prim (.load 1 false (.tmp 35))⟩, [5], false, 0, 0⟩,
      ⟨⟨some 37, none, .prim (.bin false .eql (.tmp 34) (.tmp 36))⟩, [0, 1, 2, 3, 4, 5, 6], false, 0, 0⟩])
    (.cond (.tmp 37)
    (.after (.after (.ops [⟨some 38, none, .prim (.mov (.tmp 6))⟩,
      ⟨some 39, none, .prim (.mov (.tmp 1))⟩,
      ⟨some 40, none, .prim (.mov (.tmp 7))⟩,
      ⟨some 41, none, .prim (.iadrs 2 (.tmp 39) (.tmp 40))⟩,
      ⟨some 42, none, .prim (.load 2 true (.tmp 41))⟩,
      ⟨some 43, none, .prim (.bsl false 2 true 1 [.pl (.string .empty), .pl (.string .empty)] [(0, 2, (.tmp 42))])⟩,
      ⟨some 44, none, .prim (.app 2 (.tmp 38) (.tmp 43))⟩,
      ⟨some 6, none, .prim (.mov (.tmp 44))⟩]) (.clear [38, 43, 44])) (.keep 2))
    (.after (.after (.ops [⟨some 45, none, .prim (.mov (.tmp 5))⟩,
      ⟨some 46, none, .prim (.mov (.tmp 1))⟩,
      ⟨some 47, none, .prim (.mov (.tmp 7))⟩,
      ⟨some 48, none, .prim (.iadrs 2 (.tmp 46) (.tmp 47))⟩,
      ⟨some 49, none, .prim (.load 2 true (.tmp 48))⟩,
      ⟨some 50, none, .prim (.bsl false 2 true 1 [.pl (.string .empty), .pl (.string .empty)] [(0, 2, (.tmp 49))])⟩,
      ⟨some 51, none, .prim (.app 2 (.tmp 45) (.tmp 50))⟩,
      ⟨some 5, none, .prim (.mov (.tmp 51))⟩]) (.clear [45, 50, 51])) (.keep 2))))))
    (.ops [⟨some 20, none, .prim (.mov (.tmp 7))⟩,
      ⟨some 21, none, .prim (.bin false .add (.tmp 20) (.const (Go.Value.int Go.IntKind.i64 1)))⟩,
      ⟨some 7, none, .prim (.mov (.tmp 21))⟩]))))))
    (.seq (.after (.after (.after (.ghost (.shut 5) (.ghost (.shut 6) (.ghost (.keep 0) (.draw [⟨⟨some 52, none, .prim (.mov (.tmp 5))⟩, [], false, 0, 0⟩,
      ⟨⟨some 53, none, .prim (.app 2 (.const (Go.Value.slice Option.none 0 0)) (.tmp 52))⟩, [0], true, 0, 0⟩,
      ⟨⟨some 54, none, .prim (.fadr 1 (.tmp 2))⟩, [], false, 0, 1⟩,
      ⟨⟨some 55, none, .prim (.load 1 false (.tmp 54))⟩, [2], false, 0, 1⟩,
      ⟨⟨some 56, none, .prim (.build [.pl (.string .empty), .pl (.string .empty)] [(0, 1, (.tmp 55))])⟩, [2, 3], false, 0, 1⟩,
      ⟨⟨some 57, none, .prim (.bsl false 2 true 1 [.pl (.string .empty), .pl (.string .empty)] [(0, 2, (.tmp 56))])⟩, [2, 3, 4], false, 0, 1⟩,
      ⟨⟨some 58, none, .prim (.app 2 (.tmp 53) (.tmp 57))⟩, [0, 1, 2, 3, 4, 5], true, 0, 0⟩,
      ⟨⟨some 8, none, .prim (.mov (.tmp 58))⟩, [0, 1, 2, 3, 4, 5, 6], false, 2, 2⟩])))) (.shut 8)) (.clear [53, 57, 58])) (.keep 0))
    (.seq (.after (.after (.after (.draw [⟨⟨some 59, none, .prim (.mov (.tmp 6))⟩, [], false, 0, 0⟩,
      ⟨⟨some 60, none, .prim (.app 2 (.const (Go.Value.slice Option.none 0 0)) (.tmp 59))⟩, [0], true, 0, 0⟩,
      ⟨⟨some 61, none, .prim (.fadr 1 (.tmp 2))⟩, [], false, 0, 1⟩,
      ⟨⟨some 62, none, .prim (.load 1 false (.tmp 61))⟩, [2], false, 0, 1⟩,
      ⟨⟨some 63, none, .prim (.build [.pl (.string .empty), .pl (.string .empty)] [(0, 1, (.tmp 62)), (1, 1, (.const (Go.Value.string (ByteArray.mk #[122, 122]))))])⟩, [2, 3], false, 0, 1⟩,
      ⟨⟨some 64, none, .prim (.bsl false 2 true 1 [.pl (.string .empty), .pl (.string .empty)] [(0, 2, (.tmp 63))])⟩, [2, 3, 4], false, 0, 1⟩,
      ⟨⟨some 65, none, .prim (.app 2 (.tmp 60) (.tmp 64))⟩, [0, 1, 2, 3, 4, 5], true, 0, 0⟩,
      ⟨⟨some 9, none, .prim (.mov (.tmp 65))⟩, [0, 1, 2, 3, 4, 5, 6], false, 2, 2⟩]) (.shut 9)) (.clear [60, 64, 65])) (.keep 0))
    (.seq (.draw [⟨⟨some 66, none, .prim (.load 3 true (.tmp 2))⟩, [], false, 0, 0⟩,
      ⟨⟨some 67, none, .prim (.mov (.tmp 5))⟩, [], false, 0, 0⟩,
      ⟨⟨some 68, none, .call (.func 15) [(.tmp 66), (.tmp 67)]⟩, [0, 1], true, 0, 0⟩,
      ⟨⟨some 69, none, .prim (.load 3 true (.tmp 2))⟩, [], false, 0, 1⟩,
      ⟨⟨some 70, none, .prim (.mov (.tmp 8))⟩, [], false, 0, 1⟩,
      ⟨⟨some 71, none, .call (.func 15) [(.tmp 69), (.tmp 70)]⟩, [0, 1, 2, 3, 4], true, 0, 0⟩,
      ⟨⟨some 72, none, .prim (.bin true .eql (.tmp 68) (.tmp 71))⟩, [0, 1, 2, 3, 4, 5], false, 2, 2⟩,
      ⟨⟨some 73, none, .prim (.mov (.tmp 72))⟩, [0, 1, 2, 3, 4, 5, 6], false, 2, 2⟩,
      ⟨⟨some 74, (some (73, true)), .prim (.load 3 true (.tmp 2))⟩, [0, 1, 2, 3, 4, 5, 6, 7], false, 2, 2⟩,
      ⟨⟨some 75, (some (73, true)), .prim (.mov (.tmp 6))⟩, [0, 1, 2, 3, 4, 5, 6, 7], false, 2, 2⟩,
      ⟨⟨some 76, (some (73, true)), .call (.func 15) [(.tmp 74), (.tmp 75)]⟩, [0, 1, 2, 3, 4, 5, 6, 7, 8, 9], true, 0, 0⟩,
      ⟨⟨some 77, (some (73, true)), .prim (.load 3 true (.tmp 2))⟩, [0, 1, 2, 3, 4, 5, 6, 7], false, 2, 3⟩,
      ⟨⟨some 78, (some (73, true)), .prim (.mov (.tmp 1))⟩, [0, 1, 2, 3, 4, 5, 6, 7], false, 2, 3⟩,
      ⟨⟨some 79, (some (73, true)), .call (.func 15) [(.tmp 77), (.tmp 78)]⟩, [0, 1, 2, 3, 4, 5, 6, 7, 8, 9, 10, 11, 12], true, 0, 0⟩,
      ⟨⟨some 80, (some (73, true)), .prim (.bin true .eql (.tmp 76) (.tmp 79))⟩, [0, 1, 2, 3, 4, 5, 6, 7, 8, 9, 10, 11, 12, 13], false, 4, 4⟩,
      ⟨⟨some 81, none, .prim (.pick (.tmp 73) (.tmp 80) (.const (Go.Value.bool Bool.false)))⟩, [0, 1, 2, 3, 4, 5, 6, 7, 8, 9, 10, 11, 12, 13, 14], false, 4, 4⟩,
      ⟨⟨some 82, none, .prim (.mov (.tmp 81))⟩, [0, 1, 2, 3, 4, 5, 6, 7, 8, 9, 10, 11, 12, 13, 14, 15], false, 4, 4⟩,
      ⟨⟨some 83, (some (82, true)), .prim (.mov (.tmp 6))⟩, [0, 1, 2, 3, 4, 5, 6, 7, 8, 9, 10, 11, 12, 13, 14, 15, 16], false, 4, 4⟩,
      ⟨⟨some 84, (some (82, true)), .prim (.lenv (.tmp 83))⟩, [0, 1, 2, 3, 4, 5, 6, 7, 8, 9, 10, 11, 12, 13, 14, 15, 16, 17], false, 4, 4⟩,
      ⟨⟨some 85, (some (82, true)), .prim (.bin false .eql (.tmp 84) (.const (Go.Value.int Go.IntKind.i64 0)))⟩, [0, 1, 2, 3, 4, 5, 6, 7, 8, 9, 10, 11, 12, 13, 14, 15, 16, 17, 18], false, 4, 4⟩,
      ⟨⟨some 86, (some (82, true)), .prim (.mov (.tmp 85))⟩, [0, 1, 2, 3, 4, 5, 6, 7, 8, 9, 10, 11, 12, 13, 14, 15, 16, 17, 18, 19], false, 4, 4⟩,
      ⟨⟨some 87, (some (86, false)), .prim (.load 3 true (.tmp 2))⟩, [0, 1, 2, 3, 4, 5, 6, 7, 8, 9, 10, 11, 12, 13, 14, 15, 16, 17, 18, 19, 20], false, 4, 4⟩,
      ⟨⟨some 88, (some (86, false)), .prim (.mov (.tmp 9))⟩, [0, 1, 2, 3, 4, 5, 6, 7, 8, 9, 10, 11, 12, 13, 14, 15, 16, 17, 18, 19, 20], false, 4, 4⟩,
      ⟨⟨some 89, (some (86, false)), .call (.func 15) [(.tmp 87), (.tmp 88)]⟩, [0, 1, 2, 3, 4, 5, 6, 7, 8, 9, 10, 11, 12, 13, 14, 15, 16, 17, 18, 19, 20, 21, 22], true, 0, 0⟩,
      ⟨⟨some 90, (some (86, false)), .prim (.load 3 true (.tmp 2))⟩, [0, 1, 2, 3, 4, 5, 6, 7, 8, 9, 10, 11, 12, 13, 14, 15, 16, 17, 18, 19, 20], false, 4, 5⟩,
      ⟨⟨some 91, (some (86, false)), .prim (.mov (.tmp 1))⟩, [0, 1, 2, 3, 4, 5, 6, 7, 8, 9, 10, 11, 12, 13, 14, 15, 16, 17, 18, 19, 20], false, 4, 5⟩,
      ⟨⟨some 92, (some (86, false)), .call (.func 15) [(.tmp 90), (.tmp 91)]⟩, [0, 1, 2, 3, 4, 5, 6, 7, 8, 9, 10, 11, 12, 13, 14, 15, 16, 17, 18, 19, 20, 21, 22, 23, 24, 25], true, 0, 0⟩,
      ⟨⟨some 93, (some (86, false)), .prim (.bin true .eql (.tmp 89) (.tmp 92))⟩, [0, 1, 2, 3, 4, 5, 6, 7, 8, 9, 10, 11, 12, 13, 14, 15, 16, 17, 18, 19, 20, 21, 22, 23, 24, 25, 26], false, 6, 6⟩,
      ⟨⟨some 94, (some (82, true)), .prim (.pick (.tmp 86) (.const (Go.Value.bool Bool.true)) (.tmp 93))⟩, [0, 1, 2, 3, 4, 5, 6, 7, 8, 9, 10, 11, 12, 13, 14, 15, 16, 17, 18, 19, 20, 21, 22, 23, 24, 25, 26, 27], false, 6, 6⟩,
      ⟨⟨some 95, none, .prim (.pick (.tmp 82) (.tmp 94) (.const (Go.Value.bool Bool.false)))⟩, [0, 1, 2, 3, 4, 5, 6, 7, 8, 9, 10, 11, 12, 13, 14, 15, 16, 17, 18, 19, 20, 21, 22, 23, 24, 25, 26, 27, 28], false, 6, 6⟩,
      ⟨⟨some 96, none, .prim (.mov (.tmp 95))⟩, [0, 1, 2, 3, 4, 5, 6, 7, 8, 9, 10, 11, 12, 13, 14, 15, 16, 17, 18, 19, 20, 21, 22, 23, 24, 25, 26, 27, 28, 29], false, 6, 6⟩,
      ⟨⟨some 97, (some (96, true)), .call (.func 14) []⟩, [0, 1, 2, 3, 4, 5, 6, 7, 8, 9, 10, 11, 12, 13, 14, 15, 16, 17, 18, 19, 20, 21, 22, 23, 24, 25, 26, 27, 28, 29, 30], true, 0, 0⟩,
      ⟨⟨some 98, none, .prim (.pick (.tmp 96) (.tmp 97) (.const (Go.Value.bool Bool.false)))⟩, [0, 1, 2, 3, 4, 5, 6, 7, 8, 9, 10, 11, 12, 13, 14, 15, 16, 17, 18, 19, 20, 21, 22, 23, 24, 25, 26, 27, 28, 29, 30, 31], false, 7, 7⟩,
      ⟨⟨some 4, none, .prim (.mov (.tmp 98))⟩, [0, 1, 2, 3, 4, 5, 6, 7, 8, 9, 10, 11, 12, 13, 14, 15, 16, 17, 18, 19, 20, 21, 22, 23, 24, 25, 26, 27, 28, 29, 30, 31, 32], false, 7, 7⟩])
    .ret)))))))
def o3 : List Tmp := []
def r3 : List RV := [.tmp 4]
theorem t3 : Text Try.prog 3 o3 c3 r3 99 := ⟨⟨Try.f3, _, by kernel_rfl, by kernel_rfl, rfl, by kernel_rfl, by kernel_rfl, rfl⟩, by kernel_rfl⟩

end Go.Proofs.Ytoadgajhkhejiaa
