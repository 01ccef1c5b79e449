/- What the functions do, over abstract values: printed by a program, checked by the kernel. No condition. -/
import Derived.Test.YtgnoebkcephdmabGreatDoorProg
import Derived.Test.YtgnoebkcephdmabGreatDoorAbSpec
namespace Go.Proofs.YtgnoebkcephdmabGreatDoor
open Go Go.Ab
set_option maxRecDepth 100000

/-- slices.partitionEqualOrdered[string] -/
def c87 : ACode :=
  (.seq (.ops [⟨some 8, none, .prim (.mov (.const (Go.Value.int Go.IntKind.i64 0)))⟩])
    (.seq (.draw [⟨⟨some 11, none, .prim (.mov (.tmp 0))⟩, [], false, 0, 0⟩,
      ⟨⟨some 12, none, .prim (.mov (.tmp 1))⟩, [], false, 0, 0⟩,
      ⟨⟨some 13, none, .prim (.mov (.tmp 0))⟩, [], false, 0, 1⟩,
      ⟨⟨some 14, none, .prim (.mov (.tmp 3))⟩, [], false, 0, 1⟩,
      ⟨⟨some 15, none, .prim (.mov (.tmp 0))⟩, [], false, 0, 0⟩,
      ⟨⟨some 16, none, .prim (.mov (.tmp 3))⟩, [], false, 0, 0⟩,
      ⟨⟨some 17, none, .prim (.iadrs 1 (.tmp 15) (.tmp 16))⟩, [4, 5], false, 0, 0⟩,
      ⟨⟨some 18, none, .prim (.load 1 false (.tmp 17))⟩, [4, 5, 6], false, 0, 0⟩,
      ⟨⟨some 19, none, .prim (.mov (.tmp 0))⟩, [], false, 0, 0⟩,
      ⟨⟨some 20, none, .prim (.mov (.tmp 1))⟩, [], false, 0, 0⟩,
      ⟨⟨some 21, none, .prim (.iadrs 1 (.tmp 19) (.tmp 20))⟩, [8, 9], false, 0, 0⟩,
      ⟨⟨some 22, none, .prim (.load 1 false (.tmp 21))⟩, [8, 9, 10], false, 0, 0⟩,
      ⟨⟨some 23, none, .prim (.iadrs 1 (.tmp 11) (.tmp 12))⟩, [0, 1, 4, 5, 6, 7, 8, 9, 10, 11], false, 0, 0⟩,
      ⟨⟨none, none, .prim (.store 1 (.tmp 23) (.tmp 18))⟩, [0, 1, 4, 5, 6, 7, 8, 9, 10, 11, 12], true, 0, 0⟩,
      ⟨⟨some 24, none, .prim (.iadrs 1 (.tmp 13) (.tmp 14))⟩, [0, 1, 2, 3, 4, 5, 6, 7, 8, 9, 10, 11, 12, 13], false, 1, 1⟩,
      ⟨⟨none, none, .prim (.store 1 (.tmp 24) (.tmp 22))⟩, [0, 1, 2, 3, 4, 5, 6, 7, 8, 9, 10, 11, 12, 13, 14], true, 0, 0⟩])
    (.seq (.ops [⟨some 25, none, .prim (.mov (.tmp 1))⟩,
      ⟨some 26, none, .prim (.bin false .add (.tmp 25) (.const (Go.Value.int Go.IntKind.i64 1)))⟩,
      ⟨some 27, none, .prim (.mov (.tmp 2))⟩,
      ⟨some 28, none, .prim (.bin false .sub (.tmp 27) (.const (Go.Value.int Go.IntKind.i64 1)))⟩,
      ⟨some 9, none, .prim (.mov (.tmp 26))⟩,
      ⟨some 10, none, .prim (.mov (.tmp 28))⟩])
    (.seq (.block 0 (.loop [2, 3, 4, 5, 6, 7, 8, 11, 12, 13, 14, 15, 16, 17, 18, 19, 20, 21, 22, 23, 24, 25, 26, 27, 28, 29, 30, 31, 32, 33, 34, 35, 36, 37, 38, 39, 40, 41, 42, 43, 44, 45, 46, 47, 48, 49, 50, 51, 52, 53, 54, 55, 56, 57, 58, 59, 60, 61, 62, 63, 64, 65, 66, 67, 68, 69, 70, 71, 72, 73, 74, 75, 76, 77, 78, 79, 80, 81, 82, 83] (.block 1 (.seq (.block 2 (.loop [2, 3, 4, 5, 6, 7, 8, 11, 12, 13, 14, 15, 16, 17, 18, 19, 20, 21, 22, 23, 24, 25, 26, 27, 28, 29, 30, 31, 32, 33, 34, 35, 36, 37, 38, 39, 40, 41, 42, 43, 44, 45, 46, 47, 48, 49, 50, 51, 52, 53, 54, 55, 56, 57, 58, 59, 60, 61, 62, 63, 64, 65, 66, 67, 68, 69, 70, 71, 72, 73, 74, 75, 76, 77, 78, 79, 80, 81, 82, 83] (.seq (.seq (.draw [⟨⟨some 29, none, .prim (.mov (.tmp 9))⟩, [], false, 0, 0⟩,
      ⟨⟨some 30, none, .prim (.mov (.tmp 10))⟩, [], false, 0, 0⟩,
      ⟨⟨some 31, none, .prim (.bin false .leq (.tmp 29) (.tmp 30))⟩, [0, 1], false, 0, 0⟩,
      ⟨⟨some 32, none, .prim (.mov (.tmp 31))⟩, [0, 1, 2], false, 0, 0⟩,
      ⟨⟨some 33, (some (32, true)), .prim (.mov (.tmp 0))⟩, [0, 1, 2, 3], false, 0, 0⟩,
      ⟨⟨some 34, (some (32, true)), .prim (.mov (.tmp 1))⟩, [0, 1, 2, 3], false, 0, 0⟩,
      ⟨⟨some 35, (some (32, true)), .prim (.iadrs 1 (.tmp 33) (.tmp 34))⟩, [0, 1, 2, 3, 4, 5], false, 0, 0⟩,
      ⟨⟨some 36, (some (32, true)), .prim (.load 1 false (.tmp 35))⟩, [0, 1, 2, 3, 4, 5, 6], false, 0, 0⟩,
      ⟨⟨some 37, (some (32, true)), .prim (.mov (.tmp 0))⟩, [0, 1, 2, 3], false, 0, 0⟩,
      ⟨⟨some 38, (some (32, true)), .prim (.mov (.tmp 9))⟩, [0, 1, 2, 3], false, 0, 0⟩,
      ⟨⟨some 39, (some (32, true)), .prim (.iadrs 1 (.tmp 37) (.tmp 38))⟩, [0, 1, 2, 3, 8, 9], false, 0, 0⟩,
      ⟨⟨some 40, (some (32, true)), .prim (.load 1 false (.tmp 39))⟩, [0, 1, 2, 3, 8, 9, 10], false, 0, 0⟩,
      ⟨⟨some 41, (some (32, true)), .call (.func 86) [(.tmp 36), (.tmp 40)]⟩, [0, 1, 2, 3, 4, 5, 6, 7, 8, 9, 10, 11], true, 0, 0⟩,
      ⟨⟨some 42, (some (32, true)), .prim (.un .not (.tmp 41))⟩, [0, 1, 2, 3, 4, 5, 6, 7, 8, 9, 10, 11, 12], false, 1, 1⟩,
      ⟨⟨some 43, none, .prim (.pick (.tmp 32) (.tmp 42) (.const (Go.Value.bool Bool.false)))⟩, [0, 1, 2, 3, 4, 5, 6, 7, 8, 9, 10, 11, 12, 13], false, 1, 1⟩])
    (.cond (.tmp 43)
    .skip
    (.exit 2)))
    (.block 3 (.ops [⟨some 44, none, .prim (.mov (.tmp 9))⟩,
      ⟨some 45, none, .prim (.bin false .add (.tmp 44) (.const (Go.Value.int Go.IntKind.i64 1)))⟩,
      ⟨some 9, none, .prim (.mov (.tmp 45))⟩])))))
    (.seq (.block 4 (.loop [2, 3, 4, 5, 6, 7, 8, 11, 12, 13, 14, 15, 16, 17, 18, 19, 20, 21, 22, 23, 24, 25, 26, 27, 28, 29, 30, 31, 32, 33, 34, 35, 36, 37, 38, 39, 40, 41, 42, 43, 44, 45, 46, 47, 48, 49, 50, 51, 52, 53, 54, 55, 56, 57, 58, 59, 60, 61, 62, 63, 64, 65, 66, 67, 68, 69, 70, 71, 72, 73, 74, 75, 76, 77, 78, 79, 80, 81, 82, 83] (.seq (.seq (.draw [⟨⟨some 46, none, .prim (.mov (.tmp 9))⟩, [], false, 0, 0⟩,
      ⟨⟨some 47, none, .prim (.mov (.tmp 10))⟩, [], false, 0, 0⟩,
      ⟨⟨some 48, none, .prim (.bin false .leq (.tmp 46) (.tmp 47))⟩, [0, 1], false, 0, 0⟩,
      ⟨⟨some 49, none, .prim (.mov (.tmp 48))⟩, [0, 1, 2], false, 0, 0⟩,
      ⟨⟨some 50, (some (49, true)), .prim (.mov (.tmp 0))⟩, [0, 1, 2, 3], false, 0, 0⟩,
      ⟨⟨some 51, (some (49, true)), .prim (.mov (.tmp 1))⟩, [0, 1, 2, 3], false, 0, 0⟩,
      ⟨⟨some 52, (some (49, true)), .prim (.iadrs 1 (.tmp 50) (.tmp 51))⟩, [0, 1, 2, 3, 4, 5], false, 0, 0⟩,
      ⟨⟨some 53, (some (49, true)), .prim (.load 1 false (.tmp 52))⟩, [0, 1, 2, 3, 4, 5, 6], false, 0, 0⟩,
      ⟨⟨some 54, (some (49, true)), .prim (.mov (.tmp 0))⟩, [0, 1, 2, 3], false, 0, 0⟩,
      ⟨⟨some 55, (some (49, true)), .prim (.mov (.tmp 10))⟩, [0, 1, 2, 3], false, 0, 0⟩,
      ⟨⟨some 56, (some (49, true)), .prim (.iadrs 1 (.tmp 54) (.tmp 55))⟩, [0, 1, 2, 3, 8, 9], false, 0, 0⟩,
      ⟨⟨some 57, (some (49, true)), .prim (.load 1 false (.tmp 56))⟩, [0, 1, 2, 3, 8, 9, 10], false, 0, 0⟩,
      ⟨⟨some 58, (some (49, true)), .call (.func 86) [(.tmp 53), (.tmp 57)]⟩, [0, 1, 2, 3, 4, 5, 6, 7, 8, 9, 10, 11], true, 0, 0⟩,
      ⟨⟨some 59, none, .prim (.pick (.tmp 49) (.tmp 58) (.const (Go.Value.bool Bool.false)))⟩, [0, 1, 2, 3, 4, 5, 6, 7, 8, 9, 10, 11, 12], false, 1, 1⟩])
    (.cond (.tmp 59)
    .skip
    (.exit 4)))
    (.block 5 (.ops [⟨some 60, none, .prim (.mov (.tmp 10))⟩,
      ⟨some 61, none, .prim (.bin false .sub (.tmp 60) (.const (Go.Value.int Go.IntKind.i64 1)))⟩,
      ⟨some 10, none, .prim (.mov (.tmp 61))⟩])))))
    (.seq (.seq (.ops [⟨some 62, none, .prim (.mov (.tmp 9))⟩,
      ⟨some 63, none, .prim (.mov (.tmp 10))⟩,
      ⟨some 64, none, .prim (.bin false .gtr (.tmp 62) (.tmp 63))⟩])
    (.cond (.tmp 64)
    (.exit 0)
    .skip))
    (.seq (.draw [⟨⟨some 65, none, .prim (.mov (.tmp 0))⟩, [], false, 0, 0⟩,
      ⟨⟨some 66, none, .prim (.mov (.tmp 9))⟩, [], false, 0, 0⟩,
      ⟨⟨some 67, none, .prim (.mov (.tmp 0))⟩, [], false, 0, 1⟩,
      ⟨⟨some 68, none, .prim (.mov (.tmp 10))⟩, [], false, 0, 1⟩,
      ⟨⟨some 69, none, .prim (.mov (.tmp 0))⟩, [], false, 0, 0⟩,
      ⟨⟨some 70, none, .prim (.mov (.tmp 10))⟩, [], false, 0, 0⟩,
      ⟨⟨some 71, none, .prim (.iadrs 1 (.tmp 69) (.tmp 70))⟩, [4, 5], false, 0, 0⟩,
      ⟨⟨some 72, none, .prim (.load 1 false (.tmp 71))⟩, [4, 5, 6], false, 0, 0⟩,
      ⟨⟨some 73, none, .prim (.mov (.tmp 0))⟩, [], false, 0, 0⟩,
      ⟨⟨some 74, none, .prim (.mov (.tmp 9))⟩, [], false, 0, 0⟩,
      ⟨⟨some 75, none, .prim (.iadrs 1 (.tmp 73) (.tmp 74))⟩, [8, 9], false, 0, 0⟩,
      ⟨⟨some 76, none, .prim (.load 1 false (.tmp 75))⟩, [8, 9, 10], false, 0, 0⟩,
      ⟨⟨some 77, none, .prim (.iadrs 1 (.tmp 65) (.tmp 66))⟩, [0, 1, 4, 5, 6, 7, 8, 9, 10, 11], false, 0, 0⟩,
      ⟨⟨none, none, .prim (.store 1 (.tmp 77) (.tmp 72))⟩, [0, 1, 4, 5, 6, 7, 8, 9, 10, 11, 12], true, 0, 0⟩,
      ⟨⟨some 78, none, .prim (.iadrs 1 (.tmp 67) (.tmp 68))⟩, [0, 1, 2, 3, 4, 5, 6, 7, 8, 9, 10, 11, 12, 13], false, 1, 1⟩,
      ⟨⟨none, none, .prim (.store 1 (.tmp 78) (.tmp 76))⟩, [0, 1, 2, 3, 4, 5, 6, 7, 8, 9, 10, 11, 12, 13, 14], true, 0, 0⟩])
    (.seq (.ops [⟨some 79, none, .prim (.mov (.tmp 9))⟩,
      ⟨some 80, none, .prim (.bin false .add (.tmp 79) (.const (Go.Value.int Go.IntKind.i64 1)))⟩,
      ⟨some 9, none, .prim (.mov (.tmp 80))⟩])
    (.ops [⟨some 81, none, .prim (.mov (.tmp 10))⟩,
      ⟨some 82, none, .prim (.bin false .sub (.tmp 81) (.const (Go.Value.int Go.IntKind.i64 1)))⟩,
      ⟨some 10, none, .prim (.mov (.tmp 82))⟩])))))))))
    (.seq (.ops [⟨some 83, none, .prim (.mov (.tmp 9))⟩,
      ⟨some 8, none, .prim (.mov (.tmp 83))⟩])
    .ret)))))
def o87 : List Tmp := []
def r87 : List RV := [.tmp 8]
theorem t87 : Text Tryz.prog 87 o87 c87 r87 84 := ⟨⟨Tryz.f87, _, by kernel_rfl, by kernel_rfl, rfl, by kernel_rfl, by kernel_rfl, rfl⟩, by kernel_rfl⟩

/-- slices.partitionOrdered[string] -/
def c88 : ACode :=
  (.seq (.ops [⟨some 8, none, .prim (.mov (.const (Go.Value.int Go.IntKind.i64 0)))⟩,
      ⟨some 9, none, .prim (.mov (.const (Go.Value.bool Bool.false)))⟩])
    (.seq (.draw [⟨⟨some 12, none, .prim (.mov (.tmp 0))⟩, [], false, 0, 0⟩,
      ⟨⟨some 13, none, .prim (.mov (.tmp 1))⟩, [], false, 0, 0⟩,
      ⟨⟨some 14, none, .prim (.mov (.tmp 0))⟩, [], false, 0, 1⟩,
      ⟨⟨some 15, none, .prim (.mov (.tmp 3))⟩, [], false, 0, 1⟩,
      ⟨⟨some 16, none, .prim (.mov (.tmp 0))⟩, [], false, 0, 0⟩,
      ⟨⟨some 17, none, .prim (.mov (.tmp 3))⟩, [], false, 0, 0⟩,
      ⟨⟨some 18, none, .prim (.iadrs 1 (.tmp 16) (.tmp 17))⟩, [4, 5], false, 0, 0⟩,
      ⟨⟨some 19, none, .prim (.load 1 false (.tmp 18))⟩, [4, 5, 6], false, 0, 0⟩,
      ⟨⟨some 20, none, .prim (.mov (.tmp 0))⟩, [], false, 0, 0⟩,
      ⟨⟨some 21, none, .prim (.mov (.tmp 1))⟩, [], false, 0, 0⟩,
      ⟨⟨some 22, none, .prim (.iadrs 1 (.tmp 20) (.tmp 21))⟩, [8, 9], false, 0, 0⟩,
      ⟨⟨some 23, none, .prim (.load 1 false (.tmp 22))⟩, [8, 9, 10], false, 0, 0⟩,
      ⟨⟨some 24, none, .prim (.iadrs 1 (.tmp 12) (.tmp 13))⟩, [0, 1, 4, 5, 6, 7, 8, 9, 10, 11], false, 0, 0⟩,
      ⟨⟨none, none, .prim (.store 1 (.tmp 24) (.tmp 19))⟩, [0, 1, 4, 5, 6, 7, 8, 9, 10, 11, 12], true, 0, 0⟩,
      ⟨⟨some 25, none, .prim (.iadrs 1 (.tmp 14) (.tmp 15))⟩, [0, 1, 2, 3, 4, 5, 6, 7, 8, 9, 10, 11, 12, 13], false, 1, 1⟩,
      ⟨⟨none, none, .prim (.store 1 (.tmp 25) (.tmp 23))⟩, [0, 1, 2, 3, 4, 5, 6, 7, 8, 9, 10, 11, 12, 13, 14], true, 0, 0⟩])
    (.seq (.ops [⟨some 26, none, .prim (.mov (.tmp 1))⟩,
      ⟨some 27, none, .prim (.bin false .add (.tmp 26) (.const (Go.Value.int Go.IntKind.i64 1)))⟩,
      ⟨some 28, none, .prim (.mov (.tmp 2))⟩,
      ⟨some 29, none, .prim (.bin false .sub (.tmp 28) (.const (Go.Value.int Go.IntKind.i64 1)))⟩,
      ⟨some 10, none, .prim (.mov (.tmp 27))⟩,
      ⟨some 11, none, .prim (.mov (.tmp 29))⟩])
    (.seq (.block 0 (.loop [2, 3, 4, 5, 6, 7, 8, 9, 12, 13, 14, 15, 16, 17, 18, 19, 20, 21, 22, 23, 24, 25, 26, 27, 28, 29, 30, 31, 32, 33, 34, 35, 36, 37, 38, 39, 40, 41, 42, 43, 44, 45, 46, 47, 48, 49, 50, 51, 52, 53, 54, 55, 56, 57, 58, 59, 60, 61, 62, 63, 64, 65, 66, 67, 68, 69, 70, 71, 72, 73, 74, 75, 76, 77, 78, 79, 80, 81, 82, 83, 84, 85, 86, 87, 88, 89, 90, 91, 92, 93, 94, 95, 96, 97, 98, 99, 100, 101, 102, 103, 104, 105, 106, 107, 108, 109, 110, 111, 112, 113, 114, 115, 116, 117, 118, 119, 120, 121, 122, 123, 124, 125, 126, 127, 128, 129, 130, 131, 132, 133, 134, 135, 136, 137, 138, 139, 140, 141, 142, 143, 144, 145, 146, 147, 148, 149, 150, 151, 152, 153, 154, 155, 156, 157, 158, 159, 160, 161, 162, 163, 164, 165, 166, 167] (.seq (.seq (.draw [⟨⟨some 30, none, .prim (.mov (.tmp 10))⟩, [], false, 0, 0⟩,
      ⟨⟨some 31, none, .prim (.mov (.tmp 11))⟩, [], false, 0, 0⟩,
      ⟨⟨some 32, none, .prim (.bin false .leq (.tmp 30) (.tmp 31))⟩, [0, 1], false, 0, 0⟩,
      ⟨⟨some 33, none, .prim (.mov (.tmp 32))⟩, [0, 1, 2], false, 0, 0⟩,
      ⟨⟨some 34, (some (33, true)), .prim (.mov (.tmp 0))⟩, [0, 1, 2, 3], false, 0, 0⟩,
      ⟨⟨some 35, (some (33, true)), .prim (.mov (.tmp 10))⟩, [0, 1, 2, 3], false, 0, 0⟩,
      ⟨⟨some 36, (some (33, true)), .prim (.iadrs 1 (.tmp 34) (.tmp 35))⟩, [0, 1, 2, 3, 4, 5], false, 0, 0⟩,
      ⟨⟨some 37, (some (33, true)), .prim (.load 1 false (.tmp 36))⟩, [0, 1, 2, 3, 4, 5, 6], false, 0, 0⟩,
      ⟨⟨some 38, (some (33, true)), .prim (.mov (.tmp 0))⟩, [0, 1, 2, 3], false, 0, 0⟩,
      ⟨⟨some 39, (some (33, true)), .prim (.mov (.tmp 1))⟩, [0, 1, 2, 3], false, 0, 0⟩,
      ⟨⟨some 40, (some (33, true)), .prim (.iadrs 1 (.tmp 38) (.tmp 39))⟩, [0, 1, 2, 3, 8, 9], false, 0, 0⟩,
      ⟨⟨some 41, (some (33, true)), .prim (.load 1 false (.tmp 40))⟩, [0, 1, 2, 3, 8, 9, 10], false, 0, 0⟩,
      ⟨⟨some 42, (some (33, true)), .call (.func 86) [(.tmp 37), (.tmp 41)]⟩, [0, 1, 2, 3, 4, 5, 6, 7, 8, 9, 10, 11], true, 0, 0⟩,
      ⟨⟨some 43, none, .prim (.pick (.tmp 33) (.tmp 42) (.const (Go.Value.bool Bool.false)))⟩, [0, 1, 2, 3, 4, 5, 6, 7, 8, 9, 10, 11, 12], false, 1, 1⟩])
    (.cond (.tmp 43)
    .skip
    (.exit 0)))
    (.block 1 (.ops [⟨some 44, none, .prim (.mov (.tmp 10))⟩,
      ⟨some 45, none, .prim (.bin false .add (.tmp 44) (.const (Go.Value.int Go.IntKind.i64 1)))⟩,
      ⟨some 10, none, .prim (.mov (.tmp 45))⟩])))))
    (.seq (.block 2 (.loop [2, 3, 4, 5, 6, 7, 8, 9, 12, 13, 14, 15, 16, 17, 18, 19, 20, 21, 22, 23, 24, 25, 26, 27, 28, 29, 30, 31, 32, 33, 34, 35, 36, 37, 38, 39, 40, 41, 42, 43, 44, 45, 46, 47, 48, 49, 50, 51, 52, 53, 54, 55, 56, 57, 58, 59, 60, 61, 62, 63, 64, 65, 66, 67, 68, 69, 70, 71, 72, 73, 74, 75, 76, 77, 78, 79, 80, 81, 82, 83, 84, 85, 86, 87, 88, 89, 90, 91, 92, 93, 94, 95, 96, 97, 98, 99, 100, 101, 102, 103, 104, 105, 106, 107, 108, 109, 110, 111, 112, 113, 114, 115, 116, 117, 118, 119, 120, 121, 122, 123, 124, 125, 126, 127, 128, 129, 130, 131, 132, 133, 134, 135, 136, 137, 138, 139, 140, 141, 142, 143, 144, 145, 146, 147, 148, 149, 150, 151, 152, 153, 154, 155, 156, 157, 158, 159, 160, 161, 162, 163, 164, 165, 166, 167] (.seq (.seq (.draw [⟨⟨some 46, none, .prim (.mov (.tmp 10))⟩, [], false, 0, 0⟩,
      ⟨⟨some 47, none, .prim (.mov (.tmp 11))⟩, [], false, 0, 0⟩,
      ⟨⟨some 48, none, .prim (.bin false .leq (.tmp 46) (.tmp 47))⟩, [0, 1], false, 0, 0⟩,
      ⟨⟨some 49, none, .prim (.mov (.tmp 48))⟩, [0, 1, 2], false, 0, 0⟩,
      ⟨⟨some 50, (some (49, true)), .prim (.mov (.tmp 0))⟩, [0, 1, 2, 3], false, 0, 0⟩,
      ⟨⟨some 51, (some (49, true)), .prim (.mov (.tmp 11))⟩, [0, 1, 2, 3], false, 0, 0⟩,
      ⟨⟨some 52, (some (49, true)), .prim (.iadrs 1 (.tmp 50) (.tmp 51))⟩, [0, 1, 2, 3, 4, 5], false, 0, 0⟩,
      ⟨⟨some 53, (some (49, true)), .prim (.load 1 false (.tmp 52))⟩, [0, 1, 2, 3, 4, 5, 6], false, 0, 0⟩,
      ⟨⟨some 54, (some (49, true)), .prim (.mov (.tmp 0))⟩, [0, 1, 2, 3], false, 0, 0⟩,
      ⟨⟨some 55, (some (49, true)), .prim (.mov (.tmp 1))⟩, [0, 1, 2, 3], false, 0, 0⟩,
      ⟨⟨some 56, (some (49, true)), .prim (.iadrs 1 (.tmp 54) (.tmp 55))⟩, [0, 1, 2, 3, 8, 9], false, 0, 0⟩,
      ⟨⟨some 57, (some (49, true)), .prim (.load 1 false (.tmp 56))⟩, [0, 1, 2, 3, 8, 9, 10], false, 0, 0⟩,
      ⟨⟨some 58, (some (49, true)), .call (.func 86) [(.tmp 53), (.tmp 57)]⟩, [0, 1, 2, 3, 4, 5, 6, 7, 8, 9, 10, 11], true, 0, 0⟩,
      ⟨⟨some 59, (some (49, true)), .prim (.un .not (.tmp 58))⟩, [0, 1, 2, 3, 4, 5, 6, 7, 8, 9, 10, 11, 12], false, 1, 1⟩,
      ⟨⟨some 60, none, .prim (.pick (.tmp 49) (.tmp 59) (.const (Go.Value.bool Bool.false)))⟩, [0, 1, 2, 3, 4, 5, 6, 7, 8, 9, 10, 11, 12, 13], false, 1, 1⟩])
    (.cond (.tmp 60)
    .skip
    (.exit 2)))
    (.block 3 (.ops [⟨some 61, none, .prim (.mov (.tmp 11))⟩,
      ⟨some 62, none, .prim (.bin false .sub (.tmp 61) (.const (Go.Value.int Go.IntKind.i64 1)))⟩,
      ⟨some 11, none, .prim (.mov (.tmp 62))⟩])))))
    (.seq (.seq (.ops [⟨some 63, none, .prim (.mov (.tmp 10))⟩,
      ⟨some 64, none, .prim (.mov (.tmp 11))⟩,
      ⟨some 65, none, .prim (.bin false .gtr (.tmp 63) (.tmp 64))⟩])
    (.cond (.tmp 65)
    (.seq (.draw [⟨⟨some 66, none, .prim (.mov (.tmp 0))⟩, [], false, 0, 0⟩,
      ⟨⟨some 67, none, .prim (.mov (.tmp 11))⟩, [], false, 0, 0⟩,
      ⟨⟨some 68, none, .prim (.mov (.tmp 0))⟩, [], false, 0, 1⟩,
      ⟨⟨some 69, none, .prim (.mov (.tmp 1))⟩, [], false, 0, 1⟩,
      ⟨⟨some 70, none, .prim (.mov (.tmp 0))⟩, [], false, 0, 0⟩,
      ⟨⟨some 71, none, .prim (.mov (.tmp 1))⟩, [], false, 0, 0⟩,
      ⟨⟨some 72, none, .prim (.iadrs 1 (.tmp 70) (.tmp 71))⟩, [4, 5], false, 0, 0⟩,
      ⟨⟨some 73, none, .prim (.load 1 false (.tmp 72))⟩, [4, 5, 6], false, 0, 0⟩,
      ⟨⟨some 74, none, .prim (.mov (.tmp 0))⟩, [], false, 0, 0⟩,
      ⟨⟨some 75, none, .prim (.mov (.tmp 11))⟩, [], false, 0, 0⟩,
      ⟨⟨some 76, none, .prim (.iadrs 1 (.tmp 74) (.tmp 75))⟩, [8, 9], false, 0, 0⟩,
      ⟨⟨some 77, none, .prim (.load 1 false (.tmp 76))⟩, [8, 9, 10], false, 0, 0⟩,
      ⟨⟨some 78, none, .prim (.iadrs 1 (.tmp 66) (.tmp 67))⟩, [0, 1, 4, 5, 6, 7, 8, 9, 10, 11], false, 0, 0⟩,
      ⟨⟨none, none, .prim (.store 1 (.tmp 78) (.tmp 73))⟩, [0, 1, 4, 5, 6, 7, 8, 9, 10, 11, 12], true, 0, 0⟩,
      ⟨⟨some 79, none, .prim (.iadrs 1 (.tmp 68) (.tmp 69))⟩, [0, 1, 2, 3, 4, 5, 6, 7, 8, 9, 10, 11, 12, 13], false, 1, 1⟩,
      ⟨⟨none, none, .prim (.store 1 (.tmp 79) (.tmp 77))⟩, [0, 1, 2, 3, 4, 5, 6, 7, 8, 9, 10, 11, 12, 13, 14], true, 0, 0⟩])
    (.seq (.ops [⟨some 80, none, .prim (.mov (.tmp 11))⟩,
      ⟨some 8, none, .prim (.mov (.tmp 80))⟩,
      ⟨some 9, none, .prim (.mov (.const (Go.Value.bool Bool.true)))⟩])
    .ret))
    .skip))
    (.seq (.draw [⟨⟨some 81, none, .prim (.mov (.tmp 0))⟩, [], false, 0, 0⟩,
      ⟨⟨some 82, none, .prim (.mov (.tmp 10))⟩, [], false, 0, 0⟩,
      ⟨⟨some 83, none, .prim (.mov (.tmp 0))⟩, [], false, 0, 1⟩,
      ⟨⟨some 84, none, .prim (.mov (.tmp 11))⟩, [], false, 0, 1⟩,
      ⟨⟨some 85, none, .prim (.mov (.tmp 0))⟩, [], false, 0, 0⟩,
      ⟨⟨some 86, none, .prim (.mov (.tmp 11))⟩, [], false, 0, 0⟩,
      ⟨⟨some 87, none, .prim (.iadrs 1 (.tmp 85) (.tmp 86))⟩, [4, 5], false, 0, 0⟩,
      ⟨⟨some 88, none, .prim (.load 1 false (.tmp 87))⟩, [4, 5, 6], false, 0, 0⟩,
      ⟨⟨some 89, none, .prim (.mov (.tmp 0))⟩, [], false, 0, 0⟩,
      ⟨⟨some 90, none, .prim (.mov (.tmp 10))⟩, [], false, 0, 0⟩,
      ⟨⟨some 91, none, .prim (.iadrs 1 (.tmp 89) (.tmp 90))⟩, [8, 9], false, 0, 0⟩,
      ⟨⟨some 92, none, .prim (.load 1 false (.tmp 91))⟩, [8, 9, 10], false, 0, 0⟩,
      ⟨⟨some 93, none, .prim (.iadrs 1 (.tmp 81) (.tmp 82))⟩, [0, 1, 4, 5, 6, 7, 8, 9, 10, 11], false, 0, 0⟩,
      ⟨⟨none, none, .prim (.store 1 (.tmp 93) (.tmp 88))⟩, [0, 1, 4, 5, 6, 7, 8, 9, 10, 11, 12], true, 0, 0⟩,
      ⟨⟨some 94, none, .prim (.iadrs 1 (.tmp 83) (.tmp 84))⟩, [0, 1, 2, 3, 4, 5, 6, 7, 8, 9, 10, 11, 12, 13], false, 1, 1⟩,
      ⟨⟨none, none, .prim (.store 1 (.tmp 94) (.tmp 92))⟩, [0, 1, 2, 3, 4, 5, 6, 7, 8, 9, 10, 11, 12, 13, 14], true, 0, 0⟩])
    (.seq (.ops [⟨some 95, none, .prim (.mov (.tmp 10))⟩,
      ⟨some 96, none, .prim (.bin false .add (.tmp 95) (.const (Go.Value.int Go.IntKind.i64 1)))⟩,
      ⟨some 10, none, .prim (.mov (.tmp 96))⟩])
    (.seq (.ops [⟨some 97, none, .prim (.mov (.tmp 11))⟩,
      ⟨some 98, none, .prim (.bin false .sub (.tmp 97) (.const (Go.Value.int Go.IntKind.i64 1)))⟩,
      ⟨some 11, none, .prim (.mov (.tmp 98))⟩])
    (.seq (.block 4 (.loop [2, 3, 4, 5, 6, 7, 8, 9, 12, 13, 14, 15, 16, 17, 18, 19, 20, 21, 22, 23, 24, 25, 26, 27, 28, 29, 30, 31, 32, 33, 34, 35, 36, 37, 38, 39, 40, 41, 42, 43, 44, 45, 46, 47, 48, 49, 50, 51, 52, 53, 54, 55, 56, 57, 58, 59, 60, 61, 62, 63, 64, 65, 66, 67, 68, 69, 70, 71, 72, 73, 74, 75, 76, 77, 78, 79, 80, 81, 82, 83, 84, 85, 86, 87, 88, 89, 90, 91, 92, 93, 94, 95, 96, 97, 98, 99, 100, 101, 102, 103, 104, 105, 106, 107, 108, 109, 110, 111, 112, 113, 114, 115, 116, 117, 118, 119, 120, 121, 122, 123, 124, 125, 126, 127, 128, 129, 130, 131, 132, 133, 134, 135, 136, 137, 138, 139, 140, 141, 142, 143, 144, 145, 146, 147, 148, 149, 150, 151, 152, 153, 154, 155, 156, 157, 158, 159, 160, 161, 162, 163, 164, 165, 166, 167] (.block 5 (.seq (.block 6 (.loop [2, 3, 4, 5, 6, 7, 8, 9, 12, 13, 14, 15, 16, 17, 18, 19, 20, 21, 22, 23, 24, 25, 26, 27, 28, 29, 30, 31, 32, 33, 34, 35, 36, 37, 38, 39, 40, 41, 42, 43, 44, 45, 46, 47, 48, 49, 50, 51, 52, 53, 54, 55, 56, 57, 58, 59, 60, 61, 62, 63, 64, 65, 66, 67, 68, 69, 70, 71, 72, 73, 74, 75, 76, 77, 78, 79, 80, 81, 82, 83, 84, 85, 86, 87, 88, 89, 90, 91, 92, 93, 94, 95, 96, 97, 98, 99, 100, 101, 102, 103, 104, 105, 106, 107, 108, 109, 110, 111, 112, 113, 114, 115, 116, 117, 118, 119, 120, 121, 122, 123, 124, 125, 126, 127, 128, 129, 130, 131, 132, 133, 134, 135, 136, 137, 138, 139, 140, 141, 142, 143, 144, 145, 146, 147, 148, 149, 150, 151, 152, 153, 154, 155, 156, 157, 158, 159, 160, 161, 162, 163, 164, 165, 166, 167] (.seq (.seq (.draw [⟨⟨some 99, none, .prim (.mov (.tmp 10))⟩, [], false, 0, 0⟩,
      ⟨⟨some 100, none, .prim (.mov (.tmp 11))⟩, [], false, 0, 0⟩,
      ⟨⟨some 101, none, .prim (.bin false .leq (.tmp 99) (.tmp 100))⟩, [0, 1], false, 0, 0⟩,
      ⟨⟨some 102, none, .prim (.mov (.tmp 101))⟩, [0, 1, 2], false, 0, 0⟩,
      ⟨⟨some 103, (some (102, true)), .prim (.mov (.tmp 0))⟩, [0, 1, 2, 3], false, 0, 0⟩,
      ⟨⟨some 104, (some (102, true)), .prim (.mov (.tmp 10))⟩, [0, 1, 2, 3], false, 0, 0⟩,
      ⟨⟨some 105, (some (102, true)), .prim (.iadrs 1 (.tmp 103) (.tmp 104))⟩, [0, 1, 2, 3, 4, 5], false, 0, 0⟩,
      ⟨⟨some 106, (some (102, true)), .prim (.load 1 false (.tmp 105))⟩, [0, 1, 2, 3, 4, 5, 6], false, 0, 0⟩,
      ⟨⟨some 107, (some (102, true)), .prim (.mov (.tmp 0))⟩, [0, 1, 2, 3], false, 0, 0⟩,
      ⟨⟨some 108, (some (102, true)), .prim (.mov (.tmp 1))⟩, [0, 1, 2, 3], false, 0, 0⟩,
      ⟨⟨some 109, (some (102, true)), .prim (.iadrs 1 (.tmp 107) (.tmp 108))⟩, [0, 1, 2, 3, 8, 9], false, 0, 0⟩,
      ⟨⟨some 110, (some (102, true)), .prim (.load 1 false (.tmp 109))⟩, [0, 1, 2, 3, 8, 9, 10], false, 0, 0⟩,
      ⟨⟨some 111, (some (102, true)), .call (.func 86) [(.tmp 106), (.tmp 110)]⟩, [0, 1, 2, 3, 4, 5, 6, 7, 8, 9, 10, 11], true, 0, 0⟩,
      ⟨⟨some 112, none, .prim (.pick (.tmp 102) (.tmp 111) (.const (Go.Value.bool Bool.false)))⟩, [0, 1, 2, 3, 4, 5, 6, 7, 8, 9, 10, 11, 12], false, 1, 1⟩])
    (.cond (.tmp 112)
    .skip
    (.exit 6)))
    (.block 7 (.ops [⟨some 113, none, .prim (.mov (.tmp 10))⟩,
      ⟨some 114, none, .prim (.bin false .add (.tmp 113) (.const (Go.Value.int Go.IntKind.i64 1)))⟩,
      ⟨some 10, none, .prim (.mov (.tmp 114))⟩])))))
    (.seq (.block 8 (.loop [2, 3, 4, 5, 6, 7, 8, 9, 12, 13, 14, 15, 16, 17, 18, 19, 20, 21, 22, 23, 24, 25, 26, 27, 28, 29, 30, 31, 32, 33, 34, 35, 36, 37, 38, 39, 40, 41, 42, 43, 44, 45, 46, 47, 48, 49, 50, 51, 52, 53, 54, 55, 56, 57, 58, 59, 60, 61, 62, 63, 64, 65, 66, 67, 68, 69, 70, 71, 72, 73, 74, 75, 76, 77, 78, 79, 80, 81, 82, 83, 84, 85, 86, 87, 88, 89, 90, 91, 92, 93, 94, 95, 96, 97, 98, 99, 100, 101, 102, 103, 104, 105, 106, 107, 108, 109, 110, 111, 112, 113, 114, 115, 116, 117, 118, 119, 120, 121, 122, 123, 124, 125, 126, 127, 128, 129, 130, 131, 132, 133, 134, 135, 136, 137, 138, 139, 140, 141, 142, 143, 144, 145, 146, 147, 148, 149, 150, 151, 152, 153, 154, 155, 156, 157, 158, 159, 160, 161, 162, 163, 164, 165, 166, 167] (.seq (.seq (.draw [⟨⟨some 115, none, .prim (.mov (.tmp 10))⟩, [], false, 0, 0⟩,
      ⟨⟨some 116, none, .prim (.mov (.tmp 11))⟩, [], false, 0, 0⟩,
      ⟨⟨some 117, none, .prim (.bin false .leq (.tmp 115) (.tmp 116))⟩, [0, 1], false, 0, 0⟩,
      ⟨⟨some 118, none, .prim (.mov (.tmp 117))⟩, [0, 1, 2], false, 0, 0⟩,
      ⟨⟨some 119, (some (118, true)), .prim (.mov (.tmp 0))⟩, [0, 1, 2, 3], false, 0, 0⟩,
      ⟨⟨some 120, (some (118, true)), .prim (.mov (.tmp 11))⟩, [0, 1, 2, 3], false, 0, 0⟩,
      ⟨⟨some 121, (some (118, true)), .prim (.iadrs 1 (.tmp 119) (.tmp 120))⟩, [0, 1, 2, 3, 4, 5], false, 0, 0⟩,
      ⟨⟨some 122, (some (118, true)), .prim (.load 1 false (.tmp 121))⟩, [0, 1, 2, 3, 4, 5, 6], false, 0, 0⟩,
      ⟨⟨some 123, (some (118, true)), .prim (.mov (.tmp 0))⟩, [0, 1, 2, 3], false, 0, 0⟩,
      ⟨⟨some 124, (some (118, true)), .prim (.mov (.tmp 1))⟩, [0, 1, 2, 3], false, 0, 0⟩,
      ⟨⟨some 125, (some (118, true)), .prim (.iadrs 1 (.tmp 123) (.tmp 124))⟩, [0, 1, 2, 3, 8, 9], false, 0, 0⟩,
      ⟨⟨some 126, (some (118, true)), .prim (.load 1 false (.tmp 125))⟩, [0, 1, 2, 3, 8, 9, 10], false, 0, 0⟩,
      ⟨⟨some 127, (some (118, true)), .call (.func 86) [(.tmp 122), (.tmp 126)]⟩, [0, 1, 2, 3, 4, 5, 6, 7, 8, 9, 10, 11], true, 0, 0⟩,
      ⟨⟨some 128, (some (118, true)), .prim (.un .not (.tmp 127))⟩, [0, 1, 2, 3, 4, 5, 6, 7, 8, 9, 10, 11, 12], false, 1, 1⟩,
      ⟨⟨some 129, none, .prim (.pick (.tmp 118) (.tmp 128) (.const (Go.Value.bool Bool.false)))⟩, [0, 1, 2, 3, 4, 5, 6, 7, 8, 9, 10, 11, 12, 13], false, 1, 1⟩])
    (.cond (.tmp 129)
    .skip
    (.exit 8)))
    (.block 9 (.ops [⟨some 130, none, .prim (.mov (.tmp 11))⟩,
      ⟨some 131, none, .prim (.bin false .sub (.tmp 130) (.const (Go.Value.int Go.IntKind.i64 1)))⟩,
      ⟨some 11, none, .prim (.mov (.tmp 131))⟩])))))
    (.seq (.seq (.ops [⟨some 132, none, .prim (.mov (.tmp 10))⟩,
      ⟨some 133, none, .prim (.mov (.tmp 11))⟩,
      ⟨some 134, none, .prim (.bin false .gtr (.tmp 132) (.tmp 133))⟩])
    (.cond (.tmp 134)
    (.exit 4)
    .skip))
    (.seq (.draw [⟨⟨some 135, none, .prim (.mov (.tmp 0))⟩, [], false, 0, 0⟩,
      ⟨⟨some 136, none, .prim (.mov (.tmp 10))⟩, [], false, 0, 0⟩,
      ⟨⟨some 137, none, .prim (.mov (.tmp 0))⟩, [], false, 0, 1⟩,
      ⟨⟨some 138, none, .prim (.mov (.tmp 11))⟩, [], false, 0, 1⟩,
      ⟨⟨some 139, none, .prim (.mov (.tmp 0))⟩, [], false, 0, 0⟩,
      ⟨⟨some 140, none, .prim (.mov (.tmp 11))⟩, [], false, 0, 0⟩,
      ⟨⟨some 141, none, .prim (.iadrs 1 (.tmp 139) (.tmp 140))⟩, [4, 5], false, 0, 0⟩,
      ⟨⟨some 142, none, .prim (.load 1 false (.tmp 141))⟩, [4, 5, 6], false, 0, 0⟩,
      ⟨⟨some 143, none, .prim (.mov (.tmp 0))⟩, [], false, 0, 0⟩,
      ⟨⟨some 144, none, .prim (.mov (.tmp 10))⟩, [], false, 0, 0⟩,
      ⟨⟨some 145, none, .prim (.iadrs 1 (.tmp 143) (.tmp 144))⟩, [8, 9], false, 0, 0⟩,
      ⟨⟨some 146, none, .prim (.load 1 false (.tmp 145))⟩, [8, 9, 10], false, 0, 0⟩,
      ⟨⟨some 147, none, .prim (.iadrs 1 (.tmp 135) (.tmp 136))⟩, [0, 1, 4, 5, 6, 7, 8, 9, 10, 11], false, 0, 0⟩,
      ⟨⟨none, none, .prim (.store 1 (.tmp 147) (.tmp 142))⟩, [0, 1, 4, 5, 6, 7, 8, 9, 10, 11, 12], true, 0, 0⟩,
      ⟨⟨some 148, none, .prim (.iadrs 1 (.tmp 137) (.tmp 138))⟩, [0, 1, 2, 3, 4, 5, 6, 7, 8, 9, 10, 11, 12, 13], false, 1, 1⟩,
      ⟨⟨none, none, .prim (.store 1 (.tmp 148) (.tmp 146))⟩, [0, 1, 2, 3, 4, 5, 6, 7, 8, 9, 10, 11, 12, 13, 14], true, 0, 0⟩])
    (.seq (.ops [⟨some 149, none, .prim (.mov (.tmp 10))⟩,
      ⟨some 150, none, .prim (.bin false .add (.tmp 149) (.const (Go.Value.int Go.IntKind.i64 1)))⟩,
      ⟨some 10, none, .prim (.mov (.tmp 150))⟩])
    (.ops [⟨some 151, none, .prim (.mov (.tmp 11))⟩,
      ⟨some 152, none, .prim (.bin false .sub (.tmp 151) (.const (Go.Value.int Go.IntKind.i64 1)))⟩,
      ⟨some 11, none, .prim (.mov (.tmp 152))⟩])))))))))
    (.seq (.draw [⟨⟨some 153, none, .prim (.mov (.tmp 0))⟩, [], false, 0, 0⟩,
      ⟨⟨some 154, none, .prim (.mov (.tmp 11))⟩, [], false, 0, 0⟩,
      ⟨⟨some 155, none, .prim (.mov (.tmp 0))⟩, [], false, 0, 1⟩,
      ⟨⟨some 156, none, .prim (.mov (.tmp 1))⟩, [], false, 0, 1⟩,
      ⟨⟨some 157, none, .prim (.mov (.tmp 0))⟩, [], false, 0, 0⟩,
      ⟨⟨some 158, none, .prim (.mov (.tmp 1))⟩, [], false, 0, 0⟩,
      ⟨⟨some 159, none, .prim (.iadrs 1 (.tmp 157) (.tmp 158))⟩, [4, 5], false, 0, 0⟩,
      ⟨⟨some 160, none, .prim (.load 1 false (.tmp 159))⟩, [4, 5, 6], false, 0, 0⟩,
      ⟨⟨some 161, none, .prim (.mov (.tmp 0))⟩, [], false, 0, 0⟩,
      ⟨⟨some 162, none, .prim (.mov (.tmp 11))⟩, [], false, 0, 0⟩,
      ⟨⟨some 163, none, .prim (.iadrs 1 (.tmp 161) (.tmp 162))⟩, [8, 9], false, 0, 0⟩,
      ⟨⟨some 164, none, .prim (.load 1 false (.tmp 163))⟩, [8, 9, 10], false, 0, 0⟩,
      ⟨⟨some 165, none, .prim (.iadrs 1 (.tmp 153) (.tmp 154))⟩, [0, 1, 4, 5, 6, 7, 8, 9, 10, 11], false, 0, 0⟩,
      ⟨⟨none, none, .prim (.store 1 (.tmp 165) (.tmp 160))⟩, [0, 1, 4, 5, 6, 7, 8, 9, 10, 11, 12], true, 0, 0⟩,
      ⟨⟨some 166, none, .prim (.iadrs 1 (.tmp 155) (.tmp 156))⟩, [0, 1, 2, 3, 4, 5, 6, 7, 8, 9, 10, 11, 12, 13], false, 1, 1⟩,
      ⟨⟨none, none, .prim (.store 1 (.tmp 166) (.tmp 164))⟩, [0, 1, 2, 3, 4, 5, 6, 7, 8, 9, 10, 11, 12, 13, 14], true, 0, 0⟩])
    (.seq (.ops [⟨some 167, none, .prim (.mov (.tmp 11))⟩,
      ⟨some 8, none, .prim (.mov (.tmp 167))⟩,
      ⟨some 9, none, .prim (.mov (.const (Go.Value.bool Bool.false)))⟩])
    .ret))))))))))))
def o88 : List Tmp := []
def r88 : List RV := [.tmp 8, .tmp 9]
theorem t88 : Text Tryz.prog 88 o88 c88 r88 168 := ⟨⟨Tryz.f88, _, by kernel_rfl, by kernel_rfl, rfl, by kernel_rfl, by kernel_rfl, rfl⟩, by kernel_rfl⟩

/-- math/bits.Len32 -/
def c89 : ACode :=
  (.seq (.ops [⟨some 2, none, .prim (.mov (.const (Go.Value.int Go.IntKind.i64 0)))⟩])
    (.seq (.seq (.ops [⟨some 3, none, .prim (.mov (.tmp 0))⟩,
      ⟨some 4, none, .prim (.bin false .geq (.tmp 3) (.const (Go.Value.int Go.IntKind.u32 65536)))⟩])
    (.cond (.tmp 4)
    (.seq (.ops [⟨some 5, none, .prim (.mov (.tmp 0))⟩,
      ⟨some 6, none, .prim (.bin false .shr (.tmp 5) (.const (Go.Value.int Go.IntKind.u64 16)))⟩,
      ⟨some 0, none, .prim (.mov (.tmp 6))⟩])
    (.ops [⟨some 2, none, .prim (.mov (.const (Go.Value.int Go.IntKind.i64 16)))⟩]))
    .skip))
    (.seq (.seq (.ops [⟨some 7, none, .prim (.mov (.tmp 0))⟩,
      ⟨some 8, none, .prim (.bin false .geq (.tmp 7) (.const (Go.Value.int Go.IntKind.u32 256)))⟩])
    (.cond (.tmp 8)
    (.seq (.ops [⟨some 9, none, .prim (.mov (.tmp 0))⟩,
      ⟨some 10, none, .prim (.bin false .shr (.tmp 9) (.const (Go.Value.int Go.IntKind.u64 8)))⟩,
      ⟨some 0, none, .prim (.mov (.tmp 10))⟩])
    (.ops [⟨some 11, none, .prim (.mov (.tmp 2))⟩,
      ⟨some 12, none, .prim (.bin false .add (.tmp 11) (.const (Go.Value.int Go.IntKind.i64 8)))⟩,
      ⟨some 2, none, .prim (.mov (.tmp 12))⟩]))
    .skip))
    (.seq (.ops [⟨some 13, none, .prim (.mov (.tmp 2))⟩,
      ⟨some 14, none, .prim (.mov (.tmp 0))⟩,
      ⟨some 15, none, .prim (.convi .u8 (.tmp 14))⟩,
      ⟨some 16, none, .prim (.idxs (.const (Go.Value.string (ByteArray.mk #[0, 1, 2, 2, 3, 3, 3, 3, 4, 4, 4, 4, 4, 4, 4, 4, 5, 5, 5, 5, 5, 5, 5, 5, 5, 5, 5, 5, 5, 5, 5, 5, 6, 6, 6, 6, 6, 6, 6, 6, 6, 6, 6, 6, 6, 6, 6, 6, 6, 6, 6, 6, 6, 6, 6, 6, 6, 6, 6, 6, 6, 6, 6, 6, 7, 7, 7, 7, 7, 7, 7, 7, 7, 7, 7, 7, 7, 7, 7, 7, 7, 7, 7, 7, 7, 7, 7, 7, 7, 7, 7, 7, 7, 7, 7, 7, 7, 7, 7, 7, 7, 7, 7, 7, 7, 7, 7, 7, 7, 7, 7, 7, 7, 7, 7, 7, 7, 7, 7, 7, 7, 7, 7, 7, 7, 7, 7, 7, 8, 8, 8, 8, 8, 8, 8, 8, 8, 8, 8, 8, 8, 8, 8, 8, 8, 8, 8, 8, 8, 8, 8, 8, 8, 8, 8, 8, 8, 8, 8, 8, 8, 8, 8, 8, 8, 8, 8, 8, 8, 8, 8, 8, 8, 8, 8, 8, 8, 8, 8, 8, 8, 8, 8, 8, 8, 8, 8, 8, 8, 8, 8, 8, 8, 8, 8, 8, 8, 8, 8, 8, 8, 8, 8, 8, 8, 8, 8, 8, 8, 8, 8, 8, 8, 8, 8, 8, 8, 8, 8, 8, 8, 8, 8, 8, 8, 8, 8, 8, 8, 8, 8, 8, 8, 8, 8, 8, 8, 8, 8, 8, 8, 8, 8, 8, 8, 8, 8, 8, 8, 8, 8, 8, 8, 8, 8, 8]))) (.tmp 15))⟩,
      ⟨some 17, none, .prim (.convi .i64 (.tmp 16))⟩,
      ⟨some 18, none, .prim (.bin false .add (.tmp 13) (.tmp 17))⟩,
      ⟨some 2, none, .prim (.mov (.tmp 18))⟩])
    .ret))))
def o89 : List Tmp := []
def r89 : List RV := [.tmp 2]
theorem t89 : Text Tryz.prog 89 o89 c89 r89 19 := ⟨⟨Tryz.f89, _, by kernel_rfl, by kernel_rfl, rfl, by kernel_rfl, by kernel_rfl, rfl⟩, by kernel_rfl⟩

/-- math/bits.Len64 -/
def c90 : ACode :=
  (.seq (.ops [⟨some 2, none, .prim (.mov (.const (Go.Value.int Go.IntKind.i64 0)))⟩])
    (.seq (.seq (.ops [⟨some 3, none, .prim (.mov (.tmp 0))⟩,
      ⟨some 4, none, .prim (.bin false .geq (.tmp 3) (.const (Go.Value.int Go.IntKind.u64 4294967296)))⟩])
    (.cond (.tmp 4)
    (.seq (.ops [⟨some 5, none, .prim (.mov (.tmp 0))⟩,
      ⟨some 6, none, .prim (.bin false .shr (.tmp 5) (.const (Go.Value.int Go.IntKind.u64 32)))⟩,
      ⟨some 0, none, .prim (.mov (.tmp 6))⟩])
    (.ops [⟨some 2, none, .prim (.mov (.const (Go.Value.int Go.IntKind.i64 32)))⟩]))
    .skip))
    (.seq (.seq (.ops [⟨some 7, none, .prim (.mov (.tmp 0))⟩,
      ⟨some 8, none, .prim (.bin false .geq (.tmp 7) (.const (Go.Value.int Go.IntKind.u64 65536)))⟩])
    (.cond (.tmp 8)
    (.seq (.ops [⟨some 9, none, .prim (.mov (.tmp 0))⟩,
      ⟨some 10, none, .prim (.bin false .shr (.tmp 9) (.const (Go.Value.int Go.IntKind.u64 16)))⟩,
      ⟨some 0, none, .prim (.mov (.tmp 10))⟩])
    (.ops [⟨some 11, none, .prim (.mov (.tmp 2))⟩,
      ⟨some 12, none, .prim (.bin false .add (.tmp 11) (.const (Go.Value.int Go.IntKind.i64 16)))⟩,
      ⟨some 2, none, .prim (.mov (.tmp 12))⟩]))
    .skip))
    (.seq (.seq (.ops [⟨some 13, none, .prim (.mov (.tmp 0))⟩,
      ⟨some 14, none, .prim (.bin false .geq (.tmp 13) (.const (Go.Value.int Go.IntKind.u64 256)))⟩])
    (.cond (.tmp 14)
    (.seq (.ops [⟨some 15, none, .prim (.mov (.tmp 0))⟩,
      ⟨some 16, none, .prim (.bin false .shr (.tmp 15) (.const (Go.Value.int Go.IntKind.u64 8)))⟩,
      ⟨some 0, none, .prim (.mov (.tmp 16))⟩])
    (.ops [⟨some 17, none, .prim (.mov (.tmp 2))⟩,
      ⟨some 18, none, .prim (.bin false .add (.tmp 17) (.const (Go.Value.int Go.IntKind.i64 8)))⟩,
      ⟨some 2, none, .prim (.mov (.tmp 18))⟩]))
    .skip))
    (.seq (.ops [⟨some 19, none, .prim (.mov (.tmp 2))⟩,
      ⟨some 20, none, .prim (.mov (.tmp 0))⟩,
      ⟨some 21, none, .prim (.convi .u8 (.tmp 20))⟩,
      ⟨some 22, none, .prim (.idxs (.const (Go.Value.string (ByteArray.mk #[0, 1, 2, 2, 3, 3, 3, 3, 4, 4, 4, 4, 4, 4, 4, 4, 5, 5, 5, 5, 5, 5, 5, 5, 5, 5, 5, 5, 5, 5, 5, 5, 6, 6, 6, 6, 6, 6, 6, 6, 6, 6, 6, 6, 6, 6, 6, 6, 6, 6, 6, 6, 6, 6, 6, 6, 6, 6, 6, 6, 6, 6, 6, 6, 7, 7, 7, 7, 7, 7, 7, 7, 7, 7, 7, 7, 7, 7, 7, 7, 7, 7, 7, 7, 7, 7, 7, 7, 7, 7, 7, 7, 7, 7, 7, 7, 7, 7, 7, 7, 7, 7, 7, 7, 7, 7, 7, 7, 7, 7, 7, 7, 7, 7, 7, 7, 7, 7, 7, 7, 7, 7, 7, 7, 7, 7, 7, 7, 8, 8, 8, 8, 8, 8, 8, 8, 8, 8, 8, 8, 8, 8, 8, 8, 8, 8, 8, 8, 8, 8, 8, 8, 8, 8, 8, 8, 8, 8, 8, 8, 8, 8, 8, 8, 8, 8, 8, 8, 8, 8, 8, 8, 8, 8, 8, 8, 8, 8, 8, 8, 8, 8, 8, 8, 8, 8, 8, 8, 8, 8, 8, 8, 8, 8, 8, 8, 8, 8, 8, 8, 8, 8, 8, 8, 8, 8, 8, 8, 8, 8, 8, 8, 8, 8, 8, 8, 8, 8, 8, 8, 8, 8, 8, 8, 8, 8, 8, 8, 8, 8, 8, 8, 8, 8, 8, 8, 8, 8, 8, 8, 8, 8, 8, 8, 8, 8, 8, 8, 8, 8, 8, 8, 8, 8, 8, 8]))) (.tmp 21))⟩,
      ⟨some 23, none, .prim (.convi .i64 (.tmp 22))⟩,
      ⟨some 24, none, .prim (.bin false .add (.tmp 19) (.tmp 23))⟩,
      ⟨some 2, none, .prim (.mov (.tmp 24))⟩])
    .ret)))))
def o90 : List Tmp := []
def r90 : List RV := [.tmp 2]
theorem t90 : Text Tryz.prog 90 o90 c90 r90 25 := ⟨⟨Tryz.f90, _, by kernel_rfl, by kernel_rfl, rfl, by kernel_rfl, by kernel_rfl, rfl⟩, by kernel_rfl⟩

/-- sordine/req.noBand -/
def c91 : ACode :=
  (.seq (.ops [⟨some 1, none, .prim (.boxr (.tmp 0))⟩,
      ⟨some 2, none, .prim (.mov (.const (Go.Value.bool Bool.false)))⟩])
    (.seq (.ops [⟨some 3, none, .prim (.fadr 0 (.tmp 1))⟩,
      ⟨some 4, none, .prim (.load 1 false (.tmp 3))⟩,
      ⟨some 5, none, .prim (.un .not (.tmp 4))⟩,
      ⟨some 6, none, .prim (.mov (.tmp 5))⟩,
      ⟨some 7, (some (6, true)), .prim (.fadr 1 (.tmp 1))⟩,
      ⟨some 8, (some (6, true)), .prim (.load 1 false (.tmp 7))⟩,
      ⟨some 9, (some (6, true)), .call (.func 93) [(.tmp 8)]⟩,
      ⟨some 10, none, .prim (.pick (.tmp 6) (.tmp 9) (.const (Go.Value.bool Bool.false)))⟩,
      ⟨some 11, none, .prim (.mov (.tmp 10))⟩,
      ⟨some 12, (some (11, true)), .prim (.fadr 2 (.tmp 1))⟩,
      ⟨some 13, (some (11, true)), .prim (.load 1 false (.tmp 12))⟩,
      ⟨some 14, (some (11, true)), .call (.func 93) [(.tmp 13)]⟩,
      ⟨some 15, none, .prim (.pick (.tmp 11) (.tmp 14) (.const (Go.Value.bool Bool.false)))⟩,
      ⟨some 2, none, .prim (.mov (.tmp 15))⟩])
    .ret))
def o91 : List Tmp := []
def r91 : List RV := [.tmp 2]
theorem t91 : Text Tryz.prog 91 o91 c91 r91 16 := ⟨⟨Tryz.f91, _, by kernel_rfl, by kernel_rfl, rfl, by kernel_rfl, by kernel_rfl, rfl⟩, by kernel_rfl⟩

/-- sordine/req.noRule -/
def c92 : ACode :=
  (.seq (.ops [⟨some 1, none, .prim (.boxr (.tmp 0))⟩,
      ⟨some 2, none, .prim (.mov (.const (Go.Value.bool Bool.false)))⟩])
    (.seq (.ops [⟨some 3, none, .prim (.fadr 0 (.tmp 1))⟩,
      ⟨some 4, none, .prim (.load 1 false (.tmp 3))⟩,
      ⟨some 5, none, .prim (.lenv (.tmp 4))⟩,
      ⟨some 6, none, .prim (.bin false .eql (.tmp 5) (.const (Go.Value.int Go.IntKind.i64 0)))⟩,
      ⟨some 7, none, .prim (.mov (.tmp 6))⟩,
      ⟨some 8, (some (7, true)), .prim (.fadr 1 (.tmp 1))⟩,
      ⟨some 9, (some (7, true)), .prim (.load 1 false (.tmp 8))⟩,
      ⟨some 10, (some (7, true)), .prim (.lenv (.tmp 9))⟩,
      ⟨some 11, (some (7, true)), .prim (.bin false .eql (.tmp 10) (.const (Go.Value.int Go.IntKind.i64 0)))⟩,
      ⟨some 12, none, .prim (.pick (.tmp 7) (.tmp 11) (.const (Go.Value.bool Bool.false)))⟩,
      ⟨some 13, none, .prim (.mov (.tmp 12))⟩,
      ⟨some 14, (some (13, true)), .prim (.fadr 5 (.tmp 1))⟩,
      ⟨some 15, (some (13, true)), .prim (.load 1 false (.tmp 14))⟩,
      ⟨some 16, (some (13, true)), .prim (.lenv (.tmp 15))⟩,
      ⟨some 17, (some (13, true)), .prim (.bin false .eql (.tmp 16) (.const (Go.Value.int Go.IntKind.i64 0)))⟩,
      ⟨some 18, none, .prim (.pick (.tmp 13) (.tmp 17) (.const (Go.Value.bool Bool.false)))⟩,
      ⟨some 19, none, .prim (.mov (.tmp 18))⟩,
      ⟨some 20, (some (19, true)), .prim (.fadr 2 (.tmp 1))⟩,
      ⟨some 21, (some (19, true)), .prim (.load 3 true (.tmp 20))⟩,
      ⟨some 22, (some (19, true)), .call (.func 91) [(.tmp 21)]⟩,
      ⟨some 23, none, .prim (.pick (.tmp 19) (.tmp 22) (.const (Go.Value.bool Bool.false)))⟩,
      ⟨some 2, none, .prim (.mov (.tmp 23))⟩])
    .ret))
def o92 : List Tmp := []
def r92 : List RV := [.tmp 2]
theorem t92 : Text Tryz.prog 92 o92 c92 r92 24 := ⟨⟨Tryz.f92, _, by kernel_rfl, by kernel_rfl, rfl, by kernel_rfl, by kernel_rfl, rfl⟩, by kernel_rfl⟩

/-- sordine/req.nought -/
def c93 : ACode :=
  (.seq (.ops [⟨some 2, none, .prim (.mov (.const (Go.Value.bool Bool.false)))⟩])
    (.seq (.ops [⟨some 3, none, .prim (.mov (.tmp 0))⟩,
      ⟨some 4, none, .call (.func 52) [(.tmp 3)]⟩,
      ⟨some 5, none, .prim (.bin false .eql (.tmp 4) (.const (Go.Value.int Go.IntKind.u64 0)))⟩,
      ⟨some 2, none, .prim (.mov (.tmp 5))⟩])
    .ret))
def o93 : List Tmp := []
def r93 : List RV := [.tmp 2]
theorem t93 : Text Tryz.prog 93 o93 c93 r93 6 := ⟨⟨Tryz.f93, _, by kernel_rfl, by kernel_rfl, rfl, by kernel_rfl, by kernel_rfl, rfl⟩, by kernel_rfl⟩

/-- sordine/real.May -/
def c94 : ACode :=
  (.seq (.ops [⟨some 1, none, .prim (.boxr (.tmp 0))⟩,
      ⟨some 2, none, .prim (.mov (.const (Go.Value.bool Bool.false)))⟩])
    (.seq (.seq (.ops [⟨some 3, none, .prim (.fadr 0 (.tmp 1))⟩,
      ⟨some 4, none, .prim (.load 1 false (.tmp 3))⟩])
    (.cond (.tmp 4)
    (.seq (.ops [⟨some 5, none, .prim (.fadr 1 (.tmp 1))⟩,
      ⟨some 6, none, .prim (.load 1 false (.tmp 5))⟩,
      ⟨some 7, none, .call (.func 52) [(.tmp 6)]⟩,
      ⟨some 8, none, .prim (.bin false .eql (.tmp 7) (.const (Go.Value.int Go.IntKind.u64 0)))⟩,
      ⟨some 9, none, .prim (.mov (.tmp 8))⟩,
      ⟨some 10, (some (9, true)), .prim (.fadr 2 (.tmp 1))⟩,
      ⟨some 11, (some (9, true)), .prim (.load 1 false (.tmp 10))⟩,
      ⟨some 12, (some (9, true)), .call (.func 52) [(.tmp 11)]⟩,
      ⟨some 13, (some (9, true)), .prim (.bin false .eql (.tmp 12) (.const (Go.Value.int Go.IntKind.u64 0)))⟩,
      ⟨some 14, none, .prim (.pick (.tmp 9) (.tmp 13) (.const (Go.Value.bool Bool.false)))⟩,
      ⟨some 2, none, .prim (.mov (.tmp 14))⟩])
    .ret)
    .skip))
    (.seq (.ops [⟨some 15, none, .prim (.fadr 1 (.tmp 1))⟩,
      ⟨some 16, none, .prim (.load 1 false (.tmp 15))⟩,
      ⟨some 17, none, .prim (.fadr 2 (.tmp 1))⟩,
      ⟨some 18, none, .prim (.load 1 false (.tmp 17))⟩,
      ⟨some 19, none, .prim (.bin false .leq (.tmp 16) (.tmp 18))⟩,
      ⟨some 2, none, .prim (.mov (.tmp 19))⟩])
    .ret)))
def o94 : List Tmp := []
def r94 : List RV := [.tmp 2]
theorem t94 : Text Tryz.prog 94 o94 c94 r94 20 := ⟨⟨Tryz.f94, _, by kernel_rfl, by kernel_rfl, rfl, by kernel_rfl, by kernel_rfl, rfl⟩, by kernel_rfl⟩

/-- sordine/match.Is -/
def c95 : ACode :=
  (.seq (.ops [⟨some 1, none, .prim (.boxr (.tmp 0))⟩,
      ⟨some 2, none, .prim (.mov (.const (Go.Value.bool Bool.false)))⟩])
    (.seq (.seq (.ops [⟨some 5, none, .prim (.fadr 1 (.tmp 1))⟩,
      ⟨some 6, none, .prim (.load 1 false (.tmp 5))⟩,
      ⟨some 7, none, .call (.func 97) [(.tmp 6)]⟩,
      ⟨some 8, none, .prim (.un .not (.tmp 7))⟩])
    (.cond (.tmp 8)
    (.seq (.ops [⟨some 2, none, .prim (.mov (.const (Go.Value.bool Bool.false)))⟩])
    .ret)
    .skip))
    (.seq (.seq (.ops [⟨some 9, none, .prim (.load 3 true (.tmp 1))⟩,
      ⟨some 10, none, .call (.func 113) [(.tmp 9)]⟩])
    (.cond (.tmp 10)
    (.seq (.ops [⟨some 12, none, .prim (.fadr 2 (.tmp 1))⟩,
      ⟨some 13, none, .prim (.load 1 false (.tmp 12))⟩,
      ⟨some 14, none, .call (.func 114) [(.tmp 13)]⟩,
      ⟨some 11, none, .prim (.mov (.tmp 14))⟩,
      ⟨some 15, none, .prim (.extr 0 (.tmp 11))⟩,
      ⟨some 16, none, .prim (.extr 1 (.tmp 11))⟩,
      ⟨some 3, none, .fresh 6 3 (.tmp 15)⟩,
      ⟨some 4, none, .prim (.mov (.tmp 16))⟩])
    (.seq (.ops [⟨some 17, none, .prim (.mov (.tmp 4))⟩,
      ⟨some 2, none, .prim (.mov (.tmp 17))⟩])
    .ret))
    .skip))
    (.seq (.ops [⟨some 18, none, .prim (.fadr 0 (.tmp 1))⟩,
      ⟨some 19, none, .prim (.load 1 false (.tmp 18))⟩,
      ⟨some 20, none, .prim (.bin false .eql (.tmp 19) (.const (Go.Value.int Go.IntKind.i64 1)))⟩,
      ⟨some 21, none, .prim (.mov (.tmp 20))⟩,
      ⟨some 22, (some (21, false)), .prim (.fadr 0 (.tmp 1))⟩,
      ⟨some 23, (some (21, false)), .prim (.load 1 false (.tmp 22))⟩,
      ⟨some 24, (some (21, false)), .prim (.bin false .eql (.tmp 23) (.const (Go.Value.int Go.IntKind.i64 2)))⟩,
      ⟨some 25, none, .prim (.pick (.tmp 21) (.const (Go.Value.bool Bool.true)) (.tmp 24))⟩,
      ⟨some 26, none, .prim (.mov (.tmp 25))⟩,
      ⟨some 27, (some (26, true)), .prim (.fadr 2 (.tmp 1))⟩,
      ⟨some 28, (some (26, true)), .prim (.load 1 false (.tmp 27))⟩,
      ⟨some 29, (some (26, true)), .prim (.lens (.tmp 28))⟩,
      ⟨some 30, (some (26, true)), .prim (.bin false .leq (.tmp 29) (.const (Go.Value.int Go.IntKind.i64 24)))⟩,
      ⟨some 31, none, .prim (.pick (.tmp 26) (.tmp 30) (.const (Go.Value.bool Bool.false)))⟩,
      ⟨some 2, none, .prim (.mov (.tmp 31))⟩])
    .ret))))
def o95 : List Tmp := []
def r95 : List RV := [.tmp 2]
theorem t95 : Text Tryz.prog 95 o95 c95 r95 32 := ⟨⟨Tryz.f95, _, by kernel_rfl, by kernel_rfl, rfl, by kernel_rfl, by kernel_rfl, rfl⟩, by kernel_rfl⟩

/-- sordine/match.compare -/
def c96 : ACode :=
  (.seq (.ops [⟨some 2, none, .prim (.boxr (.tmp 0))⟩,
      ⟨some 3, none, .prim (.boxr (.tmp 1))⟩,
      ⟨some 4, none, .prim (.mov (.const (Go.Value.int Go.IntKind.i64 0)))⟩])
    (.seq (.draw [⟨⟨some 5, none, .prim (.fadr 1 (.tmp 2))⟩, [], false, 0, 0⟩,
      ⟨⟨some 6, none, .prim (.load 1 false (.tmp 5))⟩, [0], false, 0, 0⟩,
      ⟨⟨some 7, none, .prim (.fadr 1 (.tmp 3))⟩, [], false, 0, 0⟩,
      ⟨⟨some 8, none, .prim (.load 1 false (.tmp 7))⟩, [2], false, 0, 0⟩,
      ⟨⟨some 9, none, .call (.func 116) [(.tmp 6), (.tmp 8)]⟩, [0, 1, 2, 3], true, 0, 0⟩,
      ⟨⟨some 10, none, .prim (.fadr 0 (.tmp 2))⟩, [], false, 0, 1⟩,
      ⟨⟨some 11, none, .prim (.load 1 false (.tmp 10))⟩, [5], false, 0, 1⟩,
      ⟨⟨some 12, none, .prim (.fadr 0 (.tmp 3))⟩, [], false, 0, 1⟩,
      ⟨⟨some 13, none, .prim (.load 1 false (.tmp 12))⟩, [7], false, 0, 1⟩,
      ⟨⟨some 14, none, .call (.func 117) [(.tmp 11), (.tmp 13)]⟩, [0, 1, 2, 3, 4, 5, 6, 7, 8], true, 0, 0⟩,
      ⟨⟨some 15, none, .prim (.fadr 2 (.tmp 2))⟩, [], false, 0, 2⟩,
      ⟨⟨some 16, none, .prim (.load 1 false (.tmp 15))⟩, [10], false, 0, 2⟩,
      ⟨⟨some 17, none, .prim (.fadr 2 (.tmp 3))⟩, [], false, 0, 2⟩,
      ⟨⟨some 18, none, .prim (.load 1 false (.tmp 17))⟩, [12], false, 0, 2⟩,
      ⟨⟨some 19, none, .call (.func 116) [(.tmp 16), (.tmp 18)]⟩, [0, 1, 2, 3, 4, 5, 6, 7, 8, 9, 10, 11, 12, 13], true, 0, 0⟩,
      ⟨⟨some 20, none, .prim (.bsl false 1 false 3 [.pl (.int .i64 0)] [(0, 1, (.tmp 9)), (1, 1, (.tmp 14)), (2, 1, (.tmp 19))])⟩, [0, 1, 2, 3, 4, 5, 6, 7, 8, 9, 10, 11, 12, 13, 14], false, 3, 3⟩,
      ⟨⟨some 21, none, .call (.func 115) [(.tmp 20)]⟩, [0, 1, 2, 3, 4, 5, 6, 7, 8, 9, 10, 11, 12, 13, 14, 15], true, 0, 0⟩,
      ⟨⟨some 4, none, .prim (.mov (.tmp 21))⟩, [0, 1, 2, 3, 4, 5, 6, 7, 8, 9, 10, 11, 12, 13, 14, 15, 16], false, 4, 4⟩])
    .ret))
def o96 : List Tmp := []
def r96 : List RV := [.tmp 4]
theorem t96 : Text Tryz.prog 96 o96 c96 r96 22 := ⟨⟨Tryz.f96, _, by kernel_rfl, by kernel_rfl, rfl, by kernel_rfl, by kernel_rfl, rfl⟩, by kernel_rfl⟩

/-- sordine/labels.Name -/
def c97 : ACode :=
  (.seq (.ops [⟨some 2, none, .prim (.mov (.const (Go.Value.bool Bool.false)))⟩])
    (.seq (.seq (.ops [⟨some 4, none, .prim (.mov (.tmp 0))⟩,
      ⟨some 5, none, .prim (.lens (.tmp 4))⟩,
      ⟨some 6, none, .prim (.bin false .lss (.tmp 5) (.const (Go.Value.int Go.IntKind.i64 1)))⟩,
      ⟨some 7, none, .prim (.mov (.tmp 6))⟩,
      ⟨some 8, (some (7, false)), .prim (.mov (.tmp 0))⟩,
      ⟨some 9, (some (7, false)), .prim (.lens (.tmp 8))⟩,
      ⟨some 10, (some (7, false)), .prim (.bin false .gtr (.tmp 9) (.const (Go.Value.int Go.IntKind.i64 12)))⟩,
      ⟨some 11, none, .prim (.pick (.tmp 7) (.const (Go.Value.bool Bool.true)) (.tmp 10))⟩,
      ⟨some 12, none, .prim (.mov (.tmp 11))⟩,
      ⟨some 13, (some (12, false)), .prim (.mov (.tmp 0))⟩,
      ⟨some 14, (some (12, false)), .prim (.idxs (.tmp 13) (.const (Go.Value.int Go.IntKind.i64 0)))⟩,
      ⟨some 15, (some (12, false)), .call (.func 118) [(.tmp 14)]⟩,
      ⟨some 16, (some (12, false)), .prim (.un .not (.tmp 15))⟩,
      ⟨some 17, none, .prim (.pick (.tmp 12) (.const (Go.Value.bool Bool.true)) (.tmp 16))⟩])
    (.cond (.tmp 17)
    (.seq (.ops [⟨some 2, none, .prim (.mov (.const (Go.Value.bool Bool.false)))⟩])
    .ret)
    .skip))
    (.seq (.seq (.ops [⟨some 18, none, .prim (.mov (.tmp 0))⟩,
      ⟨some 19, none, .prim (.lens (.tmp 18))⟩,
      ⟨some 20, none, .prim (.mov (.const (Go.Value.int Go.IntKind.i64 0)))⟩])
    (.block 0 (.loop [1, 2, 3, 4, 5, 6, 7, 8, 9, 10, 11, 12, 13, 14, 15, 16, 17, 18, 21, 22, 23, 24, 25, 26, 27, 28, 29, 30, 31, 32, 33, 34, 35, 36, 37, 38, 39, 40] (.seq (.ops [⟨some 21, none, .prim (.bin false .lss (.tmp 20) (.tmp 19))⟩])
    (.seq (.cond (.tmp 21)
    .skip
    (.exit 0))
    (.seq (.block 1 (.seq (.ops [⟨some 22, none, .prim (.mov (.tmp 20))⟩,
      ⟨some 3, none, .prim (.mov (.tmp 22))⟩])
    (.seq (.ops [⟨some 23, none, .prim (.mov (.tmp 0))⟩,
      ⟨some 24, none, .prim (.mov (.tmp 3))⟩,
      ⟨some 25, none, .prim (.idxs (.tmp 23) (.tmp 24))⟩,
      ⟨some 26, none, .call (.func 118) [(.tmp 25)]⟩,
      ⟨some 27, none, .prim (.un .not (.tmp 26))⟩,
      ⟨some 28, none, .prim (.mov (.tmp 27))⟩,
      ⟨some 29, (some (28, true)), .prim (.mov (.tmp 0))⟩,
      ⟨some 30, (some (28, true)), .prim (.mov (.tmp 3))⟩,
      ⟨some 31, (some (28, true)), .prim (.idxs (.tmp 29) (.tmp 30))⟩,
      ⟨some 32, (some (28, true)), .prim (.bin false .lss (.tmp 31) (.const (Go.Value.int Go.IntKind.u8 48)))⟩,
      ⟨some 33, (some (28, true)), .prim (.mov (.tmp 32))⟩,
      ⟨some 34, (some (33, false)), .prim (.mov (.tmp 0))⟩,
      ⟨some 35, (some (33, false)), .prim (.mov (.tmp 3))⟩,
      ⟨some 36, (some (33, false)), .prim (.idxs (.tmp 34) (.tmp 35))⟩,
      ⟨some 37, (some (33, false)), .prim (.bin false .gtr (.tmp 36) (.const (Go.Value.int Go.IntKind.u8 57)))⟩,
      ⟨some 38, (some (28, true)), .prim (.pick (.tmp 33) (.const (Go.Value.bool Bool.true)) (.tmp 37))⟩,
      ⟨some 39, none, .prim (.pick (.tmp 28) (.tmp 38) (.const (Go.Value.bool Bool.false)))⟩])
    (.cond (.tmp 39)
    (.seq (.ops [⟨some 2, none, .prim (.mov (.const (Go.Value.bool Bool.false)))⟩])
    .ret)
    .skip))))
    (.ops [⟨some 40, none, .prim (.bin false .add (.tmp 20) (.const (Go.Value.int Go.IntKind.i64 1)))⟩,
      ⟨some 20, none, .prim (.mov (.tmp 40))⟩])))))))
    (.seq (.ops [⟨some 2, none, .prim (.mov (.const (Go.Value.bool Bool.true)))⟩])
    .ret))))
def o97 : List Tmp := []
def r97 : List RV := [.tmp 2]
theorem t97 : Text Tryz.prog 97 o97 c97 r97 41 := ⟨⟨Tryz.f97, _, by kernel_rfl, by kernel_rfl, rfl, by kernel_rfl, by kernel_rfl, rfl⟩, by kernel_rfl⟩

/-- sordine/labels.Value -/
def c98 : ACode :=
  (.seq (.ops [⟨some 2, none, .prim (.mov (.const (Go.Value.bool Bool.false)))⟩])
    (.seq (.ops [⟨some 3, none, .prim (.mov (.tmp 0))⟩,
      ⟨some 4, none, .prim (.lens (.tmp 3))⟩,
      ⟨some 5, none, .prim (.bin false .geq (.tmp 4) (.const (Go.Value.int Go.IntKind.i64 1)))⟩,
      ⟨some 6, none, .prim (.mov (.tmp 5))⟩,
      ⟨some 7, (some (6, true)), .prim (.mov (.tmp 0))⟩,
      ⟨some 8, (some (6, true)), .prim (.lens (.tmp 7))⟩,
      ⟨some 9, (some (6, true)), .prim (.bin false .leq (.tmp 8) (.const (Go.Value.int Go.IntKind.i64 24)))⟩,
      ⟨some 10, none, .prim (.pick (.tmp 6) (.tmp 9) (.const (Go.Value.bool Bool.false)))⟩,
      ⟨some 2, none, .prim (.mov (.tmp 10))⟩])
    .ret))
def o98 : List Tmp := []
def r98 : List RV := [.tmp 2]
theorem t98 : Text Tryz.prog 98 o98 c98 r98 11 := ⟨⟨Tryz.f98, _, by kernel_rfl, by kernel_rfl, rfl, by kernel_rfl, by kernel_rfl, rfl⟩, by kernel_rfl⟩

/-- sordine/peel.New -/
def c99 : ACode :=
  (.seq (.ops [⟨some 2, none, .prim (.mov (.const (Go.Value.pointer Option.none)))⟩])
    (.seq (.ops [⟨some 3, none, .prim (.mov (.tmp 0))⟩,
      ⟨some 4, none, .prim (.build [.nils, .pl (.int .i64 0), .pl (.bool false)] [(0, 1, (.tmp 3))])⟩,
      ⟨some 5, none, .prim (.boxm (.tmp 4))⟩,
      ⟨some 2, none, .prim (.mov (.tmp 5))⟩])
    .ret))
def o99 : List Tmp := [5]
def r99 : List RV := [.tmp 2]
theorem t99 : Text Tryz.prog 99 o99 c99 r99 6 := ⟨⟨Tryz.f99, _, by kernel_rfl, by kernel_rfl, rfl, by kernel_rfl, by kernel_rfl, rfl⟩, by kernel_rfl⟩

/-- sordine/req.whole -/
def c100 : ACode :=
  (.seq (.ops [⟨some 3, none, .prim (.boxr (.tmp 0))⟩,
      ⟨some 6, none, .prim (.allocm [.pl (.string .empty), .pl (.int .i64 0), .pl (.int .i64 0), .pl (.string .empty), .pl (.int .u64 0), .pl (.int .u64 0), .pl (.int .i64 0), .nils, .pl (.bool false), .pl (.float .f64 0), .pl (.float .f64 0), .nils, .nils, .pl (.bool false), .pl (.float .f64 0), .pl (.float .f64 0), .nils, .nils, .pl (.float .f64 0)])⟩,
      ⟨some 7, none, .prim (.mov (.const (Go.Value.bool Bool.false)))⟩])
    (.seq (.seq (.ops [⟨some 11, none, .prim (.mov (.tmp 1))⟩,
      ⟨some 12, none, .call (.func 119) [(.tmp 11)]⟩,
      ⟨some 10, none, .prim (.mov (.tmp 12))⟩,
      ⟨some 13, none, .prim (.extr 0 (.tmp 10))⟩,
      ⟨some 14, none, .prim (.extr 1 (.tmp 10))⟩,
      ⟨some 8, none, .prim (.mov (.tmp 13))⟩,
      ⟨some 9, none, .prim (.mov (.tmp 14))⟩])
    (.seq (.ops [⟨some 15, none, .prim (.mov (.tmp 9))⟩,
      ⟨some 16, none, .prim (.un .not (.tmp 15))⟩,
      ⟨some 17, none, .prim (.mov (.tmp 16))⟩,
      ⟨some 18, (some (17, false)), .prim (.mov (.tmp 8))⟩,
      ⟨some 19, (some (17, false)), .prim (.mov (.tmp 2))⟩,
      ⟨some 20, (some (17, false)), .prim (.lenv (.tmp 19))⟩,
      ⟨some 21, (some (17, false)), .prim (.bin false .neq (.tmp 18) (.tmp 20))⟩,
      ⟨some 22, none, .prim (.pick (.tmp 17) (.const (Go.Value.bool Bool.true)) (.tmp 21))⟩])
    (.cond (.tmp 22)
    (.seq (.ops [⟨some 23, none, .prim (.build [.pl (.string .empty), .pl (.int .i64 0), .pl (.int .i64 0), .pl (.string .empty), .pl (.int .u64 0), .pl (.int .u64 0), .pl (.int .i64 0), .nils, .pl (.bool false), .pl (.float .f64 0), .pl (.float .f64 0), .nils, .nils, .pl (.bool false), .pl (.float .f64 0), .pl (.float .f64 0), .nils, .nils, .pl (.float .f64 0)] [])⟩,
      ⟨none, none, .prim (.store 19 (.tmp 6) (.tmp 23))⟩,
      ⟨some 7, none, .prim (.mov (.const (Go.Value.bool Bool.false)))⟩])
    .ret)
    .skip)))
    (.seq (.ops [⟨some 24, none, .prim (.load 19 true (.tmp 3))⟩,
      ⟨none, none, .prim (.store 19 (.tmp 6) (.tmp 24))⟩,
      ⟨some 7, none, .prim (.mov (.const (Go.Value.bool Bool.true)))⟩])
    .ret)))
def o100 : List Tmp := [6]
def r100 : List RV := [.cell 6 19 true, .tmp 7]
theorem t100 : Text Tryz.prog 100 o100 c100 r100 25 := ⟨⟨Tryz.f100, _, by kernel_rfl, by kernel_rfl, rfl, by kernel_rfl, by kernel_rfl, rfl⟩, by kernel_rfl⟩

/-- sordine/req.read -/
def c101 : ACode :=
  (.seq (.ops [⟨some 2, none, .prim (.allocm [.pl (.string .empty), .pl (.int .i64 0), .pl (.int .i64 0), .pl (.string .empty), .pl (.int .u64 0), .pl (.int .u64 0), .pl (.int .i64 0), .nils, .pl (.bool false), .pl (.float .f64 0), .pl (.float .f64 0), .nils, .nils, .pl (.bool false), .pl (.float .f64 0), .pl (.float .f64 0), .nils, .nils, .pl (.float .f64 0)])⟩])
    (.seq (.ops [⟨some 8, none, .prim (.mov (.tmp 0))⟩,
      ⟨some 9, none, .call (.func 120) [(.tmp 8)]⟩,
      ⟨some 10, none, .prim (.convi .i64 (.tmp 9))⟩,
      ⟨some 11, none, .prim (.build [.pl (.string .empty), .pl (.int .i64 0), .pl (.int .i64 0), .pl (.string .empty), .pl (.int .u64 0), .pl (.int .u64 0), .pl (.int .i64 0), .nils, .pl (.bool false), .pl (.float .f64 0), .pl (.float .f64 0), .nils, .nils, .pl (.bool false), .pl (.float .f64 0), .pl (.float .f64 0), .nils, .nils, .pl (.float .f64 0)] [(1, 1, (.tmp 10))])⟩,
      ⟨some 3, none, .prim (.allocm [.pl (.string .empty), .pl (.int .i64 0), .pl (.int .i64 0), .pl (.string .empty), .pl (.int .u64 0), .pl (.int .u64 0), .pl (.int .i64 0), .nils, .pl (.bool false), .pl (.float .f64 0), .pl (.float .f64 0), .nils, .nils, .pl (.bool false), .pl (.float .f64 0), .pl (.float .f64 0), .nils, .nils, .pl (.float .f64 0)])⟩,
      ⟨none, none, .prim (.store 19 (.tmp 3) (.tmp 11))⟩])
    (.seq (.ops [⟨some 13, none, .prim (.fadr 1 (.tmp 3))⟩,
      ⟨some 14, none, .prim (.load 1 false (.tmp 13))⟩,
      ⟨some 15, none, .call (.func 42) [(.tmp 14)]⟩,
      ⟨some 12, none, .prim (.mov (.tmp 15))⟩,
      ⟨some 16, none, .prim (.extr 0 (.tmp 12))⟩,
      ⟨some 17, none, .prim (.extr 1 (.tmp 12))⟩,
      ⟨some 4, none, .prim (.mov (.tmp 16))⟩,
      ⟨some 5, none, .prim (.mov (.tmp 17))⟩])
    (.seq (.ops [⟨some 18, none, .prim (.mov (.tmp 0))⟩,
      ⟨some 19, none, .prim (.mov (.tmp 5))⟩,
      ⟨some 20, none, .call (.func 121) [(.tmp 18), (.tmp 19)]⟩])
    (.seq (.seq (.ops [⟨some 21, none, .prim (.mov (.tmp 4))⟩,
      ⟨some 22, none, .prim (.bin false .and (.tmp 21) (.const (Go.Value.int Go.IntKind.i64 1)))⟩,
      ⟨some 23, none, .prim (.bin false .gtr (.tmp 22) (.const (Go.Value.int Go.IntKind.i64 0)))⟩])
    (.cond (.tmp 23)
    (.ops [⟨some 24, none, .prim (.mov (.tmp 0))⟩,
      ⟨some 25, none, .call (.func 122) [(.tmp 24), (.const (Go.Value.int Go.IntKind.u64 2147483647))]⟩,
      ⟨some 26, none, .prim (.convi .i64 (.tmp 25))⟩,
      ⟨some 27, none, .prim (.fadr 2 (.tmp 3))⟩,
      ⟨none, none, .prim (.store 1 (.tmp 27) (.tmp 26))⟩])
    .skip))
    (.seq (.seq (.ops [⟨some 28, none, .prim (.mov (.tmp 4))⟩,
      ⟨some 29, none, .prim (.bin false .and (.tmp 28) (.const (Go.Value.int Go.IntKind.i64 2)))⟩,
      ⟨some 30, none, .prim (.bin false .gtr (.tmp 29) (.const (Go.Value.int Go.IntKind.i64 0)))⟩])
    (.cond (.tmp 30)
    (.ops [⟨some 31, none, .prim (.mov (.tmp 0))⟩,
      ⟨some 32, none, .call (.func 123) [(.tmp 31), (.const (Go.Value.int Go.IntKind.i64 16))]⟩,
      ⟨some 33, none, .prim (.fadr 3 (.tmp 3))⟩,
      ⟨none, none, .prim (.store 1 (.tmp 33) (.tmp 32))⟩])
    .skip))
    (.seq (.seq (.ops [⟨some 34, none, .prim (.mov (.tmp 4))⟩,
      ⟨some 35, none, .prim (.bin false .and (.tmp 34) (.const (Go.Value.int Go.IntKind.i64 4)))⟩,
      ⟨some 36, none, .prim (.bin false .gtr (.tmp 35) (.const (Go.Value.int Go.IntKind.i64 0)))⟩])
    (.cond (.tmp 36)
    (.ops [⟨some 37, none, .prim (.mov (.tmp 0))⟩,
      ⟨some 38, none, .call (.func 122) [(.tmp 37), (.const (Go.Value.int Go.IntKind.u64 1099511627776))]⟩,
      ⟨some 39, none, .prim (.mov (.tmp 0))⟩,
      ⟨some 40, none, .call (.func 122) [(.tmp 39), (.const (Go.Value.int Go.IntKind.u64 1099511627776))]⟩,
      ⟨some 41, none, .prim (.fadr 4 (.tmp 3))⟩,
      ⟨none, none, .prim (.store 1 (.tmp 41) (.tmp 38))⟩,
      ⟨some 42, none, .prim (.fadr 5 (.tmp 3))⟩,
      ⟨none, none, .prim (.store 1 (.tmp 42) (.tmp 40))⟩])
    .skip))
    (.seq (.seq (.ops [⟨some 43, none, .prim (.mov (.tmp 4))⟩,
      ⟨some 44, none, .prim (.bin false .and (.tmp 43) (.const (Go.Value.int Go.IntKind.i64 8)))⟩,
      ⟨some 45, none, .prim (.bin false .gtr (.tmp 44) (.const (Go.Value.int Go.IntKind.i64 0)))⟩])
    (.cond (.tmp 45)
    (.ops [⟨some 46, none, .prim (.mov (.tmp 0))⟩,
      ⟨some 47, none, .call (.func 120) [(.tmp 46)]⟩,
      ⟨some 48, none, .prim (.convi .i64 (.tmp 47))⟩,
      ⟨some 49, none, .prim (.fadr 6 (.tmp 3))⟩,
      ⟨none, none, .prim (.store 1 (.tmp 49) (.tmp 48))⟩])
    .skip))
    (.seq (.seq (.ops [⟨some 50, none, .prim (.mov (.tmp 4))⟩,
      ⟨some 51, none, .prim (.bin false .and (.tmp 50) (.const (Go.Value.int Go.IntKind.i64 16)))⟩,
      ⟨some 52, none, .prim (.bin false .gtr (.tmp 51) (.const (Go.Value.int Go.IntKind.i64 0)))⟩])
    (.cond (.tmp 52)
    (.ops [⟨some 53, none, .prim (.mov (.tmp 0))⟩,
      ⟨some 54, none, .call (.func 124) [(.tmp 53), (.func 125)]⟩,
      ⟨some 55, none, .prim (.fadr 7 (.tmp 3))⟩,
      ⟨none, none, .prim (.store 1 (.tmp 55) (.tmp 54))⟩])
    .skip))
    (.seq (.seq (.ops [⟨some 56, none, .prim (.mov (.tmp 4))⟩,
      ⟨some 57, none, .prim (.bin false .and (.tmp 56) (.const (Go.Value.int Go.IntKind.i64 64)))⟩,
      ⟨some 58, none, .prim (.bin false .gtr (.tmp 57) (.const (Go.Value.int Go.IntKind.i64 0)))⟩])
    (.cond (.tmp 58)
    (.ops [⟨some 59, none, .prim (.mov (.tmp 0))⟩,
      ⟨some 60, none, .call (.func 126) [(.tmp 59), (.func 127)]⟩,
      ⟨some 61, none, .prim (.fadr 8 (.tmp 3))⟩,
      ⟨none, none, .prim (.store 3 (.tmp 61) (.tmp 60))⟩])
    .skip))
    (.seq (.seq (.ops [⟨some 62, none, .prim (.mov (.tmp 4))⟩,
      ⟨some 63, none, .prim (.bin false .and (.tmp 62) (.const (Go.Value.int Go.IntKind.i64 128)))⟩,
      ⟨some 64, none, .prim (.bin false .gtr (.tmp 63) (.const (Go.Value.int Go.IntKind.i64 0)))⟩])
    (.cond (.tmp 64)
    (.ops [⟨some 65, none, .prim (.mov (.tmp 0))⟩,
      ⟨some 66, none, .call (.func 128) [(.tmp 65), (.func 129)]⟩,
      ⟨some 67, none, .prim (.fadr 11 (.tmp 3))⟩,
      ⟨none, none, .prim (.store 6 (.tmp 67) (.tmp 66))⟩])
    .skip))
    (.seq (.seq (.ops [⟨some 68, none, .prim (.mov (.tmp 4))⟩,
      ⟨some 69, none, .prim (.bin false .and (.tmp 68) (.const (Go.Value.int Go.IntKind.i64 256)))⟩,
      ⟨some 70, none, .prim (.bin false .gtr (.tmp 69) (.const (Go.Value.int Go.IntKind.i64 0)))⟩])
    (.cond (.tmp 70)
    (.ops [⟨some 71, none, .prim (.mov (.tmp 0))⟩,
      ⟨some 72, none, .call (.func 130) [(.tmp 71), (.func 131)]⟩,
      ⟨some 73, none, .prim (.fadr 17 (.tmp 3))⟩,
      ⟨none, none, .prim (.store 1 (.tmp 73) (.tmp 72))⟩])
    .skip))
    (.seq (.seq (.ops [⟨some 74, none, .prim (.mov (.tmp 4))⟩,
      ⟨some 75, none, .prim (.bin false .and (.tmp 74) (.const (Go.Value.int Go.IntKind.i64 512)))⟩,
      ⟨some 76, none, .prim (.bin false .gtr (.tmp 75) (.const (Go.Value.int Go.IntKind.i64 0)))⟩])
    (.cond (.tmp 76)
    (.seq (.ops [⟨some 78, none, .prim (.mov (.tmp 0))⟩,
      ⟨some 79, none, .call (.func 133) [(.tmp 78)]⟩,
      ⟨some 80, none, .call (.func 132) [(.tmp 79)]⟩,
      ⟨some 77, none, .prim (.mov (.tmp 80))⟩,
      ⟨some 81, none, .prim (.extr 0 (.tmp 77))⟩,
      ⟨some 82, none, .prim (.extr 1 (.tmp 77))⟩,
      ⟨some 6, none, .prim (.mov (.tmp 81))⟩,
      ⟨some 7, none, .prim (.mov (.tmp 82))⟩])
    (.seq (.ops [⟨some 83, none, .prim (.mov (.tmp 0))⟩,
      ⟨some 84, none, .prim (.mov (.tmp 7))⟩,
      ⟨some 85, none, .call (.func 121) [(.tmp 83), (.tmp 84)]⟩])
    (.ops [⟨some 86, none, .prim (.mov (.tmp 6))⟩,
      ⟨some 87, none, .prim (.fadr 18 (.tmp 3))⟩,
      ⟨none, none, .prim (.store 1 (.tmp 87) (.tmp 86))⟩])))
    .skip))
    (.seq (.ops [⟨some 88, none, .prim (.mov (.tmp 0))⟩,
      ⟨some 89, none, .prim (.load 19 true (.tmp 3))⟩,
      ⟨some 90, none, .call (.func 41) [(.tmp 89)]⟩,
      ⟨some 91, none, .call (.func 121) [(.tmp 88), (.tmp 90)]⟩])
    (.seq (.ops [⟨some 92, none, .prim (.load 19 true (.tmp 3))⟩,
      ⟨none, none, .prim (.store 19 (.tmp 2) (.tmp 92))⟩])
    .ret)))))))))))))))
def o101 : List Tmp := [2, 3]
def r101 : List RV := [.cell 2 19 true]
theorem t101 : Text Tryz.prog 101 o101 c101 r101 93 := ⟨⟨Tryz.f101, _, by kernel_rfl, by kernel_rfl, rfl, by kernel_rfl, by kernel_rfl, rfl⟩, by kernel_rfl⟩

/-- cmp.Less[int] -/
def c102 : ACode :=
  (.seq (.ops [⟨some 4, none, .prim (.mov (.const (Go.Value.bool Bool.false)))⟩])
    (.seq (.ops [⟨some 5, none, .prim (.mov (.tmp 0))⟩,
      ⟨some 6, none, .call (.func 134) [(.tmp 5)]⟩,
      ⟨some 7, none, .prim (.mov (.tmp 6))⟩,
      ⟨some 8, (some (7, true)), .prim (.mov (.tmp 1))⟩,
      ⟨some 9, (some (7, true)), .call (.func 134) [(.tmp 8)]⟩,
      ⟨some 10, (some (7, true)), .prim (.un .not (.tmp 9))⟩,
      ⟨some 11, none, .prim (.pick (.tmp 7) (.tmp 10) (.const (Go.Value.bool Bool.false)))⟩,
      ⟨some 12, none, .prim (.mov (.tmp 11))⟩,
      ⟨some 13, (some (12, false)), .prim (.mov (.tmp 0))⟩,
      ⟨some 14, (some (12, false)), .prim (.mov (.tmp 1))⟩,
      ⟨some 15, (some (12, false)), .prim (.bin false .lss (.tmp 13) (.tmp 14))⟩,
      ⟨some 16, none, .prim (.pick (.tmp 12) (.const (Go.Value.bool Bool.true)) (.tmp 15))⟩,
      ⟨some 4, none, .prim (.mov (.tmp 16))⟩])
    .ret))
def o102 : List Tmp := []
def r102 : List RV := [.tmp 4]
theorem t102 : Text Tryz.prog 102 o102 c102 r102 17 := ⟨⟨Tryz.f102, _, by kernel_rfl, by kernel_rfl, rfl, by kernel_rfl, by kernel_rfl, rfl⟩, by kernel_rfl⟩

/-- slices.isNaN[int] -/
def c103 : ACode :=
  (.seq (.ops [⟨some 2, none, .prim (.mov (.const (Go.Value.bool Bool.false)))⟩])
    (.seq (.ops [⟨some 3, none, .prim (.mov (.tmp 0))⟩,
      ⟨some 4, none, .prim (.mov (.tmp 0))⟩,
      ⟨some 5, none, .prim (.bin false .neq (.tmp 3) (.tmp 4))⟩,
      ⟨some 2, none, .prim (.mov (.tmp 5))⟩])
    .ret))
def o103 : List Tmp := []
def r103 : List RV := [.tmp 2]
theorem t103 : Text Tryz.prog 103 o103 c103 r103 6 := ⟨⟨Tryz.f103, _, by kernel_rfl, by kernel_rfl, rfl, by kernel_rfl, by kernel_rfl, rfl⟩, by kernel_rfl⟩

/-- sordine/rows.kept -/
def c104 : ACode :=
  (.seq (.ops [⟨some 3, none, .prim (.boxr (.tmp 1))⟩,
      ⟨some 4, none, .prim (.mov (.const (Go.Value.slice Option.none 0 0)))⟩])
    (.seq (.ops [⟨some 5, none, .prim (.mov (.tmp 0))⟩,
      ⟨some 6, none, .call (.func 136) [(.tmp 5)]⟩,
      ⟨some 7, none, .prim (.mkfn 137 [] [(.tmp 3)])⟩,
      ⟨some 8, none, .call (.func 135) [(.tmp 6), (.tmp 7)]⟩,
      ⟨some 4, none, .prim (.mov (.tmp 8))⟩])
    (.ghost (.shut 4) .ret)))
def o104 : List Tmp := []
def r104 : List RV := [.tmp 4]
theorem t104 : Text Tryz.prog 104 o104 c104 r104 9 := ⟨⟨Tryz.f104, _, by kernel_rfl, by kernel_rfl, rfl, by kernel_rfl, by kernel_rfl, rfl⟩, by kernel_rfl⟩

/-- sordine/rows.Not$1 -/
def c105 : ACode :=
  (.seq (.ops [⟨some 3, none, .prim (.mov (.const (Go.Value.bool Bool.false)))⟩])
    (.seq (.ops [⟨some 4, none, .prim (.load 1 false (.tmp 1))⟩,
      ⟨some 5, none, .prim (.mov (.tmp 0))⟩,
      ⟨some 6, none, .call (.func 106) [(.tmp 4), (.tmp 5)]⟩,
      ⟨some 7, none, .prim (.un .not (.tmp 6))⟩,
      ⟨some 3, none, .prim (.mov (.tmp 7))⟩])
    .ret))
def o105 : List Tmp := []
def r105 : List RV := [.tmp 3]
theorem t105 : Text Tryz.prog 105 o105 c105 r105 8 := ⟨⟨Tryz.f105, _, by kernel_rfl, by kernel_rfl, rfl, by kernel_rfl, by kernel_rfl, rfl⟩, by kernel_rfl⟩

/-- sordine/rows.Has -/
def c106 : ACode :=
  (.seq (.ops [⟨some 4, none, .prim (.mov (.const (Go.Value.bool Bool.false)))⟩])
    (.seq (.ops [⟨some 5, none, .prim (.mov (.tmp 0))⟩,
      ⟨some 6, none, .prim (.mov (.tmp 1))⟩,
      ⟨some 7, none, .call (.func 138) [(.tmp 5), (.tmp 6)]⟩,
      ⟨some 4, none, .prim (.mov (.tmp 7))⟩])
    .ret))
def o106 : List Tmp := []
def r106 : List RV := [.tmp 4]
theorem t106 : Text Tryz.prog 106 o106 c106 r106 8 := ⟨⟨Tryz.f106, _, by kernel_rfl, by kernel_rfl, rfl, by kernel_rfl, by kernel_rfl, rfl⟩, by kernel_rfl⟩

/-- slices.siftDownOrdered[string] -/
def c107 : ACode :=
  (.seq (.ops [⟨some 10, none, .prim (.mov (.tmp 1))⟩,
      ⟨some 8, none, .prim (.mov (.tmp 10))⟩])
    (.block 0 (.loop [1, 4, 5, 6, 7, 9, 10, 11, 12, 13, 14, 15, 16, 17, 18, 19, 20, 21, 22, 23, 24, 25, 26, 27, 28, 29, 30, 31, 32, 33, 34, 35, 36, 37, 38, 39, 40, 41, 42, 43, 44, 45, 46, 47, 48, 49, 50, 51, 52, 53, 54, 55, 56, 57, 58, 59, 60, 61, 62, 63, 64, 65, 66, 67, 68, 69, 70, 71, 72, 73, 74, 75] (.block 1 (.seq (.ops [⟨some 11, none, .prim (.mov (.tmp 8))⟩,
      ⟨some 12, none, .prim (.bin false .mul (.const (Go.Value.int Go.IntKind.i64 2)) (.tmp 11))⟩,
      ⟨some 13, none, .prim (.bin false .add (.tmp 12) (.const (Go.Value.int Go.IntKind.i64 1)))⟩,
      ⟨some 9, none, .prim (.mov (.tmp 13))⟩])
    (.seq (.seq (.ops [⟨some 14, none, .prim (.mov (.tmp 9))⟩,
      ⟨some 15, none, .prim (.mov (.tmp 2))⟩,
      ⟨some 16, none, .prim (.bin false .geq (.tmp 14) (.tmp 15))⟩])
    (.cond (.tmp 16)
    (.exit 0)
    .skip))
    (.seq (.seq (.draw [⟨⟨some 17, none, .prim (.mov (.tmp 9))⟩, [], false, 0, 0⟩,
      ⟨⟨some 18, none, .prim (.bin false .add (.tmp 17) (.const (Go.Value.int Go.IntKind.i64 1)))⟩, [0], false, 0, 0⟩,
      ⟨⟨some 19, none, .prim (.mov (.tmp 2))⟩, [], false, 0, 0⟩,
      ⟨⟨some 20, none, .prim (.bin false .lss (.tmp 18) (.tmp 19))⟩, [0, 1, 2], false, 0, 0⟩,
      ⟨⟨some 21, none, .prim (.mov (.tmp 20))⟩, [0, 1, 2, 3], false, 0, 0⟩,
      ⟨⟨some 22, (some (21, true)), .prim (.mov (.tmp 0))⟩, [0, 1, 2, 3, 4], false, 0, 0⟩,
      ⟨⟨some 23, (some (21, true)), .prim (.mov (.tmp 3))⟩, [0, 1, 2, 3, 4], false, 0, 0⟩,
      ⟨⟨some 24, (some (21, true)), .prim (.mov (.tmp 9))⟩, [0, 1, 2, 3, 4], false, 0, 0⟩,
      ⟨⟨some 25, (some (21, true)), .prim (.bin false .add (.tmp 23) (.tmp 24))⟩, [0, 1, 2, 3, 4, 6, 7], false, 0, 0⟩,
      ⟨⟨some 26, (some (21, true)), .prim (.iadrs 1 (.tmp 22) (.tmp 25))⟩, [0, 1, 2, 3, 4, 5, 6, 7, 8], false, 0, 0⟩,
      ⟨⟨some 27, (some (21, true)), .prim (.load 1 false (.tmp 26))⟩, [0, 1, 2, 3, 4, 5, 6, 7, 8, 9], false, 0, 0⟩,
      ⟨⟨some 28, (some (21, true)), .prim (.mov (.tmp 0))⟩, [0, 1, 2, 3, 4], false, 0, 0⟩,
      ⟨⟨some 29, (some (21, true)), .prim (.mov (.tmp 3))⟩, [0, 1, 2, 3, 4], false, 0, 0⟩,
      ⟨⟨some 30, (some (21, true)), .prim (.mov (.tmp 9))⟩, [0, 1, 2, 3, 4], false, 0, 0⟩,
      ⟨⟨some 31, (some (21, true)), .prim (.bin false .add (.tmp 29) (.tmp 30))⟩, [0, 1, 2, 3, 4, 12, 13], false, 0, 0⟩,
      ⟨⟨some 32, (some (21, true)), .prim (.bin false .add (.tmp 31) (.const (Go.Value.int Go.IntKind.i64 1)))⟩, [0, 1, 2, 3, 4, 12, 13, 14], false, 0, 0⟩,
      ⟨⟨some 33, (some (21, true)), .prim (.iadrs 1 (.tmp 28) (.tmp 32))⟩, [0, 1, 2, 3, 4, 11, 12, 13, 14, 15], false, 0, 0⟩,
      ⟨⟨some 34, (some (21, true)), .prim (.load 1 false (.tmp 33))⟩, [0, 1, 2, 3, 4, 11, 12, 13, 14, 15, 16], false, 0, 0⟩,
      ⟨⟨some 35, (some (21, true)), .call (.func 86) [(.tmp 27), (.tmp 34)]⟩, [0, 1, 2, 3, 4, 5, 6, 7, 8, 9, 10, 11, 12, 13, 14, 15, 16, 17], true, 0, 0⟩,
      ⟨⟨some 36, none, .prim (.pick (.tmp 21) (.tmp 35) (.const (Go.Value.bool Bool.false)))⟩, [0, 1, 2, 3, 4, 5, 6, 7, 8, 9, 10, 11, 12, 13, 14, 15, 16, 17, 18], false, 1, 1⟩])
    (.cond (.tmp 36)
    (.ops [⟨some 37, none, .prim (.mov (.tmp 9))⟩,
      ⟨some 38, none, .prim (.bin false .add (.tmp 37) (.const (Go.Value.int Go.IntKind.i64 1)))⟩,
      ⟨some 9, none, .prim (.mov (.tmp 38))⟩])
    .skip))
    (.seq (.seq (.draw [⟨⟨some 39, none, .prim (.mov (.tmp 0))⟩, [], false, 0, 0⟩,
      ⟨⟨some 40, none, .prim (.mov (.tmp 3))⟩, [], false, 0, 0⟩,
      ⟨⟨some 41, none, .prim (.mov (.tmp 8))⟩, [], false, 0, 0⟩,
      ⟨⟨some 42, none, .prim (.bin false .add (.tmp 40) (.tmp 41))⟩, [1, 2], false, 0, 0⟩,
      ⟨⟨some 43, none, .prim (.iadrs 1 (.tmp 39) (.tmp 42))⟩, [0, 1, 2, 3], false, 0, 0⟩,
      ⟨⟨some 44, none, .prim (.load 1 false (.tmp 43))⟩, [0, 1, 2, 3, 4], false, 0, 0⟩,
      ⟨⟨some 45, none, .prim (.mov (.tmp 0))⟩, [], false, 0, 0⟩,
      ⟨⟨some 46, none, .prim (.mov (.tmp 3))⟩, [], false, 0, 0⟩,
      ⟨⟨some 47, none, .prim (.mov (.tmp 9))⟩, [], false, 0, 0⟩,
      ⟨⟨some 48, none, .prim (.bin false .add (.tmp 46) (.tmp 47))⟩, [7, 8], false, 0, 0⟩,
      ⟨⟨some 49, none, .prim (.iadrs 1 (.tmp 45) (.tmp 48))⟩, [6, 7, 8, 9], false, 0, 0⟩,
      ⟨⟨some 50, none, .prim (.load 1 false (.tmp 49))⟩, [6, 7, 8, 9, 10], false, 0, 0⟩,
      ⟨⟨some 51, none, .call (.func 86) [(.tmp 44), (.tmp 50)]⟩, [0, 1, 2, 3, 4, 5, 6, 7, 8, 9, 10, 11], true, 0, 0⟩,
      ⟨⟨some 52, none, .prim (.un .not (.tmp 51))⟩, [0, 1, 2, 3, 4, 5, 6, 7, 8, 9, 10, 11, 12], false, 1, 1⟩])
    (.cond (.tmp 52)
    .ret
    .skip))
    (.seq (.draw [⟨⟨some 53, none, .prim (.mov (.tmp 0))⟩, [], false, 0, 0⟩,
      ⟨⟨some 54, none, .prim (.mov (.tmp 3))⟩, [], false, 0, 0⟩,
      ⟨⟨some 55, none, .prim (.mov (.tmp 8))⟩, [], false, 0, 0⟩,
      ⟨⟨some 56, none, .prim (.bin false .add (.tmp 54) (.tmp 55))⟩, [1, 2], false, 0, 0⟩,
      ⟨⟨some 57, none, .prim (.mov (.tmp 0))⟩, [], false, 0, 1⟩,
      ⟨⟨some 58, none, .prim (.mov (.tmp 3))⟩, [], false, 0, 1⟩,
      ⟨⟨some 59, none, .prim (.mov (.tmp 9))⟩, [], false, 0, 1⟩,
      ⟨⟨some 60, none, .prim (.bin false .add (.tmp 58) (.tmp 59))⟩, [5, 6], false, 0, 1⟩,
      ⟨⟨some 61, none, .prim (.mov (.tmp 0))⟩, [], false, 0, 0⟩,
      ⟨⟨some 62, none, .prim (.mov (.tmp 3))⟩, [], false, 0, 0⟩,
      ⟨⟨some 63, none, .prim (.mov (.tmp 9))⟩, [], false, 0, 0⟩,
      ⟨⟨some 64, none, .prim (.bin false .add (.tmp 62) (.tmp 63))⟩, [9, 10], false, 0, 0⟩,
      ⟨⟨some 65, none, .prim (.iadrs 1 (.tmp 61) (.tmp 64))⟩, [8, 9, 10, 11], false, 0, 0⟩,
      ⟨⟨some 66, none, .prim (.load 1 false (.tmp 65))⟩, [8, 9, 10, 11, 12], false, 0, 0⟩,
      ⟨⟨some 67, none, .prim (.mov (.tmp 0))⟩, [], false, 0, 0⟩,
      ⟨⟨some 68, none, .prim (.mov (.tmp 3))⟩, [], false, 0, 0⟩,
      ⟨⟨some 69, none, .prim (.mov (.tmp 8))⟩, [], false, 0, 0⟩,
      ⟨⟨some 70, none, .prim (.bin false .add (.tmp 68) (.tmp 69))⟩, [15, 16], false, 0, 0⟩,
      ⟨⟨some 71, none, .prim (.iadrs 1 (.tmp 67) (.tmp 70))⟩, [14, 15, 16, 17], false, 0, 0⟩,
      ⟨⟨some 72, none, .prim (.load 1 false (.tmp 71))⟩, [14, 15, 16, 17, 18], false, 0, 0⟩,
      ⟨⟨some 73, none, .prim (.iadrs 1 (.tmp 53) (.tmp 56))⟩, [0, 1, 2, 3, 8, 9, 10, 11, 12, 13, 14, 15, 16, 17, 18, 19], false, 0, 0⟩,
      ⟨⟨none, none, .prim (.store 1 (.tmp 73) (.tmp 66))⟩, [0, 1, 2, 3, 8, 9, 10, 11, 12, 13, 14, 15, 16, 17, 18, 19, 20], true, 0, 0⟩,
      ⟨⟨some 74, none, .prim (.iadrs 1 (.tmp 57) (.tmp 60))⟩, [0, 1, 2, 3, 4, 5, 6, 7, 8, 9, 10, 11, 12, 13, 14, 15, 16, 17, 18, 19, 20, 21], false, 1, 1⟩,
      ⟨⟨none, none, .prim (.store 1 (.tmp 74) (.tmp 72))⟩, [0, 1, 2, 3, 4, 5, 6, 7, 8, 9, 10, 11, 12, 13, 14, 15, 16, 17, 18, 19, 20, 21, 22], true, 0, 0⟩])
    (.ops [⟨some 75, none, .prim (.mov (.tmp 9))⟩,
      ⟨some 8, none, .prim (.mov (.tmp 75))⟩]))))))))))
def o107 : List Tmp := []
def r107 : List RV := []
theorem t107 : Text Tryz.prog 107 o107 c107 r107 76 := ⟨⟨Tryz.f107, _, by kernel_rfl, by kernel_rfl, rfl, by kernel_rfl, by kernel_rfl, rfl⟩, by kernel_rfl⟩

/-- slices.nextPowerOfTwo -/
def c108 : ACode :=
  (.seq (.ops [⟨some 2, none, .prim (.mov (.const (Go.Value.int Go.IntKind.u64 0)))⟩])
    (.seq (.ops [⟨some 3, none, .prim (.mov (.tmp 0))⟩,
      ⟨some 4, none, .prim (.convi .u64 (.tmp 3))⟩,
      ⟨some 5, none, .call (.func 65) [(.tmp 4)]⟩,
      ⟨some 6, none, .prim (.bin false .shl (.const (Go.Value.int Go.IntKind.u64 1)) (.tmp 5))⟩,
      ⟨some 2, none, .prim (.mov (.tmp 6))⟩])
    .ret))
def o108 : List Tmp := []
def r108 : List RV := [.tmp 2]
theorem t108 : Text Tryz.prog 108 o108 c108 r108 7 := ⟨⟨Tryz.f108, _, by kernel_rfl, by kernel_rfl, rfl, by kernel_rfl, by kernel_rfl, rfl⟩, by kernel_rfl⟩

/-- (*slices.xorshift).Next -/
def c109 : ACode :=
  (.seq (.ops [⟨some 2, none, .prim (.mov (.const (Go.Value.int Go.IntKind.u64 0)))⟩])
    (.seq (.draw [⟨⟨some 3, none, .prim (.mov (.tmp 0))⟩, [], false, 0, 0⟩,
      ⟨⟨some 4, none, .prim (.nilc (.tmp 3))⟩, [0], false, 0, 0⟩,
      ⟨⟨some 5, none, .prim (.load 1 false (.tmp 4))⟩, [0, 1], false, 0, 0⟩,
      ⟨⟨some 6, none, .prim (.mov (.tmp 0))⟩, [], false, 0, 0⟩,
      ⟨⟨some 7, none, .prim (.nilc (.tmp 6))⟩, [3], false, 0, 0⟩,
      ⟨⟨some 8, none, .prim (.load 1 false (.tmp 7))⟩, [3, 4], false, 0, 0⟩,
      ⟨⟨some 9, none, .prim (.bin false .shl (.tmp 8) (.const (Go.Value.int Go.IntKind.u64 13)))⟩, [3, 4, 5], false, 0, 0⟩,
      ⟨⟨some 10, none, .prim (.bin false .xor (.tmp 5) (.tmp 9))⟩, [0, 1, 2, 3, 4, 5, 6], false, 0, 0⟩,
      ⟨⟨some 11, none, .prim (.nilc (.tmp 3))⟩, [0, 1, 2, 3, 4, 5, 6, 7], false, 0, 0⟩,
      ⟨⟨none, none, .prim (.store 1 (.tmp 11) (.tmp 10))⟩, [0, 1, 2, 3, 4, 5, 6, 7, 8], true, 0, 0⟩])
    (.seq (.draw [⟨⟨some 12, none, .prim (.mov (.tmp 0))⟩, [], false, 0, 0⟩,
      ⟨⟨some 13, none, .prim (.nilc (.tmp 12))⟩, [0], false, 0, 0⟩,
      ⟨⟨some 14, none, .prim (.load 1 false (.tmp 13))⟩, [0, 1], false, 0, 0⟩,
      ⟨⟨some 15, none, .prim (.mov (.tmp 0))⟩, [], false, 0, 0⟩,
      ⟨⟨some 16, none, .prim (.nilc (.tmp 15))⟩, [3], false, 0, 0⟩,
      ⟨⟨some 17, none, .prim (.load 1 false (.tmp 16))⟩, [3, 4], false, 0, 0⟩,
      ⟨⟨some 18, none, .prim (.bin false .shr (.tmp 17) (.const (Go.Value.int Go.IntKind.u64 7)))⟩, [3, 4, 5], false, 0, 0⟩,
      ⟨⟨some 19, none, .prim (.bin false .xor (.tmp 14) (.tmp 18))⟩, [0, 1, 2, 3, 4, 5, 6], false, 0, 0⟩,
      ⟨⟨some 20, none, .prim (.nilc (.tmp 12))⟩, [0, 1, 2, 3, 4, 5, 6, 7], false, 0, 0⟩,
      ⟨⟨none, none, .prim (.store 1 (.tmp 20) (.tmp 19))⟩, [0, 1, 2, 3, 4, 5, 6, 7, 8], true, 0, 0⟩])
    (.seq (.draw [⟨⟨some 21, none, .prim (.mov (.tmp 0))⟩, [], false, 0, 0⟩,
      ⟨⟨some 22, none, .prim (.nilc (.tmp 21))⟩, [0], false, 0, 0⟩,
      ⟨⟨some 23, none, .prim (.load 1 false (.tmp 22))⟩, [0, 1], false, 0, 0⟩,
      ⟨⟨some 24, none, .prim (.mov (.tmp 0))⟩, [], false, 0, 0⟩,
      ⟨⟨some 25, none, .prim (.nilc (.tmp 24))⟩, [3], false, 0, 0⟩,
      ⟨⟨some 26, none, .prim (.load 1 false (.tmp 25))⟩, [3, 4], false, 0, 0⟩,
      ⟨⟨some 27, none, .prim (.bin false .shl (.tmp 26) (.const (Go.Value.int Go.IntKind.u64 17)))⟩, [3, 4, 5], false, 0, 0⟩,
      ⟨⟨some 28, none, .prim (.bin false .xor (.tmp 23) (.tmp 27))⟩, [0, 1, 2, 3, 4, 5, 6], false, 0, 0⟩,
      ⟨⟨some 29, none, .prim (.nilc (.tmp 21))⟩, [0, 1, 2, 3, 4, 5, 6, 7], false, 0, 0⟩,
      ⟨⟨none, none, .prim (.store 1 (.tmp 29) (.tmp 28))⟩, [0, 1, 2, 3, 4, 5, 6, 7, 8], true, 0, 0⟩])
    (.seq (.ops [⟨some 30, none, .prim (.mov (.tmp 0))⟩,
      ⟨some 31, none, .prim (.nilc (.tmp 30))⟩,
      ⟨some 32, none, .prim (.load 1 false (.tmp 31))⟩,
      ⟨some 2, none, .prim (.mov (.tmp 32))⟩])
    .ret)))))
def o109 : List Tmp := []
def r109 : List RV := [.tmp 2]
theorem t109 : Text Tryz.prog 109 o109 c109 r109 33 := ⟨⟨Tryz.f109, _, by kernel_rfl, by kernel_rfl, rfl, by kernel_rfl, by kernel_rfl, rfl⟩, by kernel_rfl⟩

/-- slices.medianAdjacentOrdered[string] -/
def c110 : ACode :=
  (.seq (.ops [⟨some 6, none, .prim (.mov (.const (Go.Value.int Go.IntKind.i64 0)))⟩])
    (.seq (.ops [⟨some 7, none, .prim (.mov (.tmp 0))⟩,
      ⟨some 8, none, .prim (.mov (.tmp 1))⟩,
      ⟨some 9, none, .prim (.bin false .sub (.tmp 8) (.const (Go.Value.int Go.IntKind.i64 1)))⟩,
      ⟨some 10, none, .prim (.mov (.tmp 1))⟩,
      ⟨some 11, none, .prim (.mov (.tmp 1))⟩,
      ⟨some 12, none, .prim (.bin false .add (.tmp 11) (.const (Go.Value.int Go.IntKind.i64 1)))⟩,
      ⟨some 13, none, .prim (.mov (.tmp 2))⟩,
      ⟨some 14, none, .call (.func 111) [(.tmp 7), (.tmp 9), (.tmp 10), (.tmp 12), (.tmp 13)]⟩,
      ⟨some 6, none, .prim (.mov (.tmp 14))⟩])
    .ret))
def o110 : List Tmp := []
def r110 : List RV := [.tmp 6]
theorem t110 : Text Tryz.prog 110 o110 c110 r110 15 := ⟨⟨Tryz.f110, _, by kernel_rfl, by kernel_rfl, rfl, by kernel_rfl, by kernel_rfl, rfl⟩, by kernel_rfl⟩

/-- slices.medianOrdered[string] -/
def c111 : ACode :=
  (.seq (.ops [⟨some 10, none, .prim (.mov (.const (Go.Value.int Go.IntKind.i64 0)))⟩])
    (.seq (.ops [⟨some 12, none, .prim (.mov (.tmp 0))⟩,
      ⟨some 13, none, .prim (.mov (.tmp 1))⟩,
      ⟨some 14, none, .prim (.mov (.tmp 2))⟩,
      ⟨some 15, none, .prim (.mov (.tmp 4))⟩,
      ⟨some 16, none, .call (.func 139) [(.tmp 12), (.tmp 13), (.tmp 14), (.tmp 15)]⟩,
      ⟨some 11, none, .prim (.mov (.tmp 16))⟩,
      ⟨some 17, none, .prim (.extr 0 (.tmp 11))⟩,
      ⟨some 18, none, .prim (.extr 1 (.tmp 11))⟩,
      ⟨some 1, none, .prim (.mov (.tmp 17))⟩,
      ⟨some 2, none, .prim (.mov (.tmp 18))⟩])
    (.seq (.ops [⟨some 20, none, .prim (.mov (.tmp 0))⟩,
      ⟨some 21, none, .prim (.mov (.tmp 2))⟩,
      ⟨some 22, none, .prim (.mov (.tmp 3))⟩,
      ⟨some 23, none, .prim (.mov (.tmp 4))⟩,
      ⟨some 24, none, .call (.func 139) [(.tmp 20), (.tmp 21), (.tmp 22), (.tmp 23)]⟩,
      ⟨some 19, none, .prim (.mov (.tmp 24))⟩,
      ⟨some 25, none, .prim (.extr 0 (.tmp 19))⟩,
      ⟨some 26, none, .prim (.extr 1 (.tmp 19))⟩,
      ⟨some 2, none, .prim (.mov (.tmp 25))⟩,
      ⟨some 3, none, .prim (.mov (.tmp 26))⟩])
    (.seq (.ops [⟨some 28, none, .prim (.mov (.tmp 0))⟩,
      ⟨some 29, none, .prim (.mov (.tmp 1))⟩,
      ⟨some 30, none, .prim (.mov (.tmp 2))⟩,
      ⟨some 31, none, .prim (.mov (.tmp 4))⟩,
      ⟨some 32, none, .call (.func 139) [(.tmp 28), (.tmp 29), (.tmp 30), (.tmp 31)]⟩,
      ⟨some 27, none, .prim (.mov (.tmp 32))⟩,
      ⟨some 33, none, .prim (.extr 0 (.tmp 27))⟩,
      ⟨some 34, none, .prim (.extr 1 (.tmp 27))⟩,
      ⟨some 1, none, .prim (.mov (.tmp 33))⟩,
      ⟨some 2, none, .prim (.mov (.tmp 34))⟩])
    (.seq (.ops [⟨some 35, none, .prim (.mov (.tmp 2))⟩,
      ⟨some 10, none, .prim (.mov (.tmp 35))⟩])
    .ret)))))
def o111 : List Tmp := []
def r111 : List RV := [.tmp 10]
theorem t111 : Text Tryz.prog 111 o111 c111 r111 36 := ⟨⟨Tryz.f111, _, by kernel_rfl, by kernel_rfl, rfl, by kernel_rfl, by kernel_rfl, rfl⟩, by kernel_rfl⟩

/-- cmp.isNaN[string] -/
def c112 : ACode :=
  (.seq (.ops [⟨some 2, none, .prim (.mov (.const (Go.Value.bool Bool.false)))⟩])
    (.seq (.ops [⟨some 3, none, .prim (.mov (.tmp 0))⟩,
      ⟨some 4, none, .prim (.mov (.tmp 0))⟩,
      ⟨some 5, none, .prim (.bin false .neq (.tmp 3) (.tmp 4))⟩,
      ⟨some 2, none, .prim (.mov (.tmp 5))⟩])
    .ret))
def o112 : List Tmp := []
def r112 : List RV := [.tmp 2]
theorem t112 : Text Tryz.prog 112 o112 c112 r112 6 := ⟨⟨Tryz.f112, _, by kernel_rfl, by kernel_rfl, rfl, by kernel_rfl, by kernel_rfl, rfl⟩, by kernel_rfl⟩

/-- sordine/match.like -/
def c113 : ACode :=
  (.seq (.ops [⟨some 1, none, .prim (.boxr (.tmp 0))⟩,
      ⟨some 2, none, .prim (.mov (.const (Go.Value.bool Bool.false)))⟩])
    (.seq (.ops [⟨some 3, none, .prim (.fadr 0 (.tmp 1))⟩,
      ⟨some 4, none, .prim (.load 1 false (.tmp 3))⟩,
      ⟨some 5, none, .prim (.bin false .eql (.tmp 4) (.const (Go.Value.int Go.IntKind.i64 3)))⟩,
      ⟨some 6, none, .prim (.mov (.tmp 5))⟩,
      ⟨some 7, (some (6, false)), .prim (.fadr 0 (.tmp 1))⟩,
      ⟨some 8, (some (6, false)), .prim (.load 1 false (.tmp 7))⟩,
      ⟨some 9, (some (6, false)), .prim (.bin false .eql (.tmp 8) (.const (Go.Value.int Go.IntKind.i64 4)))⟩,
      ⟨some 10, none, .prim (.pick (.tmp 6) (.const (Go.Value.bool Bool.true)) (.tmp 9))⟩,
      ⟨some 2, none, .prim (.mov (.tmp 10))⟩])
    .ret))
def o113 : List Tmp := []
def r113 : List RV := [.tmp 2]
theorem t113 : Text Tryz.prog 113 o113 c113 r113 11 := ⟨⟨Tryz.f113, _, by kernel_rfl, by kernel_rfl, rfl, by kernel_rfl, by kernel_rfl, rfl⟩, by kernel_rfl⟩

/-- sordine/rex.Parse -/
def c114 : ACode :=
  (.seq (.ops [⟨some 2, none, .prim (.allocm [.pl (.int .i64 0), .pl (.int .u64 0), .pl (.int .u64 0), .pl (.int .u64 0), .pl (.int .u64 0), .nils])⟩,
      ⟨some 3, none, .prim (.mov (.const (Go.Value.bool Bool.false)))⟩])
    (.seq (.ops [⟨some 6, none, .prim (.mov (.tmp 0))⟩,
      ⟨some 7, none, .prim (.mov (.tmp 0))⟩,
      ⟨some 8, none, .prim (.lens (.tmp 7))⟩,
      ⟨some 9, none, .prim (.bin false .gtr (.tmp 8) (.const (Go.Value.int Go.IntKind.i64 40)))⟩,
      ⟨some 10, none, .prim (.build [.pl (.string .empty), .pl (.int .i64 0), .pl (.bool false)] [(0, 1, (.tmp 6)), (2, 1, (.tmp 9))])⟩,
      ⟨some 11, none, .prim (.boxm (.tmp 10))⟩,
      ⟨some 4, none, .prim (.mov (.tmp 11))⟩])
    (.seq (.ops [⟨some 12, none, .prim (.mov (.tmp 4))⟩,
      ⟨some 13, none, .call (.func 140) [(.tmp 12), (.const (Go.Value.int Go.IntKind.i64 0))]⟩,
      ⟨some 5, none, .fresh 6 5 (.tmp 13)⟩])
    (.seq (.seq (.ops [⟨some 14, none, .prim (.mov (.tmp 4))⟩,
      ⟨some 15, none, .prim (.nilc (.tmp 14))⟩,
      ⟨some 16, none, .prim (.fadr 2 (.tmp 15))⟩,
      ⟨some 17, none, .prim (.load 1 false (.tmp 16))⟩,
      ⟨some 18, none, .prim (.mov (.tmp 17))⟩,
      ⟨some 19, (some (18, false)), .prim (.mov (.tmp 4))⟩,
      ⟨some 20, (some (18, false)), .prim (.nilc (.tmp 19))⟩,
      ⟨some 21, (some (18, false)), .prim (.fadr 1 (.tmp 20))⟩,
      ⟨some 22, (some (18, false)), .prim (.load 1 false (.tmp 21))⟩,
      ⟨some 23, (some (18, false)), .prim (.mov (.tmp 0))⟩,
      ⟨some 24, (some (18, false)), .prim (.lens (.tmp 23))⟩,
      ⟨some 25, (some (18, false)), .prim (.bin false .lss (.tmp 22) (.tmp 24))⟩,
      ⟨some 26, none, .prim (.pick (.tmp 18) (.const (Go.Value.bool Bool.true)) (.tmp 25))⟩])
    (.cond (.tmp 26)
    (.seq (.ops [⟨some 27, none, .prim (.build [.pl (.int .i64 0), .pl (.int .u64 0), .pl (.int .u64 0), .pl (.int .u64 0), .pl (.int .u64 0), .nils] [])⟩,
      ⟨none, none, .prim (.store 6 (.tmp 2) (.tmp 27))⟩,
      ⟨some 3, none, .prim (.mov (.const (Go.Value.bool Bool.false)))⟩])
    .ret)
    .skip))
    (.seq (.ops [⟨some 28, none, .prim (.load 6 true (.tmp 5))⟩,
      ⟨none, none, .prim (.store 6 (.tmp 2) (.tmp 28))⟩,
      ⟨some 3, none, .prim (.mov (.const (Go.Value.bool Bool.true)))⟩])
    .ret)))))
def o114 : List Tmp := [2, 11]
def r114 : List RV := [.cell 2 6 true, .tmp 3]
theorem t114 : Text Tryz.prog 114 o114 c114 r114 29 := ⟨⟨Tryz.f114, _, by kernel_rfl, by kernel_rfl, rfl, by kernel_rfl, by kernel_rfl, rfl⟩, by kernel_rfl⟩

/-- cmp.Or[int] -/
def c115 : ACode :=
  (.seq (.ops [⟨some 2, none, .prim (.mov (.const (Go.Value.int Go.IntKind.i64 0)))⟩])
    (.seq (.ops [⟨some 3, none, .prim (.mov (.const (Go.Value.int Go.IntKind.i64 0)))⟩])
    (.seq (.seq (.ops [⟨some 6, none, .prim (.mov (.tmp 0))⟩,
      ⟨some 7, none, .prim (.lenv (.tmp 6))⟩,
      ⟨some 8, none, .prim (.mov (.const (Go.Value.int Go.IntKind.i64 0)))⟩])
    (.block 0 (.loop [0, 1, 2, 4, 5, 9, 10, 11, 12, 13, 14, 15, 16, 17] (.seq (.ops [⟨some 9, none, .prim (.bin false .lss (.tmp 8) (.tmp 7))⟩])
    (.seq (.cond (.tmp 9)
    .skip
    (.exit 0))
    (.seq (.block 1 (.seq (.ops [⟨some 10, none, .prim (.iadrs 1 (.tmp 6) (.tmp 8))⟩,
      ⟨some 11, none, .prim (.load 1 false (.tmp 10))⟩,
      ⟨some 5, none, .prim (.mov (.tmp 11))⟩])
    (.seq (.ops [⟨some 12, none, .prim (.mov (.tmp 5))⟩,
      ⟨some 13, none, .prim (.mov (.tmp 3))⟩,
      ⟨some 14, none, .prim (.bin false .neq (.tmp 12) (.tmp 13))⟩])
    (.cond (.tmp 14)
    (.seq (.ops [⟨some 15, none, .prim (.mov (.tmp 5))⟩,
      ⟨some 2, none, .prim (.mov (.tmp 15))⟩])
    .ret)
    .skip))))
    (.ops [⟨some 16, none, .prim (.bin false .add (.tmp 8) (.const (Go.Value.int Go.IntKind.i64 1)))⟩,
      ⟨some 8, none, .prim (.mov (.tmp 16))⟩])))))))
    (.seq (.ops [⟨some 17, none, .prim (.mov (.tmp 3))⟩,
      ⟨some 2, none, .prim (.mov (.tmp 17))⟩])
    .ret))))
def o115 : List Tmp := []
def r115 : List RV := [.tmp 2]
theorem t115 : Text Tryz.prog 115 o115 c115 r115 18 := ⟨⟨Tryz.f115, _, by kernel_rfl, by kernel_rfl, rfl, by kernel_rfl, by kernel_rfl, rfl⟩, by kernel_rfl⟩

/-- strings.Compare -/
def c116 : ACode :=
  (.seq (.ops [⟨some 4, none, .prim (.mov (.const (Go.Value.int Go.IntKind.i64 0)))⟩])
    (.seq (.ops [⟨some 5, none, .prim (.mov (.tmp 0))⟩,
      ⟨some 6, none, .prim (.mov (.tmp 1))⟩,
      ⟨some 7, none, .call (.func 141) [(.tmp 5), (.tmp 6)]⟩,
      ⟨some 4, none, .prim (.mov (.tmp 7))⟩])
    .ret))
def o116 : List Tmp := []
def r116 : List RV := [.tmp 4]
theorem t116 : Text Tryz.prog 116 o116 c116 r116 8 := ⟨⟨Tryz.f116, _, by kernel_rfl, by kernel_rfl, rfl, by kernel_rfl, by kernel_rfl, rfl⟩, by kernel_rfl⟩

/-- cmp.Compare[int] -/
def c117 : ACode :=
  (.seq (.ops [⟨some 4, none, .prim (.mov (.const (Go.Value.int Go.IntKind.i64 0)))⟩])
    (.seq (.ops [⟨some 7, none, .prim (.mov (.tmp 0))⟩,
      ⟨some 8, none, .call (.func 134) [(.tmp 7)]⟩,
      ⟨some 5, none, .prim (.mov (.tmp 8))⟩])
    (.seq (.ops [⟨some 9, none, .prim (.mov (.tmp 1))⟩,
      ⟨some 10, none, .call (.func 134) [(.tmp 9)]⟩,
      ⟨some 6, none, .prim (.mov (.tmp 10))⟩])
    (.seq (.seq (.ops [⟨some 11, none, .prim (.mov (.tmp 5))⟩])
    (.cond (.tmp 11)
    (.seq (.seq (.ops [⟨some 12, none, .prim (.mov (.tmp 6))⟩])
    (.cond (.tmp 12)
    (.seq (.ops [⟨some 4, none, .prim (.mov (.const (Go.Value.int Go.IntKind.i64 0)))⟩])
    .ret)
    .skip))
    (.seq (.ops [⟨some 4, none, .prim (.mov (.const (Go.Value.int Go.IntKind.i64 (-1))))⟩])
    .ret))
    .skip))
    (.seq (.seq (.ops [⟨some 13, none, .prim (.mov (.tmp 6))⟩])
    (.cond (.tmp 13)
    (.seq (.ops [⟨some 4, none, .prim (.mov (.const (Go.Value.int Go.IntKind.i64 1)))⟩])
    .ret)
    .skip))
    (.seq (.seq (.ops [⟨some 14, none, .prim (.mov (.tmp 0))⟩,
      ⟨some 15, none, .prim (.mov (.tmp 1))⟩,
      ⟨some 16, none, .prim (.bin false .lss (.tmp 14) (.tmp 15))⟩])
    (.cond (.tmp 16)
    (.seq (.ops [⟨some 4, none, .prim (.mov (.const (Go.Value.int Go.IntKind.i64 (-1))))⟩])
    .ret)
    .skip))
    (.seq (.seq (.ops [⟨some 17, none, .prim (.mov (.tmp 0))⟩,
      ⟨some 18, none, .prim (.mov (.tmp 1))⟩,
      ⟨some 19, none, .prim (.bin false .gtr (.tmp 17) (.tmp 18))⟩])
    (.cond (.tmp 19)
    (.seq (.ops [⟨some 4, none, .prim (.mov (.const (Go.Value.int Go.IntKind.i64 1)))⟩])
    .ret)
    .skip))
    (.seq (.ops [⟨some 4, none, .prim (.mov (.const (Go.Value.int Go.IntKind.i64 0)))⟩])
    .ret))))))))
def o117 : List Tmp := []
def r117 : List RV := [.tmp 4]
theorem t117 : Text Tryz.prog 117 o117 c117 r117 20 := ⟨⟨Tryz.f117, _, by kernel_rfl, by kernel_rfl, rfl, by kernel_rfl, by kernel_rfl, rfl⟩, by kernel_rfl⟩

/-- sordine/labels.letter -/
def c118 : ACode :=
  (.seq (.ops [⟨some 2, none, .prim (.mov (.const (Go.Value.bool Bool.false)))⟩])
    (.seq (.ops [⟨some 3, none, .prim (.mov (.tmp 0))⟩,
      ⟨some 4, none, .prim (.bin false .geq (.tmp 3) (.const (Go.Value.int Go.IntKind.u8 97)))⟩,
      ⟨some 5, none, .prim (.mov (.tmp 4))⟩,
      ⟨some 6, (some (5, true)), .prim (.mov (.tmp 0))⟩,
      ⟨some 7, (some (5, true)), .prim (.bin false .leq (.tmp 6) (.const (Go.Value.int Go.IntKind.u8 122)))⟩,
      ⟨some 8, none, .prim (.pick (.tmp 5) (.tmp 7) (.const (Go.Value.bool Bool.false)))⟩,
      ⟨some 9, none, .prim (.mov (.tmp 8))⟩,
      ⟨some 10, (some (9, false)), .prim (.mov (.tmp 0))⟩,
      ⟨some 11, (some (9, false)), .prim (.bin false .geq (.tmp 10) (.const (Go.Value.int Go.IntKind.u8 65)))⟩,
      ⟨some 12, (some (9, false)), .prim (.mov (.tmp 11))⟩,
      ⟨some 13, (some (12, true)), .prim (.mov (.tmp 0))⟩,
      ⟨some 14, (some (12, true)), .prim (.bin false .leq (.tmp 13) (.const (Go.Value.int Go.IntKind.u8 90)))⟩,
      ⟨some 15, (some (9, false)), .prim (.pick (.tmp 12) (.tmp 14) (.const (Go.Value.bool Bool.false)))⟩,
      ⟨some 16, none, .prim (.pick (.tmp 9) (.const (Go.Value.bool Bool.true)) (.tmp 15))⟩,
      ⟨some 17, none, .prim (.mov (.tmp 16))⟩,
      ⟨some 18, (some (17, false)), .prim (.mov (.tmp 0))⟩,
      ⟨some 19, (some (17, false)), .prim (.bin false .eql (.tmp 18) (.const (Go.Value.int Go.IntKind.u8 95)))⟩,
      ⟨some 20, none, .prim (.pick (.tmp 17) (.const (Go.Value.bool Bool.true)) (.tmp 19))⟩,
      ⟨some 2, none, .prim (.mov (.tmp 20))⟩])
    .ret))
def o118 : List Tmp := []
def r118 : List RV := [.tmp 2]
theorem t118 : Text Tryz.prog 118 o118 c118 r118 21 := ⟨⟨Tryz.f118, _, by kernel_rfl, by kernel_rfl, rfl, by kernel_rfl, by kernel_rfl, rfl⟩, by kernel_rfl⟩

/-- (*sordine/peel.Reader).End -/
def c119 : ACode :=
  (.seq (.ops [⟨some 2, none, .prim (.mov (.const (Go.Value.int Go.IntKind.i64 0)))⟩,
      ⟨some 3, none, .prim (.mov (.const (Go.Value.bool Bool.false)))⟩])
    (.seq (.seq (.ops [⟨some 4, none, .prim (.mov (.tmp 0))⟩,
      ⟨some 5, none, .prim (.nilc (.tmp 4))⟩,
      ⟨some 6, none, .prim (.fadr 2 (.tmp 5))⟩,
      ⟨some 7, none, .prim (.load 1 false (.tmp 6))⟩])
    (.cond (.tmp 7)
    (.seq (.ops [⟨some 2, none, .prim (.mov (.const (Go.Value.int Go.IntKind.i64 0)))⟩,
      ⟨some 3, none, .prim (.mov (.const (Go.Value.bool Bool.false)))⟩])
    .ret)
    .skip))
    (.seq (.ops [⟨some 8, none, .prim (.mov (.tmp 0))⟩,
      ⟨some 9, none, .prim (.nilc (.tmp 8))⟩,
      ⟨some 10, none, .prim (.fadr 1 (.tmp 9))⟩,
      ⟨some 11, none, .prim (.load 1 false (.tmp 10))⟩,
      ⟨some 2, none, .prim (.mov (.tmp 11))⟩,
      ⟨some 3, none, .prim (.mov (.const (Go.Value.bool Bool.true)))⟩])
    .ret)))
def o119 : List Tmp := []
def r119 : List RV := [.tmp 2, .tmp 3]
theorem t119 : Text Tryz.prog 119 o119 c119 r119 12 := ⟨⟨Tryz.f119, _, by kernel_rfl, by kernel_rfl, rfl, by kernel_rfl, by kernel_rfl, rfl⟩, by kernel_rfl⟩

/-- (*sordine/peel.Reader).Byte -/
def c120 : ACode :=
  (.seq (.ops [⟨some 2, none, .prim (.mov (.const (Go.Value.int Go.IntKind.u8 0)))⟩])
    (.seq (.ops [⟨some 4, none, .prim (.mov (.tmp 0))⟩,
      ⟨some 5, none, .call (.func 142) [(.tmp 4)]⟩,
      ⟨some 3, none, .prim (.mov (.tmp 5))⟩])
    (.seq (.seq (.ops [⟨some 6, none, .prim (.mov (.tmp 0))⟩,
      ⟨some 7, none, .prim (.mov (.tmp 3))⟩,
      ⟨some 8, none, .prim (.lenv (.tmp 7))⟩,
      ⟨some 9, none, .prim (.bin false .gtr (.tmp 8) (.const (Go.Value.int Go.IntKind.i64 0)))⟩,
      ⟨some 10, none, .call (.func 143) [(.tmp 6), (.const (Go.Value.int Go.IntKind.i64 1)), (.tmp 9)]⟩,
      ⟨some 11, none, .prim (.un .not (.tmp 10))⟩])
    (.cond (.tmp 11)
    (.seq (.ops [⟨some 2, none, .prim (.mov (.const (Go.Value.int Go.IntKind.u8 0)))⟩])
    .ret)
    .skip))
    (.seq (.ops [⟨some 12, none, .prim (.mov (.tmp 3))⟩,
      ⟨some 13, none, .prim (.iadrs 1 (.tmp 12) (.const (Go.Value.int Go.IntKind.i64 0)))⟩,
      ⟨some 14, none, .prim (.load 1 false (.tmp 13))⟩,
      ⟨some 2, none, .prim (.mov (.tmp 14))⟩])
    .ret))))
def o120 : List Tmp := []
def r120 : List RV := [.tmp 2]
theorem t120 : Text Tryz.prog 120 o120 c120 r120 15 := ⟨⟨Tryz.f120, _, by kernel_rfl, by kernel_rfl, rfl, by kernel_rfl, by kernel_rfl, rfl⟩, by kernel_rfl⟩

/-- (*sordine/peel.Reader).Refuse -/
def c121 : ACode :=
  (.ops [⟨some 4, none, .prim (.mov (.tmp 0))⟩,
      ⟨some 5, none, .prim (.mov (.tmp 1))⟩,
      ⟨some 6, none, .call (.func 143) [(.tmp 4), (.const (Go.Value.int Go.IntKind.i64 0)), (.tmp 5)]⟩])
def o121 : List Tmp := []
def r121 : List RV := []
theorem t121 : Text Tryz.prog 121 o121 c121 r121 7 := ⟨⟨Tryz.f121, _, by kernel_rfl, by kernel_rfl, rfl, by kernel_rfl, by kernel_rfl, rfl⟩, by kernel_rfl⟩

/-- (*sordine/peel.Reader).Num -/
def c122 : ACode :=
  (.seq (.ops [⟨some 4, none, .prim (.mov (.const (Go.Value.int Go.IntKind.u64 0)))⟩])
    (.seq (.ops [⟨some 9, none, .prim (.mov (.tmp 0))⟩,
      ⟨some 10, none, .call (.func 142) [(.tmp 9)]⟩,
      ⟨some 11, none, .call (.func 144) [(.tmp 10)]⟩,
      ⟨some 8, none, .prim (.mov (.tmp 11))⟩,
      ⟨some 12, none, .prim (.extr 0 (.tmp 8))⟩,
      ⟨some 13, none, .prim (.extr 1 (.tmp 8))⟩,
      ⟨some 14, none, .prim (.extr 2 (.tmp 8))⟩,
      ⟨some 5, none, .prim (.mov (.tmp 12))⟩,
      ⟨some 6, none, .prim (.mov (.tmp 13))⟩,
      ⟨some 7, none, .prim (.mov (.tmp 14))⟩])
    (.seq (.seq (.ops [⟨some 15, none, .prim (.mov (.tmp 0))⟩,
      ⟨some 16, none, .prim (.mov (.tmp 6))⟩,
      ⟨some 17, none, .prim (.mov (.tmp 7))⟩,
      ⟨some 18, none, .prim (.mov (.tmp 17))⟩,
      ⟨some 19, (some (18, true)), .prim (.mov (.tmp 5))⟩,
      ⟨some 20, (some (18, true)), .prim (.mov (.tmp 1))⟩,
      ⟨some 21, (some (18, true)), .prim (.bin false .leq (.tmp 19) (.tmp 20))⟩,
      ⟨some 22, none, .prim (.pick (.tmp 18) (.tmp 21) (.const (Go.Value.bool Bool.false)))⟩,
      ⟨some 23, none, .call (.func 143) [(.tmp 15), (.tmp 16), (.tmp 22)]⟩,
      ⟨some 24, none, .prim (.un .not (.tmp 23))⟩])
    (.cond (.tmp 24)
    (.seq (.ops [⟨some 4, none, .prim (.mov (.const (Go.Value.int Go.IntKind.u64 0)))⟩])
    .ret)
    .skip))
    (.seq (.ops [⟨some 25, none, .prim (.mov (.tmp 5))⟩,
      ⟨some 4, none, .prim (.mov (.tmp 25))⟩])
    .ret))))
def o122 : List Tmp := []
def r122 : List RV := [.tmp 4]
theorem t122 : Text Tryz.prog 122 o122 c122 r122 26 := ⟨⟨Tryz.f122, _, by kernel_rfl, by kernel_rfl, rfl, by kernel_rfl, by kernel_rfl, rfl⟩, by kernel_rfl⟩

/-- (*sordine/peel.Reader).Text -/
def c123 : ACode :=
  (.seq (.ops [⟨some 4, none, .prim (.mov (.const (Go.Value.string (ByteArray.mk #[]))))⟩])
    (.seq (.ops [⟨some 9, none, .prim (.mov (.tmp 0))⟩,
      ⟨some 10, none, .call (.func 142) [(.tmp 9)]⟩,
      ⟨some 11, none, .prim (.mov (.tmp 1))⟩,
      ⟨some 12, none, .call (.func 145) [(.tmp 10), (.tmp 11)]⟩,
      ⟨some 8, none, .prim (.mov (.tmp 12))⟩,
      ⟨some 13, none, .prim (.extr 0 (.tmp 8))⟩,
      ⟨some 14, none, .prim (.extr 1 (.tmp 8))⟩,
      ⟨some 15, none, .prim (.extr 2 (.tmp 8))⟩,
      ⟨some 5, none, .prim (.mov (.tmp 13))⟩,
      ⟨some 6, none, .prim (.mov (.tmp 14))⟩,
      ⟨some 7, none, .prim (.mov (.tmp 15))⟩])
    (.seq (.seq (.ops [⟨some 16, none, .prim (.mov (.tmp 0))⟩,
      ⟨some 17, none, .prim (.mov (.tmp 6))⟩,
      ⟨some 18, none, .prim (.mov (.tmp 7))⟩,
      ⟨some 19, none, .call (.func 143) [(.tmp 16), (.tmp 17), (.tmp 18)]⟩,
      ⟨some 20, none, .prim (.un .not (.tmp 19))⟩])
    (.cond (.tmp 20)
    (.seq (.ops [⟨some 4, none, .prim (.mov (.const (Go.Value.string (ByteArray.mk #[]))))⟩])
    .ret)
    .skip))
    (.seq (.ops [⟨some 21, none, .prim (.mov (.tmp 5))⟩,
      ⟨some 4, none, .prim (.mov (.tmp 21))⟩])
    .ret))))
def o123 : List Tmp := []
def r123 : List RV := [.tmp 4]
theorem t123 : Text Tryz.prog 123 o123 c123 r123 22 := ⟨⟨Tryz.f123, _, by kernel_rfl, by kernel_rfl, rfl, by kernel_rfl, by kernel_rfl, rfl⟩, by kernel_rfl⟩

/-- sordine/peel.Of[[]sordine/api.Matcher] -/
def c124 : ACode :=
  (.seq (.ops [⟨some 4, none, .prim (.mov (.const (Go.Value.slice Option.none 0 0)))⟩])
    (.seq (.ops [⟨some 10, none, .prim (.mov (.tmp 1))⟩,
      ⟨some 11, none, .prim (.mov (.tmp 0))⟩,
      ⟨some 12, none, .call (.func 142) [(.tmp 11)]⟩,
      ⟨some 13, none, .call (.tmp 10) [(.tmp 12)]⟩,
      ⟨some 9, none, .prim (.mov (.tmp 13))⟩,
      ⟨some 14, none, .prim (.extr 0 (.tmp 9))⟩,
      ⟨some 15, none, .prim (.extr 1 (.tmp 9))⟩,
      ⟨some 16, none, .prim (.extr 2 (.tmp 9))⟩,
      ⟨some 5, none, .prim (.mov (.tmp 14))⟩,
      ⟨some 6, none, .prim (.mov (.tmp 15))⟩,
      ⟨some 7, none, .prim (.mov (.tmp 16))⟩])
    (.seq (.seq (.ops [⟨some 17, none, .prim (.mov (.tmp 0))⟩,
      ⟨some 18, none, .prim (.mov (.tmp 6))⟩,
      ⟨some 19, none, .prim (.mov (.tmp 7))⟩,
      ⟨some 20, none, .call (.func 143) [(.tmp 17), (.tmp 18), (.tmp 19)]⟩,
      ⟨some 21, none, .prim (.un .not (.tmp 20))⟩])
    (.cond (.tmp 21)
    (.seq (.ops [⟨some 8, none, .prim (.mov (.const (Go.Value.slice Option.none 0 0)))⟩])
    (.seq (.ops [⟨some 22, none, .prim (.mov (.tmp 8))⟩,
      ⟨some 4, none, .prim (.mov (.tmp 22))⟩])
    .ret))
    .skip))
    (.seq (.ops [⟨some 23, none, .prim (.mov (.tmp 5))⟩,
      ⟨some 4, none, .prim (.mov (.tmp 23))⟩])
    .ret))))
def o124 : List Tmp := []
def r124 : List RV := [.tmp 4]
theorem t124 : Text Tryz.prog 124 o124 c124 r124 24 := ⟨⟨Tryz.f124, _, by kernel_rfl, by kernel_rfl, rfl, by kernel_rfl, by kernel_rfl, rfl⟩, by kernel_rfl⟩

/-- sordine/match.Read -/
def c125 : ACode :=
  (.seq (.ops [⟨some 2, none, .prim (.mov (.const (Go.Value.slice Option.none 0 0)))⟩,
      ⟨some 3, none, .prim (.mov (.const (Go.Value.int Go.IntKind.i64 0)))⟩,
      ⟨some 4, none, .prim (.mov (.const (Go.Value.bool Bool.false)))⟩])
    (.seq (.ops [⟨some 9, none, .prim (.mov (.tmp 0))⟩,
      ⟨some 10, none, .call (.func 99) [(.tmp 9)]⟩,
      ⟨some 5, none, .prim (.mov (.tmp 10))⟩])
    (.seq (.ops [⟨some 6, none, .prim (.mov (.const (Go.Value.slice Option.none 0 0)))⟩])
    (.seq (.seq (.ops [⟨some 11, none, .prim (.mov (.tmp 5))⟩,
      ⟨some 12, none, .call (.func 122) [(.tmp 11), (.const (Go.Value.int Go.IntKind.u64 5))]⟩,
      ⟨some 13, none, .prim (.mov (.const (Go.Value.int Go.IntKind.u64 0)))⟩])
    (.block 0 (.loop [0, 1, 2, 3, 4, 7, 8, 9, 10, 11, 14, 15, 16, 17, 18, 19, 20, 21, 22, 23, 24, 25, 26, 27, 28, 29, 30, 31, 32, 33, 34, 35, 36, 37, 38, 39] (.seq (.ops [⟨some 14, none, .prim (.bin false .lss (.tmp 13) (.tmp 12))⟩])
    (.seq (.cond (.tmp 14)
    .skip
    (.exit 0))
    (.seq (.block 1 (.ops [⟨some 15, none, .prim (.mov (.tmp 6))⟩,
      ⟨some 16, none, .prim (.mov (.tmp 5))⟩,
      ⟨some 17, none, .call (.func 120) [(.tmp 16)]⟩,
      ⟨some 18, none, .prim (.convi .i64 (.tmp 17))⟩,
      ⟨some 19, none, .prim (.mov (.tmp 5))⟩,
      ⟨some 20, none, .call (.func 123) [(.tmp 19), (.const (Go.Value.int Go.IntKind.i64 12))]⟩,
      ⟨some 21, none, .prim (.mov (.tmp 5))⟩,
      ⟨some 22, none, .call (.func 123) [(.tmp 21), (.const (Go.Value.int Go.IntKind.i64 40))]⟩,
      ⟨some 23, none, .prim (.build [.pl (.int .i64 0), .pl (.string .empty), .pl (.string .empty)] [(0, 1, (.tmp 18)), (1, 1, (.tmp 20)), (2, 1, (.tmp 22))])⟩,
      ⟨some 24, none, .prim (.bsl false 3 true 1 [.pl (.int .i64 0), .pl (.string .empty), .pl (.string .empty)] [(0, 3, (.tmp 23))])⟩,
      ⟨some 25, none, .prim (.app 3 (.tmp 15) (.tmp 24))⟩,
      ⟨some 6, none, .prim (.mov (.tmp 25))⟩]))
    (.ops [⟨some 26, none, .prim (.bin false .add (.tmp 13) (.const (Go.Value.int Go.IntKind.u64 1)))⟩,
      ⟨some 13, none, .prim (.mov (.tmp 26))⟩])))))))
    (.seq (.ops [⟨some 27, none, .prim (.mov (.tmp 5))⟩,
      ⟨some 28, none, .prim (.mov (.tmp 6))⟩,
      ⟨some 29, none, .call (.func 69) [(.tmp 28)]⟩,
      ⟨some 30, none, .call (.func 121) [(.tmp 27), (.tmp 29)]⟩])
    (.seq (.ops [⟨some 32, none, .prim (.mov (.tmp 5))⟩,
      ⟨some 33, none, .call (.func 119) [(.tmp 32)]⟩,
      ⟨some 31, none, .prim (.mov (.tmp 33))⟩,
      ⟨some 34, none, .prim (.extr 0 (.tmp 31))⟩,
      ⟨some 35, none, .prim (.extr 1 (.tmp 31))⟩,
      ⟨some 7, none, .prim (.mov (.tmp 34))⟩,
      ⟨some 8, none, .prim (.mov (.tmp 35))⟩])
    (.seq (.seq (.ops [⟨some 36, none, .prim (.mov (.tmp 8))⟩,
      ⟨some 37, none, .prim (.un .not (.tmp 36))⟩])
    (.cond (.tmp 37)
    (.seq (.ops [⟨some 2, none, .prim (.mov (.const (Go.Value.slice Option.none 0 0)))⟩,
      ⟨some 3, none, .prim (.mov (.const (Go.Value.int Go.IntKind.i64 0)))⟩,
      ⟨some 4, none, .prim (.mov (.const (Go.Value.bool Bool.false)))⟩])
    (.ghost (.shut 2) .ret))
    .skip))
    (.seq (.ops [⟨some 38, none, .prim (.mov (.tmp 6))⟩,
      ⟨some 39, none, .prim (.mov (.tmp 7))⟩,
      ⟨some 2, none, .prim (.mov (.tmp 38))⟩,
      ⟨some 3, none, .prim (.mov (.tmp 39))⟩,
      ⟨some 4, none, .prim (.mov (.const (Go.Value.bool Bool.true)))⟩])
    (.ghost (.shut 2) .ret)))))))))
def o125 : List Tmp := []
def r125 : List RV := [.tmp 2, .tmp 3, .tmp 4]
theorem t125 : Text Tryz.prog 125 o125 c125 r125 40 := ⟨⟨Tryz.f125, _, by kernel_rfl, by kernel_rfl, rfl, by kernel_rfl, by kernel_rfl, rfl⟩, by kernel_rfl⟩

/-- sordine/peel.Of[sordine/api.Band] -/
def c126 : ACode :=
  (.seq (.ops [⟨some 4, none, .prim (.allocm [.pl (.bool false), .pl (.float .f64 0), .pl (.float .f64 0)])⟩])
    (.seq (.ops [⟨some 10, none, .prim (.mov (.tmp 1))⟩,
      ⟨some 11, none, .prim (.mov (.tmp 0))⟩,
      ⟨some 12, none, .call (.func 142) [(.tmp 11)]⟩,
      ⟨some 13, none, .call (.tmp 10) [(.tmp 12)]⟩,
      ⟨some 9, none, .prim (.mov (.tmp 13))⟩,
      ⟨some 14, none, .prim (.extr 0 (.tmp 9))⟩,
      ⟨some 15, none, .prim (.extr 1 (.tmp 9))⟩,
      ⟨some 16, none, .prim (.extr 2 (.tmp 9))⟩,
      ⟨some 5, none, .fresh 3 5 (.tmp 14)⟩,
      ⟨some 6, none, .prim (.mov (.tmp 15))⟩,
      ⟨some 7, none, .prim (.mov (.tmp 16))⟩])
    (.seq (.seq (.ops [⟨some 17, none, .prim (.mov (.tmp 0))⟩,
      ⟨some 18, none, .prim (.mov (.tmp 6))⟩,
      ⟨some 19, none, .prim (.mov (.tmp 7))⟩,
      ⟨some 20, none, .call (.func 143) [(.tmp 17), (.tmp 18), (.tmp 19)]⟩,
      ⟨some 21, none, .prim (.un .not (.tmp 20))⟩])
    (.cond (.tmp 21)
    (.seq (.ops [⟨some 8, none, .prim (.allocm [.pl (.bool false), .pl (.float .f64 0), .pl (.float .f64 0)])⟩])
    (.seq (.ops [⟨some 22, none, .prim (.load 3 true (.tmp 8))⟩,
      ⟨none, none, .prim (.store 3 (.tmp 4) (.tmp 22))⟩])
    .ret))
    .skip))
    (.seq (.ops [⟨some 23, none, .prim (.load 3 true (.tmp 5))⟩,
      ⟨none, none, .prim (.store 3 (.tmp 4) (.tmp 23))⟩])
    .ret))))
def o126 : List Tmp := [4]
def r126 : List RV := [.cell 4 3 true]
theorem t126 : Text Tryz.prog 126 o126 c126 r126 24 := ⟨⟨Tryz.f126, _, by kernel_rfl, by kernel_rfl, rfl, by kernel_rfl, by kernel_rfl, rfl⟩, by kernel_rfl⟩

/-- sordine/rule.ReadBand -/
def c127 : ACode :=
  (.seq (.ops [⟨some 2, none, .prim (.allocm [.pl (.bool false), .pl (.float .f64 0), .pl (.float .f64 0)])⟩,
      ⟨some 3, none, .prim (.mov (.const (Go.Value.int Go.IntKind.i64 0)))⟩,
      ⟨some 4, none, .prim (.mov (.const (Go.Value.bool Bool.false)))⟩])
    (.seq (.ops [⟨some 9, none, .prim (.mov (.tmp 0))⟩,
      ⟨some 10, none, .call (.func 99) [(.tmp 9)]⟩,
      ⟨some 5, none, .prim (.mov (.tmp 10))⟩])
    (.seq (.ops [⟨some 6, none, .prim (.allocm [.pl (.bool false), .pl (.float .f64 0), .pl (.float .f64 0)])⟩])
    (.seq (.seq (.ops [⟨some 11, none, .prim (.mov (.tmp 5))⟩,
      ⟨some 12, none, .call (.func 120) [(.tmp 11)]⟩])
    (.block 0 (.seq (.ops [⟨some 16, none, .prim (.bin false .eql (.tmp 12) (.const (Go.Value.int Go.IntKind.u8 0)))⟩,
      ⟨some 15, none, .prim (.mov (.tmp 16))⟩])
    (.cond (.tmp 15)
    (.ops [⟨some 17, none, .prim (.mov (.tmp 5))⟩,
      ⟨some 18, none, .call (.func 146) [(.tmp 17)]⟩,
      ⟨some 19, none, .prim (.mov (.tmp 5))⟩,
      ⟨some 20, none, .call (.func 146) [(.tmp 19)]⟩,
      ⟨some 21, none, .prim (.fadr 1 (.tmp 6))⟩,
      ⟨none, none, .prim (.store 1 (.tmp 21) (.tmp 18))⟩,
      ⟨some 22, none, .prim (.fadr 2 (.tmp 6))⟩,
      ⟨none, none, .prim (.store 1 (.tmp 22) (.tmp 20))⟩])
    (.seq (.ops [⟨some 24, none, .prim (.bin false .eql (.tmp 12) (.const (Go.Value.int Go.IntKind.u8 1)))⟩,
      ⟨some 23, none, .prim (.mov (.tmp 24))⟩])
    (.cond (.tmp 23)
    (.ops [⟨some 25, none, .prim (.fadr 0 (.tmp 6))⟩,
      ⟨none, none, .prim (.store 1 (.tmp 25) (.const (Go.Value.bool Bool.true)))⟩])
    (.ops [⟨some 13, none, .prim (.mov (.tmp 5))⟩,
      ⟨some 14, none, .call (.func 121) [(.tmp 13), (.const (Go.Value.bool Bool.false))]⟩])))))))
    (.seq (.ops [⟨some 26, none, .prim (.mov (.tmp 5))⟩,
      ⟨some 27, none, .prim (.load 3 true (.tmp 6))⟩,
      ⟨some 28, none, .call (.func 94) [(.tmp 27)]⟩,
      ⟨some 29, none, .call (.func 121) [(.tmp 26), (.tmp 28)]⟩])
    (.seq (.ops [⟨some 31, none, .prim (.mov (.tmp 5))⟩,
      ⟨some 32, none, .call (.func 119) [(.tmp 31)]⟩,
      ⟨some 30, none, .prim (.mov (.tmp 32))⟩,
      ⟨some 33, none, .prim (.extr 0 (.tmp 30))⟩,
      ⟨some 34, none, .prim (.extr 1 (.tmp 30))⟩,
      ⟨some 7, none, .prim (.mov (.tmp 33))⟩,
      ⟨some 8, none, .prim (.mov (.tmp 34))⟩])
    (.seq (.seq (.ops [⟨some 35, none, .prim (.mov (.tmp 8))⟩,
      ⟨some 36, none, .prim (.un .not (.tmp 35))⟩])
    (.cond (.tmp 36)
    (.seq (.ops [⟨some 37, none, .prim (.build [.pl (.bool false), .pl (.float .f64 0), .pl (.float .f64 0)] [])⟩,
      ⟨none, none, .prim (.store 3 (.tmp 2) (.tmp 37))⟩,
      ⟨some 3, none, .prim (.mov (.const (Go.Value.int Go.IntKind.i64 0)))⟩,
      ⟨some 4, none, .prim (.mov (.const (Go.Value.bool Bool.false)))⟩])
    .ret)
    .skip))
    (.seq (.ops [⟨some 38, none, .prim (.load 3 true (.tmp 6))⟩,
      ⟨some 39, none, .prim (.mov (.tmp 7))⟩,
      ⟨none, none, .prim (.store 3 (.tmp 2) (.tmp 38))⟩,
      ⟨some 3, none, .prim (.mov (.tmp 39))⟩,
      ⟨some 4, none, .prim (.mov (.const (Go.Value.bool Bool.true)))⟩])
    .ret))))))))
def o127 : List Tmp := [2, 6]
def r127 : List RV := [.cell 2 3 true, .tmp 3, .tmp 4]
theorem t127 : Text Tryz.prog 127 o127 c127 r127 40 := ⟨⟨Tryz.f127, _, by kernel_rfl, by kernel_rfl, rfl, by kernel_rfl, by kernel_rfl, rfl⟩, by kernel_rfl⟩

/-- sordine/peel.Of[sordine/api.Rule] -/
def c128 : ACode :=
  (.seq (.ops [⟨some 4, none, .prim (.allocm [.nils, .nils, .pl (.bool false), .pl (.float .f64 0), .pl (.float .f64 0), .nils])⟩])
    (.seq (.ops [⟨some 10, none, .prim (.mov (.tmp 1))⟩,
      ⟨some 11, none, .prim (.mov (.tmp 0))⟩,
      ⟨some 12, none, .call (.func 142) [(.tmp 11)]⟩,
      ⟨some 13, none, .call (.tmp 10) [(.tmp 12)]⟩,
      ⟨some 9, none, .prim (.mov (.tmp 13))⟩,
      ⟨some 14, none, .prim (.extr 0 (.tmp 9))⟩,
      ⟨some 15, none, .prim (.extr 1 (.tmp 9))⟩,
      ⟨some 16, none, .prim (.extr 2 (.tmp 9))⟩,
      ⟨some 5, none, .fresh 6 5 (.tmp 14)⟩,
      ⟨some 6, none, .prim (.mov (.tmp 15))⟩,
      ⟨some 7, none, .prim (.mov (.tmp 16))⟩])
    (.seq (.seq (.ops [⟨some 17, none, .prim (.mov (.tmp 0))⟩,
      ⟨some 18, none, .prim (.mov (.tmp 6))⟩,
      ⟨some 19, none, .prim (.mov (.tmp 7))⟩,
      ⟨some 20, none, .call (.func 143) [(.tmp 17), (.tmp 18), (.tmp 19)]⟩,
      ⟨some 21, none, .prim (.un .not (.tmp 20))⟩])
    (.cond (.tmp 21)
    (.seq (.ops [⟨some 8, none, .prim (.allocm [.nils, .nils, .pl (.bool false), .pl (.float .f64 0), .pl (.float .f64 0), .nils])⟩])
    (.seq (.ops [⟨some 22, none, .prim (.load 6 true (.tmp 8))⟩,
      ⟨none, none, .prim (.store 6 (.tmp 4) (.tmp 22))⟩])
    .ret))
    .skip))
    (.seq (.ops [⟨some 23, none, .prim (.load 6 true (.tmp 5))⟩,
      ⟨none, none, .prim (.store 6 (.tmp 4) (.tmp 23))⟩])
    .ret))))
def o128 : List Tmp := [4]
def r128 : List RV := [.cell 4 6 true]
theorem t128 : Text Tryz.prog 128 o128 c128 r128 24 := ⟨⟨Tryz.f128, _, by kernel_rfl, by kernel_rfl, rfl, by kernel_rfl, by kernel_rfl, rfl⟩, by kernel_rfl⟩

/-- sordine/rule.Read -/
def c129 : ACode :=
  (.seq (.ops [⟨some 2, none, .prim (.allocm [.nils, .nils, .pl (.bool false), .pl (.float .f64 0), .pl (.float .f64 0), .nils])⟩,
      ⟨some 3, none, .prim (.mov (.const (Go.Value.int Go.IntKind.i64 0)))⟩,
      ⟨some 4, none, .prim (.mov (.const (Go.Value.bool Bool.false)))⟩])
    (.seq (.ops [⟨some 9, none, .prim (.mov (.tmp 0))⟩,
      ⟨some 10, none, .call (.func 99) [(.tmp 9)]⟩,
      ⟨some 5, none, .prim (.mov (.tmp 10))⟩])
    (.seq (.ops [⟨some 11, none, .prim (.mov (.tmp 5))⟩,
      ⟨some 12, none, .call (.func 124) [(.tmp 11), (.func 125)]⟩,
      ⟨some 13, none, .prim (.mov (.tmp 5))⟩,
      ⟨some 14, none, .call (.func 124) [(.tmp 13), (.func 125)]⟩,
      ⟨some 15, none, .prim (.mov (.tmp 5))⟩,
      ⟨some 16, none, .call (.func 126) [(.tmp 15), (.func 127)]⟩,
      ⟨some 17, none, .prim (.build [.nils, .nils, .pl (.bool false), .pl (.float .f64 0), .pl (.float .f64 0), .nils] [(0, 1, (.tmp 12)), (1, 1, (.tmp 14)), (2, 3, (.tmp 16))])⟩,
      ⟨some 6, none, .prim (.allocm [.nils, .nils, .pl (.bool false), .pl (.float .f64 0), .pl (.float .f64 0), .nils])⟩,
      ⟨none, none, .prim (.store 6 (.tmp 6) (.tmp 17))⟩])
    (.seq (.seq (.ops [⟨some 18, none, .prim (.mov (.tmp 5))⟩,
      ⟨some 19, none, .call (.func 122) [(.tmp 18), (.const (Go.Value.int Go.IntKind.u64 4))]⟩,
      ⟨some 20, none, .prim (.mov (.const (Go.Value.int Go.IntKind.u64 0)))⟩])
    (.block 0 (.loop [0, 1, 3, 4, 7, 8, 9, 10, 11, 12, 13, 14, 15, 16, 17, 18, 21, 22, 23, 24, 25, 26, 27, 28, 29, 30, 31, 32, 33, 34, 35, 36, 37, 38, 39, 40, 41, 42, 43] (.seq (.ops [⟨some 21, none, .prim (.bin false .lss (.tmp 20) (.tmp 19))⟩])
    (.seq (.cond (.tmp 21)
    .skip
    (.exit 0))
    (.seq (.block 1 (.draw [⟨⟨some 22, none, .prim (.fadr 5 (.tmp 6))⟩, [], false, 0, 1⟩,
      ⟨⟨some 23, none, .prim (.load 1 false (.tmp 22))⟩, [0], false, 0, 1⟩,
      ⟨⟨some 24, none, .prim (.mov (.tmp 5))⟩, [], false, 0, 0⟩,
      ⟨⟨some 25, none, .call (.func 123) [(.tmp 24), (.const (Go.Value.int Go.IntKind.i64 12))]⟩, [2], true, 0, 0⟩,
      ⟨⟨some 26, none, .prim (.bsl false 1 false 1 [.pl (.string .empty)] [(0, 1, (.tmp 25))])⟩, [2, 3], false, 1, 1⟩,
      ⟨⟨some 27, none, .prim (.app 1 (.tmp 23) (.tmp 26))⟩, [0, 1, 2, 3, 4], true, 0, 0⟩,
      ⟨⟨some 28, none, .prim (.fadr 5 (.tmp 6))⟩, [0, 1, 2, 3, 4, 5], false, 2, 2⟩,
      ⟨⟨none, none, .prim (.store 1 (.tmp 28) (.tmp 27))⟩, [0, 1, 2, 3, 4, 5, 6], true, 0, 0⟩]))
    (.ops [⟨some 29, none, .prim (.bin false .add (.tmp 20) (.const (Go.Value.int Go.IntKind.u64 1)))⟩,
      ⟨some 20, none, .prim (.mov (.tmp 29))⟩])))))))
    (.seq (.ops [⟨some 30, none, .prim (.mov (.tmp 5))⟩,
      ⟨some 31, none, .prim (.load 6 true (.tmp 6))⟩,
      ⟨some 32, none, .call (.func 70) [(.tmp 31)]⟩,
      ⟨some 33, none, .call (.func 121) [(.tmp 30), (.tmp 32)]⟩])
    (.seq (.ops [⟨some 35, none, .prim (.mov (.tmp 5))⟩,
      ⟨some 36, none, .call (.func 119) [(.tmp 35)]⟩,
      ⟨some 34, none, .prim (.mov (.tmp 36))⟩,
      ⟨some 37, none, .prim (.extr 0 (.tmp 34))⟩,
      ⟨some 38, none, .prim (.extr 1 (.tmp 34))⟩,
      ⟨some 7, none, .prim (.mov (.tmp 37))⟩,
      ⟨some 8, none, .prim (.mov (.tmp 38))⟩])
    (.seq (.seq (.ops [⟨some 39, none, .prim (.mov (.tmp 8))⟩,
      ⟨some 40, none, .prim (.un .not (.tmp 39))⟩])
    (.cond (.tmp 40)
    (.seq (.ops [⟨some 41, none, .prim (.build [.nils, .nils, .pl (.bool false), .pl (.float .f64 0), .pl (.float .f64 0), .nils] [])⟩,
      ⟨none, none, .prim (.store 6 (.tmp 2) (.tmp 41))⟩,
      ⟨some 3, none, .prim (.mov (.const (Go.Value.int Go.IntKind.i64 0)))⟩,
      ⟨some 4, none, .prim (.mov (.const (Go.Value.bool Bool.false)))⟩])
    .ret)
    .skip))
    (.seq (.ops [⟨some 42, none, .prim (.load 6 true (.tmp 6))⟩,
      ⟨some 43, none, .prim (.mov (.tmp 7))⟩,
      ⟨none, none, .prim (.store 6 (.tmp 2) (.tmp 42))⟩,
      ⟨some 3, none, .prim (.mov (.tmp 43))⟩,
      ⟨some 4, none, .prim (.mov (.const (Go.Value.bool Bool.true)))⟩])
    .ret))))))))
def o129 : List Tmp := [2, 6]
def r129 : List RV := [.cell 2 6 true, .tmp 3, .tmp 4]
theorem t129 : Text Tryz.prog 129 o129 c129 r129 44 := ⟨⟨Tryz.f129, _, by kernel_rfl, by kernel_rfl, rfl, by kernel_rfl, by kernel_rfl, rfl⟩, by kernel_rfl⟩

/-- sordine/peel.Of[[]sordine/api.Label] -/
def c130 : ACode :=
  (.seq (.ops [⟨some 4, none, .prim (.mov (.const (Go.Value.slice Option.none 0 0)))⟩])
    (.seq (.ops [⟨some 10, none, .prim (.mov (.tmp 1))⟩,
      ⟨some 11, none, .prim (.mov (.tmp 0))⟩,
      ⟨some 12, none, .call (.func 142) [(.tmp 11)]⟩,
      ⟨some 13, none, .call (.tmp 10) [(.tmp 12)]⟩,
      ⟨some 9, none, .prim (.mov (.tmp 13))⟩,
      ⟨some 14, none, .prim (.extr 0 (.tmp 9))⟩,
      ⟨some 15, none, .prim (.extr 1 (.tmp 9))⟩,
      ⟨some 16, none, .prim (.extr 2 (.tmp 9))⟩,
      ⟨some 5, none, .prim (.mov (.tmp 14))⟩,
      ⟨some 6, none, .prim (.mov (.tmp 15))⟩,
      ⟨some 7, none, .prim (.mov (.tmp 16))⟩])
    (.seq (.seq (.ops [⟨some 17, none, .prim (.mov (.tmp 0))⟩,
      ⟨some 18, none, .prim (.mov (.tmp 6))⟩,
      ⟨some 19, none, .prim (.mov (.tmp 7))⟩,
      ⟨some 20, none, .call (.func 143) [(.tmp 17), (.tmp 18), (.tmp 19)]⟩,
      ⟨some 21, none, .prim (.un .not (.tmp 20))⟩])
    (.cond (.tmp 21)
    (.seq (.ops [⟨some 8, none, .prim (.mov (.const (Go.Value.slice Option.none 0 0)))⟩])
    (.seq (.ops [⟨some 22, none, .prim (.mov (.tmp 8))⟩,
      ⟨some 4, none, .prim (.mov (.tmp 22))⟩])
    .ret))
    .skip))
    (.seq (.ops [⟨some 23, none, .prim (.mov (.tmp 5))⟩,
      ⟨some 4, none, .prim (.mov (.tmp 23))⟩])
    .ret))))
def o130 : List Tmp := []
def r130 : List RV := [.tmp 4]
theorem t130 : Text Tryz.prog 130 o130 c130 r130 24 := ⟨⟨Tryz.f130, _, by kernel_rfl, by kernel_rfl, rfl, by kernel_rfl, by kernel_rfl, rfl⟩, by kernel_rfl⟩

/-- sordine/labels.Read -/
def c131 : ACode :=
  (.seq (.ops [⟨some 2, none, .prim (.mov (.const (Go.Value.slice Option.none 0 0)))⟩,
      ⟨some 3, none, .prim (.mov (.const (Go.Value.int Go.IntKind.i64 0)))⟩,
      ⟨some 4, none, .prim (.mov (.const (Go.Value.bool Bool.false)))⟩])
    (.seq (.ops [⟨some 9, none, .prim (.mov (.tmp 0))⟩,
      ⟨some 10, none, .call (.func 99) [(.tmp 9)]⟩,
      ⟨some 5, none, .prim (.mov (.tmp 10))⟩])
    (.seq (.ops [⟨some 6, none, .prim (.mov (.const (Go.Value.slice Option.none 0 0)))⟩])
    (.seq (.seq (.ops [⟨some 11, none, .prim (.mov (.tmp 5))⟩,
      ⟨some 12, none, .call (.func 122) [(.tmp 11), (.const (Go.Value.int Go.IntKind.u64 6))]⟩,
      ⟨some 13, none, .prim (.mov (.const (Go.Value.int Go.IntKind.u64 0)))⟩])
    (.block 0 (.loop [0, 1, 2, 3, 4, 7, 8, 9, 10, 11, 14, 15, 16, 17, 18, 19, 20, 21, 22, 23, 24, 25, 26, 27, 28, 29, 30, 31, 32, 33, 34, 35, 36] (.seq (.ops [⟨some 14, none, .prim (.bin false .lss (.tmp 13) (.tmp 12))⟩])
    (.seq (.cond (.tmp 14)
    .skip
    (.exit 0))
    (.seq (.block 1 (.ops [⟨some 15, none, .prim (.mov (.tmp 6))⟩,
      ⟨some 16, none, .prim (.mov (.tmp 5))⟩,
      ⟨some 17, none, .call (.func 123) [(.tmp 16), (.const (Go.Value.int Go.IntKind.i64 12))]⟩,
      ⟨some 18, none, .prim (.mov (.tmp 5))⟩,
      ⟨some 19, none, .call (.func 123) [(.tmp 18), (.const (Go.Value.int Go.IntKind.i64 24))]⟩,
      ⟨some 20, none, .prim (.build [.pl (.string .empty), .pl (.string .empty)] [(0, 1, (.tmp 17)), (1, 1, (.tmp 19))])⟩,
      ⟨some 21, none, .prim (.bsl false 2 true 1 [.pl (.string .empty), .pl (.string .empty)] [(0, 2, (.tmp 20))])⟩,
      ⟨some 22, none, .prim (.app 2 (.tmp 15) (.tmp 21))⟩,
      ⟨some 6, none, .prim (.mov (.tmp 22))⟩]))
    (.ops [⟨some 23, none, .prim (.bin false .add (.tmp 13) (.const (Go.Value.int Go.IntKind.u64 1)))⟩,
      ⟨some 13, none, .prim (.mov (.tmp 23))⟩])))))))
    (.seq (.ops [⟨some 24, none, .prim (.mov (.tmp 5))⟩,
      ⟨some 25, none, .prim (.mov (.tmp 6))⟩,
      ⟨some 26, none, .call (.func 71) [(.tmp 25)]⟩,
      ⟨some 27, none, .call (.func 121) [(.tmp 24), (.tmp 26)]⟩])
    (.seq (.ops [⟨some 29, none, .prim (.mov (.tmp 5))⟩,
      ⟨some 30, none, .call (.func 119) [(.tmp 29)]⟩,
      ⟨some 28, none, .prim (.mov (.tmp 30))⟩,
      ⟨some 31, none, .prim (.extr 0 (.tmp 28))⟩,
      ⟨some 32, none, .prim (.extr 1 (.tmp 28))⟩,
      ⟨some 7, none, .prim (.mov (.tmp 31))⟩,
      ⟨some 8, none, .prim (.mov (.tmp 32))⟩])
    (.seq (.seq (.ops [⟨some 33, none, .prim (.mov (.tmp 8))⟩,
      ⟨some 34, none, .prim (.un .not (.tmp 33))⟩])
    (.cond (.tmp 34)
    (.seq (.ops [⟨some 2, none, .prim (.mov (.const (Go.Value.slice Option.none 0 0)))⟩,
      ⟨some 3, none, .prim (.mov (.const (Go.Value.int Go.IntKind.i64 0)))⟩,
      ⟨some 4, none, .prim (.mov (.const (Go.Value.bool Bool.false)))⟩])
    (.ghost (.shut 2) .ret))
    .skip))
    (.seq (.ops [⟨some 35, none, .prim (.mov (.tmp 6))⟩,
      ⟨some 36, none, .prim (.mov (.tmp 7))⟩,
      ⟨some 2, none, .prim (.mov (.tmp 35))⟩,
      ⟨some 3, none, .prim (.mov (.tmp 36))⟩,
      ⟨some 4, none, .prim (.mov (.const (Go.Value.bool Bool.true)))⟩])
    (.ghost (.shut 2) .ret)))))))))
def o131 : List Tmp := []
def r131 : List RV := [.tmp 2, .tmp 3, .tmp 4]
theorem t131 : Text Tryz.prog 131 o131 c131 r131 37 := ⟨⟨Tryz.f131, _, by kernel_rfl, by kernel_rfl, rfl, by kernel_rfl, by kernel_rfl, rfl⟩, by kernel_rfl⟩

/-- sordine/real.Of -/
def c132 : ACode :=
  (.seq (.ops [⟨some 2, none, .prim (.mov (.const (Go.Value.float Go.FloatKind.f64 0)))⟩,
      ⟨some 3, none, .prim (.mov (.const (Go.Value.bool Bool.false)))⟩])
    (.seq (.ops [⟨some 5, none, .prim (.mov (.tmp 0))⟩,
      ⟨some 6, none, .call (.func 147) [(.tmp 5)]⟩,
      ⟨some 4, none, .prim (.mov (.tmp 6))⟩])
    (.seq (.seq (.ops [⟨some 7, none, .prim (.mov (.tmp 4))⟩,
      ⟨some 8, none, .call (.func 52) [(.tmp 7)]⟩,
      ⟨some 9, none, .prim (.mov (.tmp 0))⟩,
      ⟨some 10, none, .prim (.bin false .neq (.tmp 8) (.tmp 9))⟩])
    (.cond (.tmp 10)
    (.seq (.ops [⟨some 2, none, .prim (.mov (.const (Go.Value.float Go.FloatKind.f64 0)))⟩,
      ⟨some 3, none, .prim (.mov (.const (Go.Value.bool Bool.false)))⟩])
    .ret)
    .skip))
    (.seq (.ops [⟨some 11, none, .prim (.mov (.tmp 4))⟩,
      ⟨some 2, none, .prim (.mov (.tmp 11))⟩,
      ⟨some 3, none, .prim (.mov (.const (Go.Value.bool Bool.true)))⟩])
    .ret))))
def o132 : List Tmp := []
def r132 : List RV := [.tmp 2, .tmp 3]
theorem t132 : Text Tryz.prog 132 o132 c132 r132 12 := ⟨⟨Tryz.f132, _, by kernel_rfl, by kernel_rfl, rfl, by kernel_rfl, by kernel_rfl, rfl⟩, by kernel_rfl⟩

/-- (*sordine/peel.Reader).Word -/
def c133 : ACode :=
  (.seq (.ops [⟨some 2, none, .prim (.mov (.const (Go.Value.int Go.IntKind.u64 0)))⟩])
    (.seq (.ops [⟨some 6, none, .prim (.mov (.tmp 0))⟩,
      ⟨some 7, none, .call (.func 142) [(.tmp 6)]⟩,
      ⟨some 8, none, .call (.func 148) [(.tmp 7)]⟩,
      ⟨some 5, none, .prim (.mov (.tmp 8))⟩,
      ⟨some 9, none, .prim (.extr 0 (.tmp 5))⟩,
      ⟨some 10, none, .prim (.extr 1 (.tmp 5))⟩,
      ⟨some 3, none, .prim (.mov (.tmp 9))⟩,
      ⟨some 4, none, .prim (.mov (.tmp 10))⟩])
    (.seq (.seq (.ops [⟨some 11, none, .prim (.mov (.tmp 0))⟩,
      ⟨some 12, none, .prim (.mov (.tmp 4))⟩,
      ⟨some 13, none, .call (.func 143) [(.tmp 11), (.const (Go.Value.int Go.IntKind.i64 8)), (.tmp 12)]⟩,
      ⟨some 14, none, .prim (.un .not (.tmp 13))⟩])
    (.cond (.tmp 14)
    (.seq (.ops [⟨some 2, none, .prim (.mov (.const (Go.Value.int Go.IntKind.u64 0)))⟩])
    .ret)
    .skip))
    (.seq (.ops [⟨some 15, none, .prim (.mov (.tmp 3))⟩,
      ⟨some 2, none, .prim (.mov (.tmp 15))⟩])
    .ret))))
def o133 : List Tmp := []
def r133 : List RV := [.tmp 2]
theorem t133 : Text Tryz.prog 133 o133 c133 r133 16 := ⟨⟨Tryz.f133, _, by kernel_rfl, by kernel_rfl, rfl, by kernel_rfl, by kernel_rfl, rfl⟩, by kernel_rfl⟩

/-- cmp.isNaN[int] -/
def c134 : ACode :=
  (.seq (.ops [⟨some 2, none, .prim (.mov (.const (Go.Value.bool Bool.false)))⟩])
    (.seq (.ops [⟨some 3, none, .prim (.mov (.tmp 0))⟩,
      ⟨some 4, none, .prim (.mov (.tmp 0))⟩,
      ⟨some 5, none, .prim (.bin false .neq (.tmp 3) (.tmp 4))⟩,
      ⟨some 2, none, .prim (.mov (.tmp 5))⟩])
    .ret))
def o134 : List Tmp := []
def r134 : List RV := [.tmp 2]
theorem t134 : Text Tryz.prog 134 o134 c134 r134 6 := ⟨⟨Tryz.f134, _, by kernel_rfl, by kernel_rfl, rfl, by kernel_rfl, by kernel_rfl, rfl⟩, by kernel_rfl⟩

/-- slices.DeleteFunc[[]int,int] -/
def c135 : ACode :=
  (.seq (.ops [⟨some 4, none, .prim (.mov (.const (Go.Value.slice Option.none 0 0)))⟩])
    (.seq (.ops [⟨some 8, none, .prim (.mov (.tmp 0))⟩,
      ⟨some 9, none, .prim (.mov (.tmp 1))⟩,
      ⟨some 10, none, .call (.func 149) [(.tmp 8), (.tmp 9)]⟩,
      ⟨some 5, none, .prim (.mov (.tmp 10))⟩])
    (.seq (.seq (.ops [⟨some 11, none, .prim (.mov (.tmp 5))⟩,
      ⟨some 12, none, .prim (.bin false .eql (.tmp 11) (.const (Go.Value.int Go.IntKind.i64 (-1))))⟩])
    (.cond (.tmp 12)
    (.seq (.ops [⟨some 13, none, .prim (.mov (.tmp 0))⟩,
      ⟨some 4, none, .prim (.mov (.tmp 13))⟩])
    .ret)
    .skip))
    (.seq (.seq (.ops [⟨some 14, none, .prim (.mov (.tmp 5))⟩,
      ⟨some 15, none, .prim (.bin false .add (.tmp 14) (.const (Go.Value.int Go.IntKind.i64 1)))⟩,
      ⟨some 6, none, .prim (.mov (.tmp 15))⟩])
    (.block 0 (.loop [2, 3, 4, 7, 8, 9, 10, 11, 12, 13, 14, 15, 16, 17, 18, 19, 20, 21, 22, 23, 24, 25, 26, 27, 28, 29, 30, 31, 32, 33, 34, 35, 36, 37, 38, 39, 40, 41] (.seq (.seq (.ops [⟨some 16, none, .prim (.mov (.tmp 6))⟩,
      ⟨some 17, none, .prim (.mov (.tmp 0))⟩,
      ⟨some 18, none, .prim (.lenv (.tmp 17))⟩,
      ⟨some 19, none, .prim (.bin false .lss (.tmp 16) (.tmp 18))⟩])
    (.cond (.tmp 19)
    .skip
    (.exit 0)))
    (.seq (.block 1 (.seq (.ops [⟨some 22, none, .prim (.mov (.tmp 0))⟩,
      ⟨some 23, none, .prim (.mov (.tmp 6))⟩,
      ⟨some 24, none, .prim (.iadrs 1 (.tmp 22) (.tmp 23))⟩,
      ⟨some 25, none, .prim (.load 1 false (.tmp 24))⟩,
      ⟨some 7, none, .prim (.mov (.tmp 25))⟩])
    (.seq (.ops [⟨some 26, none, .prim (.mov (.tmp 1))⟩,
      ⟨some 27, none, .prim (.mov (.tmp 7))⟩,
      ⟨some 28, none, .call (.tmp 26) [(.tmp 27)]⟩,
      ⟨some 29, none, .prim (.un .not (.tmp 28))⟩])
    (.cond (.tmp 29)
    (.seq (.ops [⟨some 30, none, .prim (.mov (.tmp 0))⟩,
      ⟨some 31, none, .prim (.mov (.tmp 5))⟩,
      ⟨some 32, none, .prim (.mov (.tmp 7))⟩,
      ⟨some 33, none, .prim (.iadrs 1 (.tmp 30) (.tmp 31))⟩,
      ⟨none, none, .prim (.store 1 (.tmp 33) (.tmp 32))⟩])
    (.ops [⟨some 34, none, .prim (.mov (.tmp 5))⟩,
      ⟨some 35, none, .prim (.bin false .add (.tmp 34) (.const (Go.Value.int Go.IntKind.i64 1)))⟩,
      ⟨some 5, none, .prim (.mov (.tmp 35))⟩]))
    .skip))))
    (.ops [⟨some 20, none, .prim (.mov (.tmp 6))⟩,
      ⟨some 21, none, .prim (.bin false .add (.tmp 20) (.const (Go.Value.int Go.IntKind.i64 1)))⟩,
      ⟨some 6, none, .prim (.mov (.tmp 21))⟩]))))))
    (.seq (.ops [⟨some 36, none, .prim (.mov (.tmp 0))⟩,
      ⟨some 37, none, .prim (.mov (.tmp 5))⟩,
      ⟨some 38, none, .prim (.slcw 1 (.tmp 36) (.tmp 37))⟩,
      ⟨none, none, .prim (.clr 1 false [.pl (.int .i64 0)] (.tmp 38))⟩])
    (.seq (.ops [⟨some 39, none, .prim (.mov (.tmp 0))⟩,
      ⟨some 40, none, .prim (.mov (.tmp 5))⟩,
      ⟨some 41, none, .prim (.slco 1 (.tmp 39) none (some (.tmp 40)))⟩,
      ⟨some 4, none, .prim (.mov (.tmp 41))⟩])
    .ret))))))
def o135 : List Tmp := [38, 41]
def r135 : List RV := [.tmp 4]
theorem t135 : Text Tryz.prog 135 o135 c135 r135 42 := ⟨⟨Tryz.f135, _, by kernel_rfl, by kernel_rfl, rfl, by kernel_rfl, by kernel_rfl, rfl⟩, by kernel_rfl⟩

/-- sordine/rows.Make -/
def c136 : ACode :=
  (.seq (.ops [⟨some 2, none, .prim (.mov (.const (Go.Value.slice Option.none 0 0)))⟩])
    (.seq (.ops [⟨some 4, none, .prim (.mov (.tmp 0))⟩,
      ⟨some 5, none, .call (.func 150) [(.tmp 4)]⟩,
      ⟨some 3, none, .prim (.mov (.tmp 5))⟩])
    (.seq (.ops [⟨some 6, none, .prim (.mov (.tmp 3))⟩,
      ⟨some 7, none, .call (.func 151) [(.tmp 6)]⟩])
    (.seq (.ops [⟨some 8, none, .prim (.mov (.tmp 3))⟩,
      ⟨some 9, none, .call (.func 152) [(.tmp 8)]⟩,
      ⟨some 2, none, .prim (.mov (.tmp 9))⟩])
    .ret))))
def o136 : List Tmp := []
def r136 : List RV := [.tmp 2]
theorem t136 : Text Tryz.prog 136 o136 c136 r136 10 := ⟨⟨Tryz.f136, _, by kernel_rfl, by kernel_rfl, rfl, by kernel_rfl, by kernel_rfl, rfl⟩, by kernel_rfl⟩

/-- sordine/rows.kept$1 -/
def c137 : ACode :=
  (.seq (.ops [⟨some 3, none, .prim (.mov (.const (Go.Value.bool Bool.false)))⟩])
    (.seq (.ops [⟨some 4, none, .prim (.load 1 false (.tmp 1))⟩,
      ⟨some 5, none, .prim (.mov (.tmp 0))⟩,
      ⟨some 6, none, .call (.tmp 4) [(.tmp 5)]⟩,
      ⟨some 7, none, .prim (.un .not (.tmp 6))⟩,
      ⟨some 3, none, .prim (.mov (.tmp 7))⟩])
    .ret))
def o137 : List Tmp := []
def r137 : List RV := [.tmp 3]
theorem t137 : Text Tryz.prog 137 o137 c137 r137 8 := ⟨⟨Tryz.f137, _, by kernel_rfl, by kernel_rfl, rfl, by kernel_rfl, by kernel_rfl, rfl⟩, by kernel_rfl⟩

/-- slices.Contains[[]int,int] -/
def c138 : ACode :=
  (.seq (.ops [⟨some 4, none, .prim (.mov (.const (Go.Value.bool Bool.false)))⟩])
    (.seq (.ops [⟨some 5, none, .prim (.mov (.tmp 0))⟩,
      ⟨some 6, none, .prim (.mov (.tmp 1))⟩,
      ⟨some 7, none, .call (.func 153) [(.tmp 5), (.tmp 6)]⟩,
      ⟨some 8, none, .prim (.bin false .geq (.tmp 7) (.const (Go.Value.int Go.IntKind.i64 0)))⟩,
      ⟨some 4, none, .prim (.mov (.tmp 8))⟩])
    .ret))
def o138 : List Tmp := []
def r138 : List RV := [.tmp 4]
theorem t138 : Text Tryz.prog 138 o138 c138 r138 9 := ⟨⟨Tryz.f138, _, by kernel_rfl, by kernel_rfl, rfl, by kernel_rfl, by kernel_rfl, rfl⟩, by kernel_rfl⟩

/-- slices.order2Ordered[string] -/
def c139 : ACode :=
  (.seq (.ops [⟨some 8, none, .prim (.mov (.const (Go.Value.int Go.IntKind.i64 0)))⟩,
      ⟨some 9, none, .prim (.mov (.const (Go.Value.int Go.IntKind.i64 0)))⟩])
    (.seq (.seq (.draw [⟨⟨some 10, none, .prim (.mov (.tmp 0))⟩, [], false, 0, 0⟩,
      ⟨⟨some 11, none, .prim (.mov (.tmp 2))⟩, [], false, 0, 0⟩,
      ⟨⟨some 12, none, .prim (.iadrs 1 (.tmp 10) (.tmp 11))⟩, [0, 1], false, 0, 0⟩,
      ⟨⟨some 13, none, .prim (.load 1 false (.tmp 12))⟩, [0, 1, 2], false, 0, 0⟩,
      ⟨⟨some 14, none, .prim (.mov (.tmp 0))⟩, [], false, 0, 0⟩,
      ⟨⟨some 15, none, .prim (.mov (.tmp 1))⟩, [], false, 0, 0⟩,
      ⟨⟨some 16, none, .prim (.iadrs 1 (.tmp 14) (.tmp 15))⟩, [4, 5], false, 0, 0⟩,
      ⟨⟨some 17, none, .prim (.load 1 false (.tmp 16))⟩, [4, 5, 6], false, 0, 0⟩,
      ⟨⟨some 18, none, .call (.func 86) [(.tmp 13), (.tmp 17)]⟩, [0, 1, 2, 3, 4, 5, 6, 7], true, 0, 0⟩])
    (.cond (.tmp 18)
    (.seq (.ops [⟨some 19, none, .prim (.mov (.tmp 3))⟩,
      ⟨some 20, none, .prim (.nilc (.tmp 19))⟩,
      ⟨some 21, none, .prim (.load 1 false (.tmp 20))⟩,
      ⟨some 22, none, .prim (.bin false .add (.tmp 21) (.const (Go.Value.int Go.IntKind.i64 1)))⟩,
      ⟨some 23, none, .prim (.nilc (.tmp 19))⟩,
      ⟨none, none, .prim (.store 1 (.tmp 23) (.tmp 22))⟩])
    (.seq (.ops [⟨some 24, none, .prim (.mov (.tmp 2))⟩,
      ⟨some 25, none, .prim (.mov (.tmp 1))⟩,
      ⟨some 8, none, .prim (.mov (.tmp 24))⟩,
      ⟨some 9, none, .prim (.mov (.tmp 25))⟩])
    .ret))
    .skip))
    (.seq (.ops [⟨some 26, none, .prim (.mov (.tmp 1))⟩,
      ⟨some 27, none, .prim (.mov (.tmp 2))⟩,
      ⟨some 8, none, .prim (.mov (.tmp 26))⟩,
      ⟨some 9, none, .prim (.mov (.tmp 27))⟩])
    .ret)))
def o139 : List Tmp := []
def r139 : List RV := [.tmp 8, .tmp 9]
theorem t139 : Text Tryz.prog 139 o139 c139 r139 28 := ⟨⟨Tryz.f139, _, by kernel_rfl, by kernel_rfl, rfl, by kernel_rfl, by kernel_rfl, rfl⟩, by kernel_rfl⟩

/-- (*sordine/rex.parser).ways -/
def c140 : ACode :=
  (.seq (.ops [⟨some 4, none, .prim (.allocm [.pl (.int .i64 0), .pl (.int .u64 0), .pl (.int .u64 0), .pl (.int .u64 0), .pl (.int .u64 0), .nils])⟩])
    (.seq (.ops [⟨some 6, none, .prim (.mov (.tmp 0))⟩,
      ⟨some 7, none, .prim (.mov (.tmp 1))⟩,
      ⟨some 8, none, .call (.func 154) [(.tmp 6), (.tmp 7)]⟩,
      ⟨some 9, none, .prim (.bsl true 6 true 1 [.pl (.int .i64 0), .pl (.int .u64 0), .pl (.int .u64 0), .pl (.int .u64 0), .pl (.int .u64 0), .nils] [(0, 6, (.tmp 8))])⟩,
      ⟨some 5, none, .prim (.mov (.tmp 9))⟩])
    (.seq (.block 0 (.loop [2, 3, 6, 7, 8, 9, 10, 11, 12, 13, 14, 15, 16, 17, 18, 19, 20, 21, 22, 23, 24, 25] (.seq (.seq (.ops [⟨some 10, none, .prim (.mov (.tmp 0))⟩,
      ⟨some 11, none, .call (.func 155) [(.tmp 10), (.const (Go.Value.int Go.IntKind.u8 124))]⟩])
    (.cond (.tmp 11)
    .skip
    (.exit 0)))
    (.block 1 (.ops [⟨some 12, none, .prim (.mov (.tmp 5))⟩,
      ⟨some 13, none, .prim (.mov (.tmp 0))⟩,
      ⟨some 14, none, .prim (.mov (.tmp 1))⟩,
      ⟨some 15, none, .call (.func 154) [(.tmp 13), (.tmp 14)]⟩,
      ⟨some 16, none, .prim (.bsl false 6 true 1 [.pl (.int .i64 0), .pl (.int .u64 0), .pl (.int .u64 0), .pl (.int .u64 0), .pl (.int .u64 0), .nils] [(0, 6, (.tmp 15))])⟩,
      ⟨some 17, none, .prim (.app 6 (.tmp 12) (.tmp 16))⟩,
      ⟨some 5, none, .prim (.mov (.tmp 17))⟩])))))
    (.seq (.seq (.ops [⟨some 18, none, .prim (.mov (.tmp 5))⟩,
      ⟨some 19, none, .prim (.lenv (.tmp 18))⟩,
      ⟨some 20, none, .prim (.bin false .eql (.tmp 19) (.const (Go.Value.int Go.IntKind.i64 1)))⟩])
    (.cond (.tmp 20)
    (.seq (.ops [⟨some 21, none, .prim (.mov (.tmp 5))⟩,
      ⟨some 22, none, .prim (.iadrs 6 (.tmp 21) (.const (Go.Value.int Go.IntKind.i64 0)))⟩,
      ⟨some 23, none, .prim (.load 6 true (.tmp 22))⟩,
      ⟨none, none, .prim (.store 6 (.tmp 4) (.tmp 23))⟩])
    .ret)
    .skip))
    (.seq (.ghost (.shut 5) (.ops [⟨some 24, none, .prim (.mov (.tmp 5))⟩,
      ⟨some 25, none, .prim (.build [.pl (.int .i64 0), .pl (.int .u64 0), .pl (.int .u64 0), .pl (.int .u64 0), .pl (.int .u64 0), .nils] [(0, 1, (.const (Go.Value.int Go.IntKind.i64 3))), (5, 1, (.tmp 24))])⟩,
      ⟨none, none, .prim (.store 6 (.tmp 4) (.tmp 25))⟩]))
    .ret)))))
def o140 : List Tmp := [4, 9]
def r140 : List RV := [.cell 4 6 true]
theorem t140 : Text Tryz.prog 140 o140 c140 r140 26 := ⟨⟨Tryz.f140, _, by kernel_rfl, by kernel_rfl, rfl, by kernel_rfl, by kernel_rfl, rfl⟩, by kernel_rfl⟩

/-- internal/bytealg.CompareString -/
def c141 : ACode :=
  (.seq (.ops [⟨some 4, none, .prim (.mov (.const (Go.Value.int Go.IntKind.i64 0)))⟩])
    (.seq (.ops [⟨some 5, none, .prim (.mov (.tmp 0))⟩,
      ⟨some 6, none, .prim (.mov (.tmp 1))⟩,
      ⟨some 7, none, .call (.func 156) [(.tmp 5), (.tmp 6)]⟩,
      ⟨some 4, none, .prim (.mov (.tmp 7))⟩])
    .ret))
def o141 : List Tmp := []
def r141 : List RV := [.tmp 4]
theorem t141 : Text Tryz.prog 141 o141 c141 r141 8 := ⟨⟨Tryz.f141, _, by kernel_rfl, by kernel_rfl, rfl, by kernel_rfl, by kernel_rfl, rfl⟩, by kernel_rfl⟩

/-- (*sordine/peel.Reader).rest -/
def c142 : ACode :=
  (.seq (.ops [⟨some 2, none, .prim (.mov (.const (Go.Value.slice Option.none 0 0)))⟩])
    (.seq (.draw [⟨⟨some 3, none, .prim (.mov (.tmp 0))⟩, [], false, 0, 0⟩,
      ⟨⟨some 4, none, .prim (.nilc (.tmp 3))⟩, [0], false, 0, 0⟩,
      ⟨⟨some 5, none, .prim (.fadr 0 (.tmp 4))⟩, [0, 1], false, 0, 0⟩,
      ⟨⟨some 6, none, .prim (.load 1 false (.tmp 5))⟩, [0, 1, 2], false, 0, 0⟩,
      ⟨⟨some 7, none, .prim (.mov (.tmp 0))⟩, [], false, 0, 0⟩,
      ⟨⟨some 8, none, .prim (.nilc (.tmp 7))⟩, [4], false, 0, 0⟩,
      ⟨⟨some 9, none, .prim (.fadr 1 (.tmp 8))⟩, [4, 5], false, 0, 0⟩,
      ⟨⟨some 10, none, .prim (.load 1 false (.tmp 9))⟩, [4, 5, 6], false, 0, 0⟩,
      ⟨⟨some 11, none, .prim (.slcv 1 (.tmp 6) (some (.tmp 10)) none)⟩, [0, 1, 2, 3, 4, 5, 6, 7], false, 0, 0⟩,
      ⟨⟨some 2, none, .prim (.mov (.tmp 11))⟩, [0, 1, 2, 3, 4, 5, 6, 7, 8], false, 0, 0⟩])
    (.ghost (.shut 2) .ret)))
def o142 : List Tmp := []
def r142 : List RV := [.tmp 2]
theorem t142 : Text Tryz.prog 142 o142 c142 r142 12 := ⟨⟨Tryz.f142, _, by kernel_rfl, by kernel_rfl, rfl, by kernel_rfl, by kernel_rfl, rfl⟩, by kernel_rfl⟩

/-- (*sordine/peel.Reader).took -/
def c143 : ACode :=
  (.seq (.ops [⟨some 6, none, .prim (.mov (.const (Go.Value.bool Bool.false)))⟩])
    (.seq (.ops [⟨some 7, none, .prim (.mov (.tmp 0))⟩,
      ⟨some 8, none, .prim (.mov (.tmp 0))⟩,
      ⟨some 9, none, .prim (.nilc (.tmp 8))⟩,
      ⟨some 10, none, .prim (.fadr 2 (.tmp 9))⟩,
      ⟨some 11, none, .prim (.load 1 false (.tmp 10))⟩,
      ⟨some 12, none, .prim (.mov (.tmp 11))⟩,
      ⟨some 13, (some (12, false)), .prim (.mov (.tmp 2))⟩,
      ⟨some 14, (some (12, false)), .prim (.un .not (.tmp 13))⟩,
      ⟨some 15, none, .prim (.pick (.tmp 12) (.const (Go.Value.bool Bool.true)) (.tmp 14))⟩,
      ⟨some 16, none, .prim (.nilc (.tmp 7))⟩,
      ⟨some 17, none, .prim (.fadr 2 (.tmp 16))⟩,
      ⟨none, none, .prim (.store 1 (.tmp 17) (.tmp 15))⟩])
    (.seq (.seq (.ops [⟨some 18, none, .prim (.mov (.tmp 0))⟩,
      ⟨some 19, none, .prim (.nilc (.tmp 18))⟩,
      ⟨some 20, none, .prim (.fadr 2 (.tmp 19))⟩,
      ⟨some 21, none, .prim (.load 1 false (.tmp 20))⟩,
      ⟨some 22, none, .prim (.un .not (.tmp 21))⟩])
    (.cond (.tmp 22)
    (.ops [⟨some 23, none, .prim (.mov (.tmp 0))⟩,
      ⟨some 24, none, .prim (.nilc (.tmp 23))⟩,
      ⟨some 25, none, .prim (.fadr 1 (.tmp 24))⟩,
      ⟨some 26, none, .prim (.load 1 false (.tmp 25))⟩,
      ⟨some 27, none, .prim (.mov (.tmp 1))⟩,
      ⟨some 28, none, .prim (.bin false .add (.tmp 26) (.tmp 27))⟩,
      ⟨some 29, none, .prim (.nilc (.tmp 23))⟩,
      ⟨some 30, none, .prim (.fadr 1 (.tmp 29))⟩,
      ⟨none, none, .prim (.store 1 (.tmp 30) (.tmp 28))⟩])
    .skip))
    (.seq (.ops [⟨some 31, none, .prim (.mov (.tmp 0))⟩,
      ⟨some 32, none, .prim (.nilc (.tmp 31))⟩,
      ⟨some 33, none, .prim (.fadr 2 (.tmp 32))⟩,
      ⟨some 34, none, .prim (.load 1 false (.tmp 33))⟩,
      ⟨some 35, none, .prim (.un .not (.tmp 34))⟩,
      ⟨some 6, none, .prim (.mov (.tmp 35))⟩])
    .ret))))
def o143 : List Tmp := []
def r143 : List RV := [.tmp 6]
theorem t143 : Text Tryz.prog 143 o143 c143 r143 36 := ⟨⟨Tryz.f143, _, by kernel_rfl, by kernel_rfl, rfl, by kernel_rfl, by kernel_rfl, rfl⟩, by kernel_rfl⟩

/-- sordine/vint.Get -/
def c144 : ACode :=
  (.seq (.ops [⟨some 2, none, .prim (.mov (.const (Go.Value.int Go.IntKind.u64 0)))⟩,
      ⟨some 3, none, .prim (.mov (.const (Go.Value.int Go.IntKind.i64 0)))⟩,
      ⟨some 4, none, .prim (.mov (.const (Go.Value.bool Bool.false)))⟩])
    (.seq (.ops [⟨some 5, none, .prim (.mov (.const (Go.Value.int Go.IntKind.u64 0)))⟩])
    (.seq (.seq (.ops [⟨some 8, none, .prim (.mov (.tmp 0))⟩,
      ⟨some 9, none, .prim (.lenv (.tmp 8))⟩,
      ⟨some 10, none, .prim (.mov (.const (Go.Value.int Go.IntKind.i64 0)))⟩])
    (.block 0 (.loop [0, 1, 2, 3, 4, 6, 7, 11, 12, 13, 14, 15, 16, 17, 18, 19, 20, 21, 22, 23, 24, 25, 26, 27, 28, 29, 30, 31, 32, 33, 34, 35, 36, 37, 38, 39, 40, 41, 42] (.seq (.ops [⟨some 11, none, .prim (.bin false .lss (.tmp 10) (.tmp 9))⟩])
    (.seq (.cond (.tmp 11)
    .skip
    (.exit 0))
    (.seq (.block 1 (.seq (.ops [⟨some 12, none, .prim (.mov (.tmp 10))⟩,
      ⟨some 13, none, .prim (.iadrs 1 (.tmp 8) (.tmp 10))⟩,
      ⟨some 14, none, .prim (.load 1 false (.tmp 13))⟩,
      ⟨some 6, none, .prim (.mov (.tmp 12))⟩,
      ⟨some 7, none, .prim (.mov (.tmp 14))⟩])
    (.seq (.seq (.ops [⟨some 15, none, .prim (.mov (.tmp 6))⟩,
      ⟨some 16, none, .prim (.bin false .eql (.tmp 15) (.const (Go.Value.int Go.IntKind.i64 9)))⟩,
      ⟨some 17, none, .prim (.mov (.tmp 16))⟩,
      ⟨some 18, (some (17, true)), .prim (.mov (.tmp 7))⟩,
      ⟨some 19, (some (17, true)), .prim (.bin false .gtr (.tmp 18) (.const (Go.Value.int Go.IntKind.u8 1)))⟩,
      ⟨some 20, none, .prim (.pick (.tmp 17) (.tmp 19) (.const (Go.Value.bool Bool.false)))⟩,
      ⟨some 21, none, .prim (.mov (.tmp 20))⟩,
      ⟨some 22, (some (21, false)), .prim (.mov (.tmp 6))⟩,
      ⟨some 23, (some (21, false)), .prim (.bin false .gtr (.tmp 22) (.const (Go.Value.int Go.IntKind.i64 0)))⟩,
      ⟨some 24, (some (21, false)), .prim (.mov (.tmp 23))⟩,
      ⟨some 25, (some (24, true)), .prim (.mov (.tmp 7))⟩,
      ⟨some 26, (some (24, true)), .prim (.bin false .eql (.tmp 25) (.const (Go.Value.int Go.IntKind.u8 0)))⟩,
      ⟨some 27, (some (21, false)), .prim (.pick (.tmp 24) (.tmp 26) (.const (Go.Value.bool Bool.false)))⟩,
      ⟨some 28, none, .prim (.pick (.tmp 21) (.const (Go.Value.bool Bool.true)) (.tmp 27))⟩])
    (.cond (.tmp 28)
    (.exit 0)
    .skip))
    (.seq (.ops [⟨some 29, none, .prim (.mov (.tmp 5))⟩,
      ⟨some 30, none, .prim (.mov (.tmp 7))⟩,
      ⟨some 31, none, .prim (.bin false .and (.tmp 30) (.const (Go.Value.int Go.IntKind.u8 127)))⟩,
      ⟨some 32, none, .prim (.convi .u64 (.tmp 31))⟩,
      ⟨some 33, none, .prim (.mov (.tmp 6))⟩,
      ⟨some 34, none, .prim (.bin false .mul (.const (Go.Value.int Go.IntKind.i64 7)) (.tmp 33))⟩,
      ⟨some 35, none, .prim (.bin false .shl (.tmp 32) (.tmp 34))⟩,
      ⟨some 36, none, .prim (.bin false .or (.tmp 29) (.tmp 35))⟩,
      ⟨some 5, none, .prim (.mov (.tmp 36))⟩])
    (.seq (.ops [⟨some 37, none, .prim (.mov (.tmp 7))⟩,
      ⟨some 38, none, .prim (.bin false .lss (.tmp 37) (.const (Go.Value.int Go.IntKind.u8 128)))⟩])
    (.cond (.tmp 38)
    (.seq (.ops [⟨some 39, none, .prim (.mov (.tmp 5))⟩,
      ⟨some 40, none, .prim (.mov (.tmp 6))⟩,
      ⟨some 41, none, .prim (.bin false .add (.tmp 40) (.const (Go.Value.int Go.IntKind.i64 1)))⟩,
      ⟨some 2, none, .prim (.mov (.tmp 39))⟩,
      ⟨some 3, none, .prim (.mov (.tmp 41))⟩,
      ⟨some 4, none, .prim (.mov (.const (Go.Value.bool Bool.true)))⟩])
    .ret)
    .skip))))))
    (.ops [⟨some 42, none, .prim (.bin false .add (.tmp 10) (.const (Go.Value.int Go.IntKind.i64 1)))⟩,
      ⟨some 10, none, .prim (.mov (.tmp 42))⟩])))))))
    (.seq (.ops [⟨some 2, none, .prim (.mov (.const (Go.Value.int Go.IntKind.u64 0)))⟩,
      ⟨some 3, none, .prim (.mov (.const (Go.Value.int Go.IntKind.i64 0)))⟩,
      ⟨some 4, none, .prim (.mov (.const (Go.Value.bool Bool.false)))⟩])
    .ret))))
def o144 : List Tmp := []
def r144 : List RV := [.tmp 2, .tmp 3, .tmp 4]
theorem t144 : Text Tryz.prog 144 o144 c144 r144 43 := ⟨⟨Tryz.f144, _, by kernel_rfl, by kernel_rfl, rfl, by kernel_rfl, by kernel_rfl, rfl⟩, by kernel_rfl⟩

/-- sordine/vint.GetText -/
def c145 : ACode :=
  (.seq (.ops [⟨some 4, none, .prim (.mov (.const (Go.Value.string (ByteArray.mk #[]))))⟩,
      ⟨some 5, none, .prim (.mov (.const (Go.Value.int Go.IntKind.i64 0)))⟩,
      ⟨some 6, none, .prim (.mov (.const (Go.Value.bool Bool.false)))⟩])
    (.seq (.ops [⟨some 12, none, .prim (.mov (.tmp 0))⟩,
      ⟨some 13, none, .call (.func 144) [(.tmp 12)]⟩,
      ⟨some 11, none, .prim (.mov (.tmp 13))⟩,
      ⟨some 14, none, .prim (.extr 0 (.tmp 11))⟩,
      ⟨some 15, none, .prim (.extr 1 (.tmp 11))⟩,
      ⟨some 16, none, .prim (.extr 2 (.tmp 11))⟩,
      ⟨some 7, none, .prim (.mov (.tmp 14))⟩,
      ⟨some 8, none, .prim (.mov (.tmp 15))⟩,
      ⟨some 9, none, .prim (.mov (.tmp 16))⟩])
    (.seq (.seq (.ops [⟨some 17, none, .prim (.mov (.tmp 9))⟩,
      ⟨some 18, none, .prim (.un .not (.tmp 17))⟩,
      ⟨some 19, none, .prim (.mov (.tmp 18))⟩,
      ⟨some 20, (some (19, false)), .prim (.mov (.tmp 1))⟩,
      ⟨some 21, (some (19, false)), .prim (.bin false .lss (.tmp 20) (.const (Go.Value.int Go.IntKind.i64 0)))⟩,
      ⟨some 22, none, .prim (.pick (.tmp 19) (.const (Go.Value.bool Bool.true)) (.tmp 21))⟩,
      ⟨some 23, none, .prim (.mov (.tmp 22))⟩,
      ⟨some 24, (some (23, false)), .prim (.mov (.tmp 7))⟩,
      ⟨some 25, (some (23, false)), .prim (.mov (.tmp 1))⟩,
      ⟨some 26, (some (23, false)), .prim (.convi .u64 (.tmp 25))⟩,
      ⟨some 27, (some (23, false)), .prim (.bin false .gtr (.tmp 24) (.tmp 26))⟩,
      ⟨some 28, none, .prim (.pick (.tmp 23) (.const (Go.Value.bool Bool.true)) (.tmp 27))⟩,
      ⟨some 29, none, .prim (.mov (.tmp 28))⟩,
      ⟨some 30, (some (29, false)), .prim (.mov (.tmp 7))⟩,
      ⟨some 31, (some (29, false)), .prim (.mov (.tmp 0))⟩,
      ⟨some 32, (some (29, false)), .prim (.lenv (.tmp 31))⟩,
      ⟨some 33, (some (29, false)), .prim (.mov (.tmp 8))⟩,
      ⟨some 34, (some (29, false)), .prim (.bin false .sub (.tmp 32) (.tmp 33))⟩,
      ⟨some 35, (some (29, false)), .prim (.convi .u64 (.tmp 34))⟩,
      ⟨some 36, (some (29, false)), .prim (.bin false .gtr (.tmp 30) (.tmp 35))⟩,
      ⟨some 37, none, .prim (.pick (.tmp 29) (.const (Go.Value.bool Bool.true)) (.tmp 36))⟩])
    (.cond (.tmp 37)
    (.seq (.ops [⟨some 4, none, .prim (.mov (.const (Go.Value.string (ByteArray.mk #[]))))⟩,
      ⟨some 5, none, .prim (.mov (.const (Go.Value.int Go.IntKind.i64 0)))⟩,
      ⟨some 6, none, .prim (.mov (.const (Go.Value.bool Bool.false)))⟩])
    .ret)
    .skip))
    (.seq (.ops [⟨some 38, none, .prim (.mov (.tmp 8))⟩,
      ⟨some 39, none, .prim (.mov (.tmp 7))⟩,
      ⟨some 40, none, .prim (.convi .i64 (.tmp 39))⟩,
      ⟨some 41, none, .prim (.bin false .add (.tmp 38) (.tmp 40))⟩,
      ⟨some 10, none, .prim (.mov (.tmp 41))⟩])
    (.seq (.ops [⟨some 42, none, .prim (.mov (.tmp 0))⟩,
      ⟨some 43, none, .prim (.mov (.tmp 8))⟩,
      ⟨some 44, none, .prim (.mov (.tmp 10))⟩,
      ⟨some 45, none, .prim (.slcv 1 (.tmp 42) (some (.tmp 43)) (some (.tmp 44)))⟩,
      ⟨some 46, none, .prim (.b2s (.tmp 45))⟩,
      ⟨some 47, none, .prim (.mov (.tmp 10))⟩,
      ⟨some 4, none, .prim (.mov (.tmp 46))⟩,
      ⟨some 5, none, .prim (.mov (.tmp 47))⟩,
      ⟨some 6, none, .prim (.mov (.const (Go.Value.bool Bool.true)))⟩])
    .ret)))))
def o145 : List Tmp := []
def r145 : List RV := [.tmp 4, .tmp 5, .tmp 6]
theorem t145 : Text Tryz.prog 145 o145 c145 r145 48 := ⟨⟨Tryz.f145, _, by kernel_rfl, by kernel_rfl, rfl, by kernel_rfl, by kernel_rfl, rfl⟩, by kernel_rfl⟩

/-- sordine/rule.value -/
def c146 : ACode :=
  (.seq (.ops [⟨some 2, none, .prim (.mov (.const (Go.Value.float Go.FloatKind.f64 0)))⟩])
    (.seq (.ops [⟨some 6, none, .prim (.mov (.tmp 0))⟩,
      ⟨some 7, none, .call (.func 133) [(.tmp 6)]⟩,
      ⟨some 8, none, .call (.func 132) [(.tmp 7)]⟩,
      ⟨some 5, none, .prim (.mov (.tmp 8))⟩,
      ⟨some 9, none, .prim (.extr 0 (.tmp 5))⟩,
      ⟨some 10, none, .prim (.extr 1 (.tmp 5))⟩,
      ⟨some 3, none, .prim (.mov (.tmp 9))⟩,
      ⟨some 4, none, .prim (.mov (.tmp 10))⟩])
    (.seq (.ops [⟨some 11, none, .prim (.mov (.tmp 0))⟩,
      ⟨some 12, none, .prim (.mov (.tmp 4))⟩,
      ⟨some 13, none, .call (.func 121) [(.tmp 11), (.tmp 12)]⟩])
    (.seq (.ops [⟨some 14, none, .prim (.mov (.tmp 3))⟩,
      ⟨some 2, none, .prim (.mov (.tmp 14))⟩])
    .ret))))
def o146 : List Tmp := []
def r146 : List RV := [.tmp 2]
theorem t146 : Text Tryz.prog 146 o146 c146 r146 15 := ⟨⟨Tryz.f146, _, by kernel_rfl, by kernel_rfl, rfl, by kernel_rfl, by kernel_rfl, rfl⟩, by kernel_rfl⟩

/-- sordine/vint.GetWord -/
def c148 : ACode :=
  (.seq (.ops [⟨some 2, none, .prim (.mov (.const (Go.Value.int Go.IntKind.u64 0)))⟩,
      ⟨some 3, none, .prim (.mov (.const (Go.Value.bool Bool.false)))⟩])
    (.seq (.seq (.ops [⟨some 7, none, .prim (.mov (.tmp 0))⟩,
      ⟨some 8, none, .prim (.lenv (.tmp 7))⟩,
      ⟨some 9, none, .prim (.bin false .lss (.tmp 8) (.const (Go.Value.int Go.IntKind.i64 8)))⟩])
    (.cond (.tmp 9)
    (.seq (.ops [⟨some 2, none, .prim (.mov (.const (Go.Value.int Go.IntKind.u64 0)))⟩,
      ⟨some 3, none, .prim (.mov (.const (Go.Value.bool Bool.false)))⟩])
    .ret)
    .skip))
    (.seq (.ops [⟨some 4, none, .prim (.mov (.const (Go.Value.int Go.IntKind.u64 0)))⟩])
    (.seq (.seq (.ops [⟨some 10, none, .prim (.mov (.tmp 0))⟩,
      ⟨some 11, none, .prim (.slcv 1 (.tmp 10) none (some (.const (Go.Value.int Go.IntKind.i64 8))))⟩,
      ⟨some 12, none, .prim (.lenv (.tmp 11))⟩,
      ⟨some 13, none, .prim (.mov (.const (Go.Value.int Go.IntKind.i64 0)))⟩])
    (.block 0 (.loop [0, 1, 2, 3, 5, 6, 7, 8, 9, 10, 14, 15, 16, 17, 18, 19, 20, 21, 22, 23] (.seq (.ops [⟨some 14, none, .prim (.bin false .lss (.tmp 13) (.tmp 12))⟩])
    (.seq (.cond (.tmp 14)
    .skip
    (.exit 0))
    (.seq (.block 1 (.seq (.ops [⟨some 15, none, .prim (.iadrs 1 (.tmp 11) (.tmp 13))⟩,
      ⟨some 16, none, .prim (.load 1 false (.tmp 15))⟩,
      ⟨some 6, none, .prim (.mov (.tmp 16))⟩])
    (.ops [⟨some 17, none, .prim (.mov (.tmp 4))⟩,
      ⟨some 18, none, .prim (.bin false .shl (.tmp 17) (.const (Go.Value.int Go.IntKind.u64 8)))⟩,
      ⟨some 19, none, .prim (.mov (.tmp 6))⟩,
      ⟨some 20, none, .prim (.convi .u64 (.tmp 19))⟩,
      ⟨some 21, none, .prim (.bin false .or (.tmp 18) (.tmp 20))⟩,
      ⟨some 4, none, .prim (.mov (.tmp 21))⟩])))
    (.ops [⟨some 22, none, .prim (.bin false .add (.tmp 13) (.const (Go.Value.int Go.IntKind.i64 1)))⟩,
      ⟨some 13, none, .prim (.mov (.tmp 22))⟩])))))))
    (.seq (.ops [⟨some 23, none, .prim (.mov (.tmp 4))⟩,
      ⟨some 2, none, .prim (.mov (.tmp 23))⟩,
      ⟨some 3, none, .prim (.mov (.const (Go.Value.bool Bool.true)))⟩])
    .ret)))))
def o148 : List Tmp := []
def r148 : List RV := [.tmp 2, .tmp 3]
theorem t148 : Text Tryz.prog 148 o148 c148 r148 24 := ⟨⟨Tryz.f148, _, by kernel_rfl, by kernel_rfl, rfl, by kernel_rfl, by kernel_rfl, rfl⟩, by kernel_rfl⟩

/-- slices.IndexFunc[[]int,int] -/
def c149 : ACode :=
  (.seq (.ops [⟨some 4, none, .prim (.mov (.const (Go.Value.int Go.IntKind.i64 0)))⟩])
    (.seq (.seq (.ops [⟨some 6, none, .prim (.mov (.tmp 0))⟩,
      ⟨some 7, none, .prim (.lenv (.tmp 6))⟩,
      ⟨some 8, none, .prim (.mov (.const (Go.Value.int Go.IntKind.i64 0)))⟩])
    (.block 0 (.loop [2, 3, 4, 5, 6, 9, 10, 11, 12, 13, 14, 15, 16, 17, 18] (.seq (.ops [⟨some 9, none, .prim (.bin false .lss (.tmp 8) (.tmp 7))⟩])
    (.seq (.cond (.tmp 9)
    .skip
    (.exit 0))
    (.seq (.block 1 (.seq (.ops [⟨some 10, none, .prim (.mov (.tmp 8))⟩,
      ⟨some 5, none, .prim (.mov (.tmp 10))⟩])
    (.seq (.ops [⟨some 11, none, .prim (.mov (.tmp 1))⟩,
      ⟨some 12, none, .prim (.mov (.tmp 0))⟩,
      ⟨some 13, none, .prim (.mov (.tmp 5))⟩,
      ⟨some 14, none, .prim (.iadrs 1 (.tmp 12) (.tmp 13))⟩,
      ⟨some 15, none, .prim (.load 1 false (.tmp 14))⟩,
      ⟨some 16, none, .call (.tmp 11) [(.tmp 15)]⟩])
    (.cond (.tmp 16)
    (.seq (.ops [⟨some 17, none, .prim (.mov (.tmp 5))⟩,
      ⟨some 4, none, .prim (.mov (.tmp 17))⟩])
    .ret)
    .skip))))
    (.ops [⟨some 18, none, .prim (.bin false .add (.tmp 8) (.const (Go.Value.int Go.IntKind.i64 1)))⟩,
      ⟨some 8, none, .prim (.mov (.tmp 18))⟩])))))))
    (.seq (.ops [⟨some 4, none, .prim (.mov (.const (Go.Value.int Go.IntKind.i64 (-1))))⟩])
    .ret)))
def o149 : List Tmp := []
def r149 : List RV := [.tmp 4]
theorem t149 : Text Tryz.prog 149 o149 c149 r149 19 := ⟨⟨Tryz.f149, _, by kernel_rfl, by kernel_rfl, rfl, by kernel_rfl, by kernel_rfl, rfl⟩, by kernel_rfl⟩

/-- slices.Clone[[]int,int] -/
def c150 : ACode :=
  (.seq (.ops [⟨some 2, none, .prim (.mov (.const (Go.Value.slice Option.none 0 0)))⟩])
    (.seq (.seq (.ops [⟨some 3, none, .prim (.mov (.tmp 0))⟩,
      ⟨some 4, none, .prim (.isnil false false (.tmp 3))⟩])
    (.cond (.tmp 4)
    (.seq (.ops [⟨some 2, none, .prim (.mov (.const (Go.Value.slice Option.none 0 0)))⟩])
    .ret)
    .skip))
    (.seq (.ops [⟨some 5, none, .prim (.bsl true 1 false 0 [.pl (.int .i64 0)] [])⟩,
      ⟨some 6, none, .prim (.mov (.tmp 0))⟩,
      ⟨some 7, none, .prim (.app 1 (.tmp 5) (.tmp 6))⟩,
      ⟨some 2, none, .prim (.mov (.tmp 7))⟩])
    .ret)))
def o150 : List Tmp := [5]
def r150 : List RV := [.tmp 2]
theorem t150 : Text Tryz.prog 150 o150 c150 r150 8 := ⟨⟨Tryz.f150, _, by kernel_rfl, by kernel_rfl, rfl, by kernel_rfl, by kernel_rfl, rfl⟩, by kernel_rfl⟩

/-- slices.Sort[[]int,int] -/
def c151 : ACode :=
  (.seq (.ops [⟨some 3, none, .prim (.mov (.tmp 0))⟩,
      ⟨some 4, none, .prim (.lenv (.tmp 3))⟩,
      ⟨some 2, none, .prim (.mov (.tmp 4))⟩])
    (.ops [⟨some 5, none, .prim (.mov (.tmp 0))⟩,
      ⟨some 6, none, .prim (.mov (.tmp 2))⟩,
      ⟨some 7, none, .prim (.mov (.tmp 2))⟩,
      ⟨some 8, none, .prim (.convi .u64 (.tmp 7))⟩,
      ⟨some 9, none, .call (.func 65) [(.tmp 8)]⟩,
      ⟨some 10, none, .call (.func 157) [(.tmp 5), (.const (Go.Value.int Go.IntKind.i64 0)), (.tmp 6), (.tmp 9)]⟩]))
def o151 : List Tmp := []
def r151 : List RV := []
theorem t151 : Text Tryz.prog 151 o151 c151 r151 11 := ⟨⟨Tryz.f151, _, by kernel_rfl, by kernel_rfl, rfl, by kernel_rfl, by kernel_rfl, rfl⟩, by kernel_rfl⟩

/-- slices.Compact[[]int,int] -/
def c152 : ACode :=
  (.seq (.ops [⟨some 2, none, .prim (.mov (.const (Go.Value.slice Option.none 0 0)))⟩])
    (.seq (.seq (.ops [⟨some 6, none, .prim (.mov (.tmp 0))⟩,
      ⟨some 7, none, .prim (.lenv (.tmp 6))⟩,
      ⟨some 8, none, .prim (.bin false .lss (.tmp 7) (.const (Go.Value.int Go.IntKind.i64 2)))⟩])
    (.cond (.tmp 8)
    (.seq (.ops [⟨some 9, none, .prim (.mov (.tmp 0))⟩,
      ⟨some 2, none, .prim (.mov (.tmp 9))⟩])
    .ret)
    .skip))
    (.seq (.seq (.ops [⟨some 3, none, .prim (.mov (.const (Go.Value.int Go.IntKind.i64 1)))⟩])
    (.block 0 (.loop [1, 2, 4, 5, 6, 7, 8, 9, 10, 11, 12, 13, 14, 15, 16, 17, 18, 19, 20, 21, 22, 23, 24, 25, 26, 27, 28, 29, 30, 31, 32, 33, 34, 35, 36, 37, 38, 39, 40, 41, 42, 43, 44, 45, 46, 47, 48, 49, 50, 51, 52, 53, 54, 55, 56, 57, 58, 59, 60] (.seq (.seq (.ops [⟨some 10, none, .prim (.mov (.tmp 3))⟩,
      ⟨some 11, none, .prim (.mov (.tmp 0))⟩,
      ⟨some 12, none, .prim (.lenv (.tmp 11))⟩,
      ⟨some 13, none, .prim (.bin false .lss (.tmp 10) (.tmp 12))⟩])
    (.cond (.tmp 13)
    .skip
    (.exit 0)))
    (.seq (.block 1 (.seq (.draw [⟨⟨some 16, none, .prim (.mov (.tmp 0))⟩, [], false, 0, 0⟩,
      ⟨⟨some 17, none, .prim (.mov (.tmp 3))⟩, [], false, 0, 0⟩,
      ⟨⟨some 18, none, .prim (.iadrs 1 (.tmp 16) (.tmp 17))⟩, [0, 1], false, 0, 0⟩,
      ⟨⟨some 19, none, .prim (.load 1 false (.tmp 18))⟩, [0, 1, 2], false, 0, 0⟩,
      ⟨⟨some 20, none, .prim (.mov (.tmp 0))⟩, [], false, 0, 0⟩,
      ⟨⟨some 21, none, .prim (.mov (.tmp 3))⟩, [], false, 0, 0⟩,
      ⟨⟨some 22, none, .prim (.bin false .sub (.tmp 21) (.const (Go.Value.int Go.IntKind.i64 1)))⟩, [5], false, 0, 0⟩,
      ⟨⟨some 23, none, .prim (.iadrs 1 (.tmp 20) (.tmp 22))⟩, [4, 5, 6], false, 0, 0⟩,
      ⟨⟨some 24, none, .prim (.load 1 false (.tmp 23))⟩, [4, 5, 6, 7], false, 0, 0⟩,
      ⟨⟨some 25, none, .prim (.bin false .eql (.tmp 19) (.tmp 24))⟩, [0, 1, 2, 3, 4, 5, 6, 7, 8], false, 0, 0⟩])
    (.cond (.tmp 25)
    (.seq (.ops [⟨some 26, none, .prim (.mov (.tmp 0))⟩,
      ⟨some 27, none, .prim (.mov (.tmp 3))⟩,
      ⟨some 28, none, .prim (.slcw 1 (.tmp 26) (.tmp 27))⟩,
      ⟨some 4, none, .prim (.mov (.tmp 28))⟩])
    (.seq (.seq (.ops [⟨some 5, none, .prim (.mov (.const (Go.Value.int Go.IntKind.i64 1)))⟩])
    (.block 2 (.loop [1, 2, 6, 7, 8, 9, 10, 11, 12, 13, 14, 15, 16, 17, 18, 19, 20, 21, 22, 23, 24, 25, 26, 27, 28, 29, 30, 31, 32, 33, 34, 35, 36, 37, 38, 39, 40, 41, 42, 43, 44, 45, 46, 47, 48, 49, 50, 51, 52, 53, 54, 55, 56, 57, 58, 59, 60] (.seq (.seq (.ops [⟨some 29, none, .prim (.mov (.tmp 5))⟩,
      ⟨some 30, none, .prim (.mov (.tmp 4))⟩,
      ⟨some 31, none, .prim (.lenv (.tmp 30))⟩,
      ⟨some 32, none, .prim (.bin false .lss (.tmp 29) (.tmp 31))⟩])
    (.cond (.tmp 32)
    .skip
    (.exit 2)))
    (.seq (.block 3 (.seq (.draw [⟨⟨some 35, none, .prim (.mov (.tmp 4))⟩, [], false, 0, 0⟩,
      ⟨⟨some 36, none, .prim (.mov (.tmp 5))⟩, [], false, 0, 0⟩,
      ⟨⟨some 37, none, .prim (.iadrs 1 (.tmp 35) (.tmp 36))⟩, [0, 1], false, 0, 0⟩,
      ⟨⟨some 38, none, .prim (.load 1 false (.tmp 37))⟩, [0, 1, 2], false, 0, 0⟩,
      ⟨⟨some 39, none, .prim (.mov (.tmp 4))⟩, [], false, 0, 0⟩,
      ⟨⟨some 40, none, .prim (.mov (.tmp 5))⟩, [], false, 0, 0⟩,
      ⟨⟨some 41, none, .prim (.bin false .sub (.tmp 40) (.const (Go.Value.int Go.IntKind.i64 1)))⟩, [5], false, 0, 0⟩,
      ⟨⟨some 42, none, .prim (.iadrs 1 (.tmp 39) (.tmp 41))⟩, [4, 5, 6], false, 0, 0⟩,
      ⟨⟨some 43, none, .prim (.load 1 false (.tmp 42))⟩, [4, 5, 6, 7], false, 0, 0⟩,
      ⟨⟨some 44, none, .prim (.bin false .neq (.tmp 38) (.tmp 43))⟩, [0, 1, 2, 3, 4, 5, 6, 7, 8], false, 0, 0⟩])
    (.cond (.tmp 44)
    (.seq (.ops [⟨some 45, none, .prim (.mov (.tmp 0))⟩,
      ⟨some 46, none, .prim (.mov (.tmp 3))⟩,
      ⟨some 47, none, .prim (.mov (.tmp 4))⟩,
      ⟨some 48, none, .prim (.mov (.tmp 5))⟩,
      ⟨some 49, none, .prim (.iadrs 1 (.tmp 47) (.tmp 48))⟩,
      ⟨some 50, none, .prim (.load 1 false (.tmp 49))⟩,
      ⟨some 51, none, .prim (.iadrs 1 (.tmp 45) (.tmp 46))⟩,
      ⟨none, none, .prim (.store 1 (.tmp 51) (.tmp 50))⟩])
    (.ops [⟨some 52, none, .prim (.mov (.tmp 3))⟩,
      ⟨some 53, none, .prim (.bin false .add (.tmp 52) (.const (Go.Value.int Go.IntKind.i64 1)))⟩,
      ⟨some 3, none, .prim (.mov (.tmp 53))⟩]))
    .skip)))
    (.ops [⟨some 33, none, .prim (.mov (.tmp 5))⟩,
      ⟨some 34, none, .prim (.bin false .add (.tmp 33) (.const (Go.Value.int Go.IntKind.i64 1)))⟩,
      ⟨some 5, none, .prim (.mov (.tmp 34))⟩]))))))
    (.seq (.ops [⟨some 54, none, .prim (.mov (.tmp 0))⟩,
      ⟨some 55, none, .prim (.mov (.tmp 3))⟩,
      ⟨some 56, none, .prim (.slcw 1 (.tmp 54) (.tmp 55))⟩,
      ⟨none, none, .prim (.clr 1 false [.pl (.int .i64 0)] (.tmp 56))⟩])
    (.seq (.ops [⟨some 57, none, .prim (.mov (.tmp 0))⟩,
      ⟨some 58, none, .prim (.mov (.tmp 3))⟩,
      ⟨some 59, none, .prim (.slco 1 (.tmp 57) none (some (.tmp 58)))⟩,
      ⟨some 2, none, .prim (.mov (.tmp 59))⟩])
    .ret))))
    .skip)))
    (.ops [⟨some 14, none, .prim (.mov (.tmp 3))⟩,
      ⟨some 15, none, .prim (.bin false .add (.tmp 14) (.const (Go.Value.int Go.IntKind.i64 1)))⟩,
      ⟨some 3, none, .prim (.mov (.tmp 15))⟩]))))))
    (.seq (.ops [⟨some 60, none, .prim (.mov (.tmp 0))⟩,
      ⟨some 2, none, .prim (.mov (.tmp 60))⟩])
    .ret))))
def o152 : List Tmp := [28, 56, 59]
def r152 : List RV := [.tmp 2]
theorem t152 : Text Tryz.prog 152 o152 c152 r152 61 := ⟨⟨Tryz.f152, _, by kernel_rfl, by kernel_rfl, rfl, by kernel_rfl, by kernel_rfl, rfl⟩, by kernel_rfl⟩

/-- slices.Index[[]int,int] -/
def c153 : ACode :=
  (.seq (.ops [⟨some 4, none, .prim (.mov (.const (Go.Value.int Go.IntKind.i64 0)))⟩])
    (.seq (.seq (.ops [⟨some 6, none, .prim (.mov (.tmp 0))⟩,
      ⟨some 7, none, .prim (.lenv (.tmp 6))⟩,
      ⟨some 8, none, .prim (.mov (.const (Go.Value.int Go.IntKind.i64 0)))⟩])
    (.block 0 (.loop [2, 3, 4, 5, 6, 9, 10, 11, 12, 13, 14, 15, 16, 17, 18] (.seq (.ops [⟨some 9, none, .prim (.bin false .lss (.tmp 8) (.tmp 7))⟩])
    (.seq (.cond (.tmp 9)
    .skip
    (.exit 0))
    (.seq (.block 1 (.seq (.ops [⟨some 10, none, .prim (.mov (.tmp 8))⟩,
      ⟨some 5, none, .prim (.mov (.tmp 10))⟩])
    (.seq (.ops [⟨some 11, none, .prim (.mov (.tmp 1))⟩,
      ⟨some 12, none, .prim (.mov (.tmp 0))⟩,
      ⟨some 13, none, .prim (.mov (.tmp 5))⟩,
      ⟨some 14, none, .prim (.iadrs 1 (.tmp 12) (.tmp 13))⟩,
      ⟨some 15, none, .prim (.load 1 false (.tmp 14))⟩,
      ⟨some 16, none, .prim (.bin false .eql (.tmp 11) (.tmp 15))⟩])
    (.cond (.tmp 16)
    (.seq (.ops [⟨some 17, none, .prim (.mov (.tmp 5))⟩,
      ⟨some 4, none, .prim (.mov (.tmp 17))⟩])
    .ret)
    .skip))))
    (.ops [⟨some 18, none, .prim (.bin false .add (.tmp 8) (.const (Go.Value.int Go.IntKind.i64 1)))⟩,
      ⟨some 8, none, .prim (.mov (.tmp 18))⟩])))))))
    (.seq (.ops [⟨some 4, none, .prim (.mov (.const (Go.Value.int Go.IntKind.i64 (-1))))⟩])
    .ret)))
def o153 : List Tmp := []
def r153 : List RV := [.tmp 4]
theorem t153 : Text Tryz.prog 153 o153 c153 r153 19 := ⟨⟨Tryz.f153, _, by kernel_rfl, by kernel_rfl, rfl, by kernel_rfl, by kernel_rfl, rfl⟩, by kernel_rfl⟩

/-- (*sordine/rex.parser).way -/
def c154 : ACode :=
  (.seq (.ops [⟨some 4, none, .prim (.allocm [.pl (.int .i64 0), .pl (.int .u64 0), .pl (.int .u64 0), .pl (.int .u64 0), .pl (.int .u64 0), .nils])⟩])
    (.seq (.ops [⟨some 5, none, .prim (.mov (.const (Go.Value.slice Option.none 0 0)))⟩])
    (.seq (.block 0 (.loop [2, 3, 6, 7, 8, 9, 10, 11, 12, 13, 14, 15, 16, 17, 18, 19, 20, 21, 22, 23, 24, 25, 26, 27, 28, 29, 30, 31, 32] (.seq (.seq (.ops [⟨some 6, none, .prim (.mov (.tmp 0))⟩,
      ⟨some 7, none, .call (.func 158) [(.tmp 6)]⟩,
      ⟨some 8, none, .prim (.un .not (.tmp 7))⟩,
      ⟨some 9, none, .prim (.mov (.tmp 8))⟩,
      ⟨some 10, (some (9, true)), .prim (.mov (.tmp 0))⟩,
      ⟨some 11, (some (9, true)), .call (.func 159) [(.tmp 10), (.const (Go.Value.int Go.IntKind.u8 124))]⟩,
      ⟨some 12, (some (9, true)), .prim (.un .not (.tmp 11))⟩,
      ⟨some 13, none, .prim (.pick (.tmp 9) (.tmp 12) (.const (Go.Value.bool Bool.false)))⟩,
      ⟨some 14, none, .prim (.mov (.tmp 13))⟩,
      ⟨some 15, (some (14, true)), .prim (.mov (.tmp 0))⟩,
      ⟨some 16, (some (14, true)), .call (.func 159) [(.tmp 15), (.const (Go.Value.int Go.IntKind.u8 41))]⟩,
      ⟨some 17, (some (14, true)), .prim (.un .not (.tmp 16))⟩,
      ⟨some 18, none, .prim (.pick (.tmp 14) (.tmp 17) (.const (Go.Value.bool Bool.false)))⟩])
    (.cond (.tmp 18)
    .skip
    (.exit 0)))
    (.block 1 (.ops [⟨some 19, none, .prim (.mov (.tmp 5))⟩,
      ⟨some 20, none, .prim (.mov (.tmp 0))⟩,
      ⟨some 21, none, .prim (.mov (.tmp 1))⟩,
      ⟨some 22, none, .call (.func 160) [(.tmp 20), (.tmp 21)]⟩,
      ⟨some 23, none, .prim (.bsl false 6 true 1 [.pl (.int .i64 0), .pl (.int .u64 0), .pl (.int .u64 0), .pl (.int .u64 0), .pl (.int .u64 0), .nils] [(0, 6, (.tmp 22))])⟩,
      ⟨some 24, none, .prim (.app 6 (.tmp 19) (.tmp 23))⟩,
      ⟨some 5, none, .prim (.mov (.tmp 24))⟩])))))
    (.seq (.seq (.ops [⟨some 25, none, .prim (.mov (.tmp 5))⟩,
      ⟨some 26, none, .prim (.lenv (.tmp 25))⟩,
      ⟨some 27, none, .prim (.bin false .eql (.tmp 26) (.const (Go.Value.int Go.IntKind.i64 1)))⟩])
    (.cond (.tmp 27)
    (.seq (.ops [⟨some 28, none, .prim (.mov (.tmp 5))⟩,
      ⟨some 29, none, .prim (.iadrs 6 (.tmp 28) (.const (Go.Value.int Go.IntKind.i64 0)))⟩,
      ⟨some 30, none, .prim (.load 6 true (.tmp 29))⟩,
      ⟨none, none, .prim (.store 6 (.tmp 4) (.tmp 30))⟩])
    .ret)
    .skip))
    (.seq (.ghost (.shut 5) (.ops [⟨some 31, none, .prim (.mov (.tmp 5))⟩,
      ⟨some 32, none, .prim (.build [.pl (.int .i64 0), .pl (.int .u64 0), .pl (.int .u64 0), .pl (.int .u64 0), .pl (.int .u64 0), .nils] [(0, 1, (.const (Go.Value.int Go.IntKind.i64 2))), (5, 1, (.tmp 31))])⟩,
      ⟨none, none, .prim (.store 6 (.tmp 4) (.tmp 32))⟩]))
    .ret)))))
def o154 : List Tmp := [4]
def r154 : List RV := [.cell 4 6 true]
theorem t154 : Text Tryz.prog 154 o154 c154 r154 33 := ⟨⟨Tryz.f154, _, by kernel_rfl, by kernel_rfl, rfl, by kernel_rfl, by kernel_rfl, rfl⟩, by kernel_rfl⟩

/-- (*sordine/rex.parser).next -/
def c155 : ACode :=
  (.seq (.ops [⟨some 4, none, .prim (.mov (.const (Go.Value.bool Bool.false)))⟩])
    (.seq (.seq (.ops [⟨some 5, none, .prim (.mov (.tmp 0))⟩,
      ⟨some 6, none, .prim (.mov (.tmp 1))⟩,
      ⟨some 7, none, .call (.func 159) [(.tmp 5), (.tmp 6)]⟩,
      ⟨some 8, none, .prim (.un .not (.tmp 7))⟩])
    (.cond (.tmp 8)
    (.seq (.ops [⟨some 4, none, .prim (.mov (.const (Go.Value.bool Bool.false)))⟩])
    .ret)
    .skip))
    (.seq (.ops [⟨some 9, none, .prim (.mov (.tmp 0))⟩,
      ⟨some 10, none, .prim (.nilc (.tmp 9))⟩,
      ⟨some 11, none, .prim (.fadr 1 (.tmp 10))⟩,
      ⟨some 12, none, .prim (.load 1 false (.tmp 11))⟩,
      ⟨some 13, none, .prim (.bin false .add (.tmp 12) (.const (Go.Value.int Go.IntKind.i64 1)))⟩,
      ⟨some 14, none, .prim (.nilc (.tmp 9))⟩,
      ⟨some 15, none, .prim (.fadr 1 (.tmp 14))⟩,
      ⟨none, none, .prim (.store 1 (.tmp 15) (.tmp 13))⟩])
    (.seq (.ops [⟨some 4, none, .prim (.mov (.const (Go.Value.bool Bool.true)))⟩])
    .ret))))
def o155 : List Tmp := []
def r155 : List RV := [.tmp 4]
theorem t155 : Text Tryz.prog 155 o155 c155 r155 16 := ⟨⟨Tryz.f155, _, by kernel_rfl, by kernel_rfl, rfl, by kernel_rfl, by kernel_rfl, rfl⟩, by kernel_rfl⟩

/-- slices.pdqsortOrdered[int] -/
def c157 : ACode :=
  (.seq (.ops [⟨some 8, none, .prim (.mov (.const (Go.Value.bool Bool.true)))⟩])
    (.seq (.ops [⟨some 9, none, .prim (.mov (.const (Go.Value.bool Bool.true)))⟩])
    (.block 0 (.loop [4, 5, 6, 7, 10, 11, 12, 13, 14, 15, 16, 17, 18, 19, 20, 21, 22, 23, 24, 25, 26, 27, 28, 29, 30, 31, 32, 33, 34, 35, 36, 37, 38, 39, 40, 41, 42, 43, 44, 45, 46, 47, 48, 49, 50, 51, 52, 53, 54, 55, 56, 57, 58, 59, 60, 61, 62, 63, 64, 65, 66, 67, 68, 69, 70, 71, 72, 73, 74, 75, 76, 77, 78, 79, 80, 81, 82, 83, 84, 85, 86, 87, 88, 89, 90, 91, 92, 93, 94, 95, 96, 97, 98, 99, 100, 101, 102, 103, 104, 105, 106, 107, 108, 109, 110, 111, 112, 113, 114, 115, 116, 117, 118, 119, 120, 121, 122, 123, 124, 125, 126, 127, 128, 129, 130, 131, 132, 133] (.block 1 (.seq (.ops [⟨some 19, none, .prim (.mov (.tmp 2))⟩,
      ⟨some 20, none, .prim (.mov (.tmp 1))⟩,
      ⟨some 21, none, .prim (.bin false .sub (.tmp 19) (.tmp 20))⟩,
      ⟨some 10, none, .prim (.mov (.tmp 21))⟩])
    (.seq (.seq (.ops [⟨some 22, none, .prim (.mov (.tmp 10))⟩,
      ⟨some 23, none, .prim (.bin false .leq (.tmp 22) (.const (Go.Value.int Go.IntKind.i64 12)))⟩])
    (.cond (.tmp 23)
    (.seq (.ops [⟨some 24, none, .prim (.mov (.tmp 0))⟩,
      ⟨some 25, none, .prim (.mov (.tmp 1))⟩,
      ⟨some 26, none, .prim (.mov (.tmp 2))⟩,
      ⟨some 27, none, .call (.func 161) [(.tmp 24), (.tmp 25), (.tmp 26)]⟩])
    .ret)
    .skip))
    (.seq (.seq (.ops [⟨some 28, none, .prim (.mov (.tmp 3))⟩,
      ⟨some 29, none, .prim (.bin false .eql (.tmp 28) (.const (Go.Value.int Go.IntKind.i64 0)))⟩])
    (.cond (.tmp 29)
    (.seq (.ops [⟨some 30, none, .prim (.mov (.tmp 0))⟩,
      ⟨some 31, none, .prim (.mov (.tmp 1))⟩,
      ⟨some 32, none, .prim (.mov (.tmp 2))⟩,
      ⟨some 33, none, .call (.func 162) [(.tmp 30), (.tmp 31), (.tmp 32)]⟩])
    .ret)
    .skip))
    (.seq (.seq (.ops [⟨some 34, none, .prim (.mov (.tmp 8))⟩,
      ⟨some 35, none, .prim (.un .not (.tmp 34))⟩])
    (.cond (.tmp 35)
    (.seq (.ops [⟨some 36, none, .prim (.mov (.tmp 0))⟩,
      ⟨some 37, none, .prim (.mov (.tmp 1))⟩,
      ⟨some 38, none, .prim (.mov (.tmp 2))⟩,
      ⟨some 39, none, .call (.func 163) [(.tmp 36), (.tmp 37), (.tmp 38)]⟩])
    (.ops [⟨some 40, none, .prim (.mov (.tmp 3))⟩,
      ⟨some 41, none, .prim (.bin false .sub (.tmp 40) (.const (Go.Value.int Go.IntKind.i64 1)))⟩,
      ⟨some 3, none, .prim (.mov (.tmp 41))⟩]))
    .skip))
    (.seq (.ops [⟨some 43, none, .prim (.mov (.tmp 0))⟩,
      ⟨some 44, none, .prim (.mov (.tmp 1))⟩,
      ⟨some 45, none, .prim (.mov (.tmp 2))⟩,
      ⟨some 46, none, .call (.func 164) [(.tmp 43), (.tmp 44), (.tmp 45)]⟩,
      ⟨some 42, none, .prim (.mov (.tmp 46))⟩,
      ⟨some 47, none, .prim (.extr 0 (.tmp 42))⟩,
      ⟨some 48, none, .prim (.extr 1 (.tmp 42))⟩,
      ⟨some 11, none, .prim (.mov (.tmp 47))⟩,
      ⟨some 12, none, .prim (.mov (.tmp 48))⟩])
    (.seq (.seq (.ops [⟨some 49, none, .prim (.mov (.tmp 12))⟩,
      ⟨some 50, none, .prim (.bin false .eql (.tmp 49) (.const (Go.Value.int Go.IntKind.i64 2)))⟩])
    (.cond (.tmp 50)
    (.seq (.ops [⟨some 51, none, .prim (.mov (.tmp 0))⟩,
      ⟨some 52, none, .prim (.mov (.tmp 1))⟩,
      ⟨some 53, none, .prim (.mov (.tmp 2))⟩,
      ⟨some 54, none, .call (.func 165) [(.tmp 51), (.tmp 52), (.tmp 53)]⟩])
    (.seq (.ops [⟨some 55, none, .prim (.mov (.tmp 2))⟩,
      ⟨some 56, none, .prim (.bin false .sub (.tmp 55) (.const (Go.Value.int Go.IntKind.i64 1)))⟩,
      ⟨some 57, none, .prim (.mov (.tmp 11))⟩,
      ⟨some 58, none, .prim (.mov (.tmp 1))⟩,
      ⟨some 59, none, .prim (.bin false .sub (.tmp 57) (.tmp 58))⟩,
      ⟨some 60, none, .prim (.bin false .sub (.tmp 56) (.tmp 59))⟩,
      ⟨some 11, none, .prim (.mov (.tmp 60))⟩])
    (.ops [⟨some 12, none, .prim (.mov (.const (Go.Value.int Go.IntKind.i64 1)))⟩])))
    .skip))
    (.seq (.seq (.ops [⟨some 61, none, .prim (.mov (.tmp 8))⟩,
      ⟨some 62, none, .prim (.mov (.tmp 61))⟩,
      ⟨some 63, (some (62, true)), .prim (.mov (.tmp 9))⟩,
      ⟨some 64, none, .prim (.pick (.tmp 62) (.tmp 63) (.const (Go.Value.bool Bool.false)))⟩,
      ⟨some 65, none, .prim (.mov (.tmp 64))⟩,
      ⟨some 66, (some (65, true)), .prim (.mov (.tmp 12))⟩,
      ⟨some 67, (some (65, true)), .prim (.bin false .eql (.tmp 66) (.const (Go.Value.int Go.IntKind.i64 1)))⟩,
      ⟨some 68, none, .prim (.pick (.tmp 65) (.tmp 67) (.const (Go.Value.bool Bool.false)))⟩])
    (.cond (.tmp 68)
    (.seq (.ops [⟨some 69, none, .prim (.mov (.tmp 0))⟩,
      ⟨some 70, none, .prim (.mov (.tmp 1))⟩,
      ⟨some 71, none, .prim (.mov (.tmp 2))⟩,
      ⟨some 72, none, .call (.func 166) [(.tmp 69), (.tmp 70), (.tmp 71)]⟩])
    (.cond (.tmp 72)
    .ret
    .skip))
    .skip))
    (.seq (.seq (.draw [⟨⟨some 73, none, .prim (.mov (.tmp 1))⟩, [], false, 0, 0⟩,
      ⟨⟨some 74, none, .prim (.bin false .gtr (.tmp 73) (.const (Go.Value.int Go.IntKind.i64 0)))⟩, [0], false, 0, 0⟩,
      ⟨⟨some 75, none, .prim (.mov (.tmp 74))⟩, [0, 1], false, 0, 0⟩,
      ⟨⟨some 76, (some (75, true)), .prim (.mov (.tmp 0))⟩, [0, 1, 2], false, 0, 0⟩,
      ⟨⟨some 77, (some (75, true)), .prim (.mov (.tmp 1))⟩, [0, 1, 2], false, 0, 0⟩,
      ⟨⟨some 78, (some (75, true)), .prim (.bin false .sub (.tmp 77) (.const (Go.Value.int Go.IntKind.i64 1)))⟩, [0, 1, 2, 4], false, 0, 0⟩,
      ⟨⟨some 79, (some (75, true)), .prim (.iadrs 1 (.tmp 76) (.tmp 78))⟩, [0, 1, 2, 3, 4, 5], false, 0, 0⟩,
      ⟨⟨some 80, (some (75, true)), .prim (.load 1 false (.tmp 79))⟩, [0, 1, 2, 3, 4, 5, 6], false, 0, 0⟩,
      ⟨⟨some 81, (some (75, true)), .prim (.mov (.tmp 0))⟩, [0, 1, 2], false, 0, 0⟩,
      ⟨⟨some 82, (some (75, true)), .prim (.mov (.tmp 11))⟩, [0, 1, 2], false, 0, 0⟩,
      ⟨⟨some 83, (some (75, true)), .prim (.iadrs 1 (.tmp 81) (.tmp 82))⟩, [0, 1, 2, 8, 9], false, 0, 0⟩,
      ⟨⟨some 84, (some (75, true)), .prim (.load 1 false (.tmp 83))⟩, [0, 1, 2, 8, 9, 10], false, 0, 0⟩,
      ⟨⟨some 85, (some (75, true)), .call (.func 102) [(.tmp 80), (.tmp 84)]⟩, [0, 1, 2, 3, 4, 5, 6, 7, 8, 9, 10, 11], true, 0, 0⟩,
      ⟨⟨some 86, (some (75, true)), .prim (.un .not (.tmp 85))⟩, [0, 1, 2, 3, 4, 5, 6, 7, 8, 9, 10, 11, 12], false, 1, 1⟩,
      ⟨⟨some 87, none, .prim (.pick (.tmp 75) (.tmp 86) (.const (Go.Value.bool Bool.false)))⟩, [0, 1, 2, 3, 4, 5, 6, 7, 8, 9, 10, 11, 12, 13], false, 1, 1⟩])
    (.cond (.tmp 87)
    (.seq (.ops [⟨some 88, none, .prim (.mov (.tmp 0))⟩,
      ⟨some 89, none, .prim (.mov (.tmp 1))⟩,
      ⟨some 90, none, .prim (.mov (.tmp 2))⟩,
      ⟨some 91, none, .prim (.mov (.tmp 11))⟩,
      ⟨some 92, none, .call (.func 167) [(.tmp 88), (.tmp 89), (.tmp 90), (.tmp 91)]⟩,
      ⟨some 13, none, .prim (.mov (.tmp 92))⟩])
    (.seq (.ops [⟨some 93, none, .prim (.mov (.tmp 13))⟩,
      ⟨some 1, none, .prim (.mov (.tmp 93))⟩])
    (.exit 1)))
    .skip))
    (.seq (.ops [⟨some 95, none, .prim (.mov (.tmp 0))⟩,
      ⟨some 96, none, .prim (.mov (.tmp 1))⟩,
      ⟨some 97, none, .prim (.mov (.tmp 2))⟩,
      ⟨some 98, none, .prim (.mov (.tmp 11))⟩,
      ⟨some 99, none, .call (.func 168) [(.tmp 95), (.tmp 96), (.tmp 97), (.tmp 98)]⟩,
      ⟨some 94, none, .prim (.mov (.tmp 99))⟩,
      ⟨some 100, none, .prim (.extr 0 (.tmp 94))⟩,
      ⟨some 101, none, .prim (.extr 1 (.tmp 94))⟩,
      ⟨some 14, none, .prim (.mov (.tmp 100))⟩,
      ⟨some 15, none, .prim (.mov (.tmp 101))⟩])
    (.seq (.ops [⟨some 102, none, .prim (.mov (.tmp 15))⟩,
      ⟨some 9, none, .prim (.mov (.tmp 102))⟩])
    (.seq (.ops [⟨some 103, none, .prim (.mov (.tmp 14))⟩,
      ⟨some 104, none, .prim (.mov (.tmp 1))⟩,
      ⟨some 105, none, .prim (.bin false .sub (.tmp 103) (.tmp 104))⟩,
      ⟨some 106, none, .prim (.mov (.tmp 2))⟩,
      ⟨some 107, none, .prim (.mov (.tmp 14))⟩,
      ⟨some 108, none, .prim (.bin false .sub (.tmp 106) (.tmp 107))⟩,
      ⟨some 16, none, .prim (.mov (.tmp 105))⟩,
      ⟨some 17, none, .prim (.mov (.tmp 108))⟩])
    (.seq (.ops [⟨some 109, none, .prim (.mov (.tmp 10))⟩,
      ⟨some 110, none, .prim (.bin false .quo (.tmp 109) (.const (Go.Value.int Go.IntKind.i64 8)))⟩,
      ⟨some 18, none, .prim (.mov (.tmp 110))⟩])
    (.seq (.ops [⟨some 111, none, .prim (.mov (.tmp 16))⟩,
      ⟨some 112, none, .prim (.mov (.tmp 17))⟩,
      ⟨some 113, none, .prim (.bin false .lss (.tmp 111) (.tmp 112))⟩])
    (.cond (.tmp 113)
    (.seq (.ops [⟨some 114, none, .prim (.mov (.tmp 16))⟩,
      ⟨some 115, none, .prim (.mov (.tmp 18))⟩,
      ⟨some 116, none, .prim (.bin false .geq (.tmp 114) (.tmp 115))⟩,
      ⟨some 8, none, .prim (.mov (.tmp 116))⟩])
    (.seq (.ops [⟨some 117, none, .prim (.mov (.tmp 0))⟩,
      ⟨some 118, none, .prim (.mov (.tmp 1))⟩,
      ⟨some 119, none, .prim (.mov (.tmp 14))⟩,
      ⟨some 120, none, .prim (.mov (.tmp 3))⟩,
      ⟨some 121, none, .call (.func 157) [(.tmp 117), (.tmp 118), (.tmp 119), (.tmp 120)]⟩])
    (.ops [⟨some 122, none, .prim (.mov (.tmp 14))⟩,
      ⟨some 123, none, .prim (.bin false .add (.tmp 122) (.const (Go.Value.int Go.IntKind.i64 1)))⟩,
      ⟨some 1, none, .prim (.mov (.tmp 123))⟩])))
    (.seq (.ops [⟨some 124, none, .prim (.mov (.tmp 17))⟩,
      ⟨some 125, none, .prim (.mov (.tmp 18))⟩,
      ⟨some 126, none, .prim (.bin false .geq (.tmp 124) (.tmp 125))⟩,
      ⟨some 8, none, .prim (.mov (.tmp 126))⟩])
    (.seq (.ops [⟨some 127, none, .prim (.mov (.tmp 0))⟩,
      ⟨some 128, none, .prim (.mov (.tmp 14))⟩,
      ⟨some 129, none, .prim (.bin false .add (.tmp 128) (.const (Go.Value.int Go.IntKind.i64 1)))⟩,
      ⟨some 130, none, .prim (.mov (.tmp 2))⟩,
      ⟨some 131, none, .prim (.mov (.tmp 3))⟩,
      ⟨some 132, none, .call (.func 157) [(.tmp 127), (.tmp 129), (.tmp 130), (.tmp 131)]⟩])
    (.ops [⟨some 133, none, .prim (.mov (.tmp 14))⟩,
      ⟨some 2, none, .prim (.mov (.tmp 133))⟩]))))))))))))))))))))))
def o157 : List Tmp := []
def r157 : List RV := []
theorem t157 : Text Tryz.prog 157 o157 c157 r157 134 := ⟨⟨Tryz.f157, _, by kernel_rfl, by kernel_rfl, rfl, by kernel_rfl, by kernel_rfl, rfl⟩, by kernel_rfl⟩

/-- (*sordine/rex.parser).over -/
def c158 : ACode :=
  (.seq (.ops [⟨some 2, none, .prim (.mov (.const (Go.Value.bool Bool.false)))⟩])
    (.seq (.draw [⟨⟨some 3, none, .prim (.mov (.tmp 0))⟩, [], false, 0, 0⟩,
      ⟨⟨some 4, none, .prim (.nilc (.tmp 3))⟩, [0], false, 0, 0⟩,
      ⟨⟨some 5, none, .prim (.fadr 2 (.tmp 4))⟩, [0, 1], false, 0, 0⟩,
      ⟨⟨some 6, none, .prim (.load 1 false (.tmp 5))⟩, [0, 1, 2], false, 0, 0⟩,
      ⟨⟨some 7, none, .prim (.mov (.tmp 6))⟩, [0, 1, 2, 3], false, 0, 0⟩,
      ⟨⟨some 8, (some (7, false)), .prim (.mov (.tmp 0))⟩, [0, 1, 2, 3, 4], false, 0, 0⟩,
      ⟨⟨some 9, (some (7, false)), .prim (.nilc (.tmp 8))⟩, [0, 1, 2, 3, 4, 5], false, 0, 0⟩,
      ⟨⟨some 10, (some (7, false)), .prim (.fadr 1 (.tmp 9))⟩, [0, 1, 2, 3, 4, 5, 6], false, 0, 0⟩,
      ⟨⟨some 11, (some (7, false)), .prim (.load 1 false (.tmp 10))⟩, [0, 1, 2, 3, 4, 5, 6, 7], false, 0, 0⟩,
      ⟨⟨some 12, (some (7, false)), .prim (.mov (.tmp 0))⟩, [0, 1, 2, 3, 4], false, 0, 0⟩,
      ⟨⟨some 13, (some (7, false)), .prim (.nilc (.tmp 12))⟩, [0, 1, 2, 3, 4, 9], false, 0, 0⟩,
      ⟨⟨some 14, (some (7, false)), .prim (.fadr 0 (.tmp 13))⟩, [0, 1, 2, 3, 4, 9, 10], false, 0, 0⟩,
      ⟨⟨some 15, (some (7, false)), .prim (.load 1 false (.tmp 14))⟩, [0, 1, 2, 3, 4, 9, 10, 11], false, 0, 0⟩,
      ⟨⟨some 16, (some (7, false)), .prim (.lens (.tmp 15))⟩, [0, 1, 2, 3, 4, 9, 10, 11, 12], false, 0, 0⟩,
      ⟨⟨some 17, (some (7, false)), .prim (.bin false .geq (.tmp 11) (.tmp 16))⟩, [0, 1, 2, 3, 4, 5, 6, 7, 8, 9, 10, 11, 12, 13], false, 0, 0⟩,
      ⟨⟨some 18, none, .prim (.pick (.tmp 7) (.const (Go.Value.bool Bool.true)) (.tmp 17))⟩, [0, 1, 2, 3, 4, 5, 6, 7, 8, 9, 10, 11, 12, 13, 14], false, 0, 0⟩,
      ⟨⟨some 2, none, .prim (.mov (.tmp 18))⟩, [0, 1, 2, 3, 4, 5, 6, 7, 8, 9, 10, 11, 12, 13, 14, 15], false, 0, 0⟩])
    .ret))
def o158 : List Tmp := []
def r158 : List RV := [.tmp 2]
theorem t158 : Text Tryz.prog 158 o158 c158 r158 19 := ⟨⟨Tryz.f158, _, by kernel_rfl, by kernel_rfl, rfl, by kernel_rfl, by kernel_rfl, rfl⟩, by kernel_rfl⟩

/-- (*sordine/rex.parser).sees -/
def c159 : ACode :=
  (.seq (.ops [⟨some 4, none, .prim (.mov (.const (Go.Value.bool Bool.false)))⟩])
    (.seq (.draw [⟨⟨some 5, none, .prim (.mov (.tmp 0))⟩, [], false, 0, 0⟩,
      ⟨⟨some 6, none, .call (.func 158) [(.tmp 5)]⟩, [0], true, 0, 0⟩,
      ⟨⟨some 7, none, .prim (.un .not (.tmp 6))⟩, [0, 1], false, 1, 1⟩,
      ⟨⟨some 8, none, .prim (.mov (.tmp 7))⟩, [0, 1, 2], false, 1, 1⟩,
      ⟨⟨some 9, (some (8, true)), .prim (.mov (.tmp 0))⟩, [0, 1, 2, 3], false, 1, 1⟩,
      ⟨⟨some 10, (some (8, true)), .prim (.nilc (.tmp 9))⟩, [0, 1, 2, 3, 4], false, 1, 1⟩,
      ⟨⟨some 11, (some (8, true)), .prim (.fadr 0 (.tmp 10))⟩, [0, 1, 2, 3, 4, 5], false, 1, 1⟩,
      ⟨⟨some 12, (some (8, true)), .prim (.load 1 false (.tmp 11))⟩, [0, 1, 2, 3, 4, 5, 6], false, 1, 1⟩,
      ⟨⟨some 13, (some (8, true)), .prim (.mov (.tmp 0))⟩, [0, 1, 2, 3], false, 1, 1⟩,
      ⟨⟨some 14, (some (8, true)), .prim (.nilc (.tmp 13))⟩, [0, 1, 2, 3, 8], false, 1, 1⟩,
      ⟨⟨some 15, (some (8, true)), .prim (.fadr 1 (.tmp 14))⟩, [0, 1, 2, 3, 8, 9], false, 1, 1⟩,
      ⟨⟨some 16, (some (8, true)), .prim (.load 1 false (.tmp 15))⟩, [0, 1, 2, 3, 8, 9, 10], false, 1, 1⟩,
      ⟨⟨some 17, (some (8, true)), .prim (.idxs (.tmp 12) (.tmp 16))⟩, [0, 1, 2, 3, 4, 5, 6, 7, 8, 9, 10, 11], false, 1, 1⟩,
      ⟨⟨some 18, (some (8, true)), .prim (.mov (.tmp 1))⟩, [0, 1, 2, 3], false, 1, 1⟩,
      ⟨⟨some 19, (some (8, true)), .prim (.bin false .eql (.tmp 17) (.tmp 18))⟩, [0, 1, 2, 3, 4, 5, 6, 7, 8, 9, 10, 11, 12, 13], false, 1, 1⟩,
      ⟨⟨some 20, none, .prim (.pick (.tmp 8) (.tmp 19) (.const (Go.Value.bool Bool.false)))⟩, [0, 1, 2, 3, 4, 5, 6, 7, 8, 9, 10, 11, 12, 13, 14], false, 1, 1⟩,
      ⟨⟨some 4, none, .prim (.mov (.tmp 20))⟩, [0, 1, 2, 3, 4, 5, 6, 7, 8, 9, 10, 11, 12, 13, 14, 15], false, 1, 1⟩])
    .ret))
def o159 : List Tmp := []
def r159 : List RV := [.tmp 4]
theorem t159 : Text Tryz.prog 159 o159 c159 r159 21 := ⟨⟨Tryz.f159, _, by kernel_rfl, by kernel_rfl, rfl, by kernel_rfl, by kernel_rfl, rfl⟩, by kernel_rfl⟩

/-- (*sordine/rex.parser).factor -/
def c160 : ACode :=
  (.seq (.ops [⟨some 4, none, .prim (.allocm [.pl (.int .i64 0), .pl (.int .u64 0), .pl (.int .u64 0), .pl (.int .u64 0), .pl (.int .u64 0), .nils])⟩])
    (.seq (.ops [⟨some 6, none, .prim (.mov (.tmp 0))⟩,
      ⟨some 7, none, .prim (.mov (.tmp 1))⟩,
      ⟨some 8, none, .call (.func 169) [(.tmp 6), (.tmp 7)]⟩,
      ⟨some 5, none, .fresh 6 5 (.tmp 8)⟩])
    (.seq (.block 0 (.seq (.ops [⟨some 10, none, .prim (.mov (.tmp 0))⟩,
      ⟨some 11, none, .call (.func 155) [(.tmp 10), (.const (Go.Value.int Go.IntKind.u8 42))]⟩,
      ⟨some 9, none, .prim (.mov (.tmp 11))⟩])
    (.cond (.tmp 9)
    (.seq (.ops [⟨some 12, none, .prim (.load 6 true (.tmp 5))⟩,
      ⟨some 13, none, .prim (.bsl false 6 true 1 [.pl (.int .i64 0), .pl (.int .u64 0), .pl (.int .u64 0), .pl (.int .u64 0), .pl (.int .u64 0), .nils] [(0, 6, (.tmp 12))])⟩,
      ⟨some 14, none, .prim (.build [.pl (.int .i64 0), .pl (.int .u64 0), .pl (.int .u64 0), .pl (.int .u64 0), .pl (.int .u64 0), .nils] [(0, 1, (.const (Go.Value.int Go.IntKind.i64 4))), (5, 1, (.tmp 13))])⟩,
      ⟨none, none, .prim (.store 6 (.tmp 4) (.tmp 14))⟩])
    .ret)
    (.seq (.ops [⟨some 16, none, .prim (.mov (.tmp 0))⟩,
      ⟨some 17, none, .call (.func 155) [(.tmp 16), (.const (Go.Value.int Go.IntKind.u8 43))]⟩,
      ⟨some 15, none, .prim (.mov (.tmp 17))⟩])
    (.cond (.tmp 15)
    (.seq (.ops [⟨some 18, none, .prim (.load 6 true (.tmp 5))⟩,
      ⟨some 19, none, .prim (.bsl false 6 true 1 [.pl (.int .i64 0), .pl (.int .u64 0), .pl (.int .u64 0), .pl (.int .u64 0), .pl (.int .u64 0), .nils] [(0, 6, (.tmp 18))])⟩,
      ⟨some 20, none, .prim (.build [.pl (.int .i64 0), .pl (.int .u64 0), .pl (.int .u64 0), .pl (.int .u64 0), .pl (.int .u64 0), .nils] [(0, 1, (.const (Go.Value.int Go.IntKind.i64 5))), (5, 1, (.tmp 19))])⟩,
      ⟨none, none, .prim (.store 6 (.tmp 4) (.tmp 20))⟩])
    .ret)
    (.seq (.ops [⟨some 22, none, .prim (.mov (.tmp 0))⟩,
      ⟨some 23, none, .call (.func 155) [(.tmp 22), (.const (Go.Value.int Go.IntKind.u8 63))]⟩,
      ⟨some 21, none, .prim (.mov (.tmp 23))⟩])
    (.cond (.tmp 21)
    (.seq (.ops [⟨some 24, none, .prim (.load 6 true (.tmp 5))⟩,
      ⟨some 25, none, .prim (.bsl false 6 true 1 [.pl (.int .i64 0), .pl (.int .u64 0), .pl (.int .u64 0), .pl (.int .u64 0), .pl (.int .u64 0), .nils] [(0, 6, (.tmp 24))])⟩,
      ⟨some 26, none, .prim (.build [.pl (.int .i64 0), .pl (.int .u64 0), .pl (.int .u64 0), .pl (.int .u64 0), .pl (.int .u64 0), .nils] [(0, 1, (.const (Go.Value.int Go.IntKind.i64 6))), (5, 1, (.tmp 25))])⟩,
      ⟨none, none, .prim (.store 6 (.tmp 4) (.tmp 26))⟩])
    .ret)
    .skip)))))))
    (.seq (.ops [⟨some 27, none, .prim (.load 6 true (.tmp 5))⟩,
      ⟨none, none, .prim (.store 6 (.tmp 4) (.tmp 27))⟩])
    .ret))))
def o160 : List Tmp := [4]
def r160 : List RV := [.cell 4 6 true]
theorem t160 : Text Tryz.prog 160 o160 c160 r160 28 := ⟨⟨Tryz.f160, _, by kernel_rfl, by kernel_rfl, rfl, by kernel_rfl, by kernel_rfl, rfl⟩, by kernel_rfl⟩

/-- slices.insertionSortOrdered[int] -/
def c161 : ACode :=
  (.seq (.ops [⟨some 8, none, .prim (.mov (.tmp 1))⟩,
      ⟨some 9, none, .prim (.bin false .add (.tmp 8) (.const (Go.Value.int Go.IntKind.i64 1)))⟩,
      ⟨some 6, none, .prim (.mov (.tmp 9))⟩])
    (.block 0 (.loop [3, 4, 5, 7, 8, 9, 10, 11, 12, 13, 14, 15, 16, 17, 18, 19, 20, 21, 22, 23, 24, 25, 26, 27, 28, 29, 30, 31, 32, 33, 34, 35, 36, 37, 38, 39, 40, 41, 42, 43, 44, 45, 46, 47, 48] (.seq (.seq (.ops [⟨some 10, none, .prim (.mov (.tmp 6))⟩,
      ⟨some 11, none, .prim (.mov (.tmp 2))⟩,
      ⟨some 12, none, .prim (.bin false .lss (.tmp 10) (.tmp 11))⟩])
    (.cond (.tmp 12)
    .skip
    (.exit 0)))
    (.seq (.block 1 (.seq (.ops [⟨some 15, none, .prim (.mov (.tmp 6))⟩,
      ⟨some 7, none, .prim (.mov (.tmp 15))⟩])
    (.block 2 (.loop [3, 4, 5, 8, 9, 10, 11, 12, 13, 14, 15, 16, 17, 18, 19, 20, 21, 22, 23, 24, 25, 26, 27, 28, 29, 30, 31, 32, 33, 34, 35, 36, 37, 38, 39, 40, 41, 42, 43, 44, 45, 46, 47, 48] (.seq (.seq (.draw [⟨⟨some 16, none, .prim (.mov (.tmp 7))⟩, [], false, 0, 0⟩,
      ⟨⟨some 17, none, .prim (.mov (.tmp 1))⟩, [], false, 0, 0⟩,
      ⟨⟨some 18, none, .prim (.bin false .gtr (.tmp 16) (.tmp 17))⟩, [0, 1], false, 0, 0⟩,
      ⟨⟨some 19, none, .prim (.mov (.tmp 18))⟩, [0, 1, 2], false, 0, 0⟩,
      ⟨⟨some 20, (some (19, true)), .prim (.mov (.tmp 0))⟩, [0, 1, 2, 3], false, 0, 0⟩,
      ⟨⟨some 21, (some (19, true)), .prim (.mov (.tmp 7))⟩, [0, 1, 2, 3], false, 0, 0⟩,
      ⟨⟨some 22, (some (19, true)), .prim (.iadrs 1 (.tmp 20) (.tmp 21))⟩, [0, 1, 2, 3, 4, 5], false, 0, 0⟩,
      ⟨⟨some 23, (some (19, true)), .prim (.load 1 false (.tmp 22))⟩, [0, 1, 2, 3, 4, 5, 6], false, 0, 0⟩,
      ⟨⟨some 24, (some (19, true)), .prim (.mov (.tmp 0))⟩, [0, 1, 2, 3], false, 0, 0⟩,
      ⟨⟨some 25, (some (19, true)), .prim (.mov (.tmp 7))⟩, [0, 1, 2, 3], false, 0, 0⟩,
      ⟨⟨some 26, (some (19, true)), .prim (.bin false .sub (.tmp 25) (.const (Go.Value.int Go.IntKind.i64 1)))⟩, [0, 1, 2, 3, 9], false, 0, 0⟩,
      ⟨⟨some 27, (some (19, true)), .prim (.iadrs 1 (.tmp 24) (.tmp 26))⟩, [0, 1, 2, 3, 8, 9, 10], false, 0, 0⟩,
      ⟨⟨some 28, (some (19, true)), .prim (.load 1 false (.tmp 27))⟩, [0, 1, 2, 3, 8, 9, 10, 11], false, 0, 0⟩,
      ⟨⟨some 29, (some (19, true)), .call (.func 102) [(.tmp 23), (.tmp 28)]⟩, [0, 1, 2, 3, 4, 5, 6, 7, 8, 9, 10, 11, 12], true, 0, 0⟩,
      ⟨⟨some 30, none, .prim (.pick (.tmp 19) (.tmp 29) (.const (Go.Value.bool Bool.false)))⟩, [0, 1, 2, 3, 4, 5, 6, 7, 8, 9, 10, 11, 12, 13], false, 1, 1⟩])
    (.cond (.tmp 30)
    .skip
    (.exit 2)))
    (.seq (.block 3 (.draw [⟨⟨some 33, none, .prim (.mov (.tmp 0))⟩, [], false, 0, 0⟩,
      ⟨⟨some 34, none, .prim (.mov (.tmp 7))⟩, [], false, 0, 0⟩,
      ⟨⟨some 35, none, .prim (.mov (.tmp 0))⟩, [], false, 0, 1⟩,
      ⟨⟨some 36, none, .prim (.mov (.tmp 7))⟩, [], false, 0, 1⟩,
      ⟨⟨some 37, none, .prim (.bin false .sub (.tmp 36) (.const (Go.Value.int Go.IntKind.i64 1)))⟩, [3], false, 0, 1⟩,
      ⟨⟨some 38, none, .prim (.mov (.tmp 0))⟩, [], false, 0, 0⟩,
      ⟨⟨some 39, none, .prim (.mov (.tmp 7))⟩, [], false, 0, 0⟩,
      ⟨⟨some 40, none, .prim (.bin false .sub (.tmp 39) (.const (Go.Value.int Go.IntKind.i64 1)))⟩, [6], false, 0, 0⟩,
      ⟨⟨some 41, none, .prim (.iadrs 1 (.tmp 38) (.tmp 40))⟩, [5, 6, 7], false, 0, 0⟩,
      ⟨⟨some 42, none, .prim (.load 1 false (.tmp 41))⟩, [5, 6, 7, 8], false, 0, 0⟩,
      ⟨⟨some 43, none, .prim (.mov (.tmp 0))⟩, [], false, 0, 0⟩,
      ⟨⟨some 44, none, .prim (.mov (.tmp 7))⟩, [], false, 0, 0⟩,
      ⟨⟨some 45, none, .prim (.iadrs 1 (.tmp 43) (.tmp 44))⟩, [10, 11], false, 0, 0⟩,
      ⟨⟨some 46, none, .prim (.load 1 false (.tmp 45))⟩, [10, 11, 12], false, 0, 0⟩,
      ⟨⟨some 47, none, .prim (.iadrs 1 (.tmp 33) (.tmp 34))⟩, [0, 1, 5, 6, 7, 8, 9, 10, 11, 12, 13], false, 0, 0⟩,
      ⟨⟨none, none, .prim (.store 1 (.tmp 47) (.tmp 42))⟩, [0, 1, 5, 6, 7, 8, 9, 10, 11, 12, 13, 14], true, 0, 0⟩,
      ⟨⟨some 48, none, .prim (.iadrs 1 (.tmp 35) (.tmp 37))⟩, [0, 1, 2, 3, 4, 5, 6, 7, 8, 9, 10, 11, 12, 13, 14, 15], false, 1, 1⟩,
      ⟨⟨none, none, .prim (.store 1 (.tmp 48) (.tmp 46))⟩, [0, 1, 2, 3, 4, 5, 6, 7, 8, 9, 10, 11, 12, 13, 14, 15, 16], true, 0, 0⟩]))
    (.ops [⟨some 31, none, .prim (.mov (.tmp 7))⟩,
      ⟨some 32, none, .prim (.bin false .sub (.tmp 31) (.const (Go.Value.int Go.IntKind.i64 1)))⟩,
      ⟨some 7, none, .prim (.mov (.tmp 32))⟩])))))))
    (.ops [⟨some 13, none, .prim (.mov (.tmp 6))⟩,
      ⟨some 14, none, .prim (.bin false .add (.tmp 13) (.const (Go.Value.int Go.IntKind.i64 1)))⟩,
      ⟨some 6, none, .prim (.mov (.tmp 14))⟩]))))))
def o161 : List Tmp := []
def r161 : List RV := []
theorem t161 : Text Tryz.prog 161 o161 c161 r161 49 := ⟨⟨Tryz.f161, _, by kernel_rfl, by kernel_rfl, rfl, by kernel_rfl, by kernel_rfl, rfl⟩, by kernel_rfl⟩

/-- slices.heapSortOrdered[int] -/
def c162 : ACode :=
  (.seq (.ops [⟨some 11, none, .prim (.mov (.tmp 1))⟩,
      ⟨some 6, none, .prim (.mov (.tmp 11))⟩])
    (.seq (.ops [⟨some 7, none, .prim (.mov (.const (Go.Value.int Go.IntKind.i64 0)))⟩])
    (.seq (.ops [⟨some 12, none, .prim (.mov (.tmp 2))⟩,
      ⟨some 13, none, .prim (.mov (.tmp 1))⟩,
      ⟨some 14, none, .prim (.bin false .sub (.tmp 12) (.tmp 13))⟩,
      ⟨some 8, none, .prim (.mov (.tmp 14))⟩])
    (.seq (.seq (.ops [⟨some 15, none, .prim (.mov (.tmp 8))⟩,
      ⟨some 16, none, .prim (.bin false .sub (.tmp 15) (.const (Go.Value.int Go.IntKind.i64 1)))⟩,
      ⟨some 17, none, .prim (.bin false .quo (.tmp 16) (.const (Go.Value.int Go.IntKind.i64 2)))⟩,
      ⟨some 9, none, .prim (.mov (.tmp 17))⟩])
    (.block 0 (.loop [1, 2, 3, 4, 5, 10, 11, 12, 13, 14, 15, 16, 17, 18, 19, 20, 21, 22, 23, 24, 25, 26, 27, 28, 29, 30, 31, 32, 33, 34, 35, 36, 37, 38, 39, 40, 41, 42, 43, 44, 45, 46, 47, 48, 49, 50, 51, 52, 53, 54, 55] (.seq (.seq (.ops [⟨some 18, none, .prim (.mov (.tmp 9))⟩,
      ⟨some 19, none, .prim (.bin false .geq (.tmp 18) (.const (Go.Value.int Go.IntKind.i64 0)))⟩])
    (.cond (.tmp 19)
    .skip
    (.exit 0)))
    (.seq (.block 1 (.ops [⟨some 22, none, .prim (.mov (.tmp 0))⟩,
      ⟨some 23, none, .prim (.mov (.tmp 9))⟩,
      ⟨some 24, none, .prim (.mov (.tmp 8))⟩,
      ⟨some 25, none, .prim (.mov (.tmp 6))⟩,
      ⟨some 26, none, .call (.func 170) [(.tmp 22), (.tmp 23), (.tmp 24), (.tmp 25)]⟩]))
    (.ops [⟨some 20, none, .prim (.mov (.tmp 9))⟩,
      ⟨some 21, none, .prim (.bin false .sub (.tmp 20) (.const (Go.Value.int Go.IntKind.i64 1)))⟩,
      ⟨some 9, none, .prim (.mov (.tmp 21))⟩]))))))
    (.seq (.ops [⟨some 27, none, .prim (.mov (.tmp 8))⟩,
      ⟨some 28, none, .prim (.bin false .sub (.tmp 27) (.const (Go.Value.int Go.IntKind.i64 1)))⟩,
      ⟨some 10, none, .prim (.mov (.tmp 28))⟩])
    (.block 2 (.loop [1, 2, 3, 4, 5, 8, 9, 11, 12, 13, 14, 15, 16, 17, 18, 19, 20, 21, 22, 23, 24, 25, 26, 27, 28, 29, 30, 31, 32, 33, 34, 35, 36, 37, 38, 39, 40, 41, 42, 43, 44, 45, 46, 47, 48, 49, 50, 51, 52, 53, 54, 55] (.seq (.seq (.ops [⟨some 29, none, .prim (.mov (.tmp 10))⟩,
      ⟨some 30, none, .prim (.bin false .geq (.tmp 29) (.const (Go.Value.int Go.IntKind.i64 0)))⟩])
    (.cond (.tmp 30)
    .skip
    (.exit 2)))
    (.seq (.block 3 (.seq (.draw [⟨⟨some 33, none, .prim (.mov (.tmp 0))⟩, [], false, 0, 0⟩,
      ⟨⟨some 34, none, .prim (.mov (.tmp 6))⟩, [], false, 0, 0⟩,
      ⟨⟨some 35, none, .prim (.mov (.tmp 0))⟩, [], false, 0, 1⟩,
      ⟨⟨some 36, none, .prim (.mov (.tmp 6))⟩, [], false, 0, 1⟩,
      ⟨⟨some 37, none, .prim (.mov (.tmp 10))⟩, [], false, 0, 1⟩,
      ⟨⟨some 38, none, .prim (.bin false .add (.tmp 36) (.tmp 37))⟩, [3, 4], false, 0, 1⟩,
      ⟨⟨some 39, none, .prim (.mov (.tmp 0))⟩, [], false, 0, 0⟩,
      ⟨⟨some 40, none, .prim (.mov (.tmp 6))⟩, [], false, 0, 0⟩,
      ⟨⟨some 41, none, .prim (.mov (.tmp 10))⟩, [], false, 0, 0⟩,
      ⟨⟨some 42, none, .prim (.bin false .add (.tmp 40) (.tmp 41))⟩, [7, 8], false, 0, 0⟩,
      ⟨⟨some 43, none, .prim (.iadrs 1 (.tmp 39) (.tmp 42))⟩, [6, 7, 8, 9], false, 0, 0⟩,
      ⟨⟨some 44, none, .prim (.load 1 false (.tmp 43))⟩, [6, 7, 8, 9, 10], false, 0, 0⟩,
      ⟨⟨some 45, none, .prim (.mov (.tmp 0))⟩, [], false, 0, 0⟩,
      ⟨⟨some 46, none, .prim (.mov (.tmp 6))⟩, [], false, 0, 0⟩,
      ⟨⟨some 47, none, .prim (.iadrs 1 (.tmp 45) (.tmp 46))⟩, [12, 13], false, 0, 0⟩,
      ⟨⟨some 48, none, .prim (.load 1 false (.tmp 47))⟩, [12, 13, 14], false, 0, 0⟩,
      ⟨⟨some 49, none, .prim (.iadrs 1 (.tmp 33) (.tmp 34))⟩, [0, 1, 6, 7, 8, 9, 10, 11, 12, 13, 14, 15], false, 0, 0⟩,
      ⟨⟨none, none, .prim (.store 1 (.tmp 49) (.tmp 44))⟩, [0, 1, 6, 7, 8, 9, 10, 11, 12, 13, 14, 15, 16], true, 0, 0⟩,
      ⟨⟨some 50, none, .prim (.iadrs 1 (.tmp 35) (.tmp 38))⟩, [0, 1, 2, 3, 4, 5, 6, 7, 8, 9, 10, 11, 12, 13, 14, 15, 16, 17], false, 1, 1⟩,
      ⟨⟨none, none, .prim (.store 1 (.tmp 50) (.tmp 48))⟩, [0, 1, 2, 3, 4, 5, 6, 7, 8, 9, 10, 11, 12, 13, 14, 15, 16, 17, 18], true, 0, 0⟩])
    (.ops [⟨some 51, none, .prim (.mov (.tmp 0))⟩,
      ⟨some 52, none, .prim (.mov (.tmp 7))⟩,
      ⟨some 53, none, .prim (.mov (.tmp 10))⟩,
      ⟨some 54, none, .prim (.mov (.tmp 6))⟩,
      ⟨some 55, none, .call (.func 170) [(.tmp 51), (.tmp 52), (.tmp 53), (.tmp 54)]⟩])))
    (.ops [⟨some 31, none, .prim (.mov (.tmp 10))⟩,
      ⟨some 32, none, .prim (.bin false .sub (.tmp 31) (.const (Go.Value.int Go.IntKind.i64 1)))⟩,
      ⟨some 10, none, .prim (.mov (.tmp 32))⟩]))))))))))
def o162 : List Tmp := []
def r162 : List RV := []
theorem t162 : Text Tryz.prog 162 o162 c162 r162 56 := ⟨⟨Tryz.f162, _, by kernel_rfl, by kernel_rfl, rfl, by kernel_rfl, by kernel_rfl, rfl⟩, by kernel_rfl⟩

/-- slices.breakPatternsOrdered[int] -/
def c163 : ACode :=
  (.seq (.ops [⟨some 11, none, .prim (.mov (.tmp 2))⟩,
      ⟨some 12, none, .prim (.mov (.tmp 1))⟩,
      ⟨some 13, none, .prim (.bin false .sub (.tmp 11) (.tmp 12))⟩,
      ⟨some 6, none, .prim (.mov (.tmp 13))⟩])
    (.seq (.ops [⟨some 14, none, .prim (.mov (.tmp 6))⟩,
      ⟨some 15, none, .prim (.bin false .geq (.tmp 14) (.const (Go.Value.int Go.IntKind.i64 8)))⟩])
    (.cond (.tmp 15)
    (.seq (.ops [⟨some 16, none, .prim (.mov (.tmp 6))⟩,
      ⟨some 17, none, .prim (.convi .u64 (.tmp 16))⟩,
      ⟨some 7, none, .prim (.allocm [.pl (.int .u64 0)])⟩,
      ⟨none, none, .prim (.store 1 (.tmp 7) (.tmp 17))⟩])
    (.seq (.ops [⟨some 18, none, .prim (.mov (.tmp 6))⟩,
      ⟨some 19, none, .call (.func 108) [(.tmp 18)]⟩,
      ⟨some 8, none, .prim (.mov (.tmp 19))⟩])
    (.seq (.ops [⟨some 20, none, .prim (.mov (.tmp 1))⟩,
      ⟨some 21, none, .prim (.mov (.tmp 6))⟩,
      ⟨some 22, none, .prim (.bin false .quo (.tmp 21) (.const (Go.Value.int Go.IntKind.i64 4)))⟩,
      ⟨some 23, none, .prim (.bin false .mul (.tmp 22) (.const (Go.Value.int Go.IntKind.i64 2)))⟩,
      ⟨some 24, none, .prim (.bin false .add (.tmp 20) (.tmp 23))⟩,
      ⟨some 25, none, .prim (.bin false .sub (.tmp 24) (.const (Go.Value.int Go.IntKind.i64 1)))⟩,
      ⟨some 9, none, .prim (.mov (.tmp 25))⟩])
    (.block 0 (.loop [2, 3, 4, 5, 10, 11, 12, 13, 14, 15, 16, 17, 18, 19, 20, 21, 22, 23, 24, 25, 26, 27, 28, 29, 30, 31, 32, 33, 34, 35, 36, 37, 38, 39, 40, 41, 42, 43, 44, 45, 46, 47, 48, 49, 50, 51, 52, 53, 54, 55, 56, 57, 58, 59, 60, 61, 62, 63, 64] (.seq (.seq (.ops [⟨some 26, none, .prim (.mov (.tmp 9))⟩,
      ⟨some 27, none, .prim (.mov (.tmp 1))⟩,
      ⟨some 28, none, .prim (.mov (.tmp 6))⟩,
      ⟨some 29, none, .prim (.bin false .quo (.tmp 28) (.const (Go.Value.int Go.IntKind.i64 4)))⟩,
      ⟨some 30, none, .prim (.bin false .mul (.tmp 29) (.const (Go.Value.int Go.IntKind.i64 2)))⟩,
      ⟨some 31, none, .prim (.bin false .add (.tmp 27) (.tmp 30))⟩,
      ⟨some 32, none, .prim (.bin false .add (.tmp 31) (.const (Go.Value.int Go.IntKind.i64 1)))⟩,
      ⟨some 33, none, .prim (.bin false .leq (.tmp 26) (.tmp 32))⟩])
    (.cond (.tmp 33)
    .skip
    (.exit 0)))
    (.seq (.block 1 (.seq (.ops [⟨some 36, none, .call (.func 109) [(.tmp 7)]⟩,
      ⟨some 37, none, .prim (.mov (.tmp 8))⟩,
      ⟨some 38, none, .prim (.bin false .sub (.tmp 37) (.const (Go.Value.int Go.IntKind.u64 1)))⟩,
      ⟨some 39, none, .prim (.bin false .and (.tmp 36) (.tmp 38))⟩,
      ⟨some 40, none, .prim (.convi .i64 (.tmp 39))⟩,
      ⟨some 10, none, .prim (.mov (.tmp 40))⟩])
    (.seq (.seq (.ops [⟨some 41, none, .prim (.mov (.tmp 10))⟩,
      ⟨some 42, none, .prim (.mov (.tmp 6))⟩,
      ⟨some 43, none, .prim (.bin false .geq (.tmp 41) (.tmp 42))⟩])
    (.cond (.tmp 43)
    (.ops [⟨some 44, none, .prim (.mov (.tmp 10))⟩,
      ⟨some 45, none, .prim (.mov (.tmp 6))⟩,
      ⟨some 46, none, .prim (.bin false .sub (.tmp 44) (.tmp 45))⟩,
      ⟨some 10, none, .prim (.mov (.tmp 46))⟩])
    .skip))
    (.draw [⟨⟨some 47, none, .prim (.mov (.tmp 0))⟩, [], false, 0, 0⟩,
      ⟨⟨some 48, none, .prim (.mov (.tmp 9))⟩, [], false, 0, 0⟩,
      ⟨⟨some 49, none, .prim (.mov (.tmp 0))⟩, [], false, 0, 1⟩,
      ⟨⟨some 50, none, .prim (.mov (.tmp 1))⟩, [], false, 0, 1⟩,
      ⟨⟨some 51, none, .prim (.mov (.tmp 10))⟩, [], false, 0, 1⟩,
      ⟨⟨some 52, none, .prim (.bin false .add (.tmp 50) (.tmp 51))⟩, [3, 4], false, 0, 1⟩,
      ⟨⟨some 53, none, .prim (.mov (.tmp 0))⟩, [], false, 0, 0⟩,
      ⟨⟨some 54, none, .prim (.mov (.tmp 1))⟩, [], false, 0, 0⟩,
      ⟨⟨some 55, none, .prim (.mov (.tmp 10))⟩, [], false, 0, 0⟩,
      ⟨⟨some 56, none, .prim (.bin false .add (.tmp 54) (.tmp 55))⟩, [7, 8], false, 0, 0⟩,
      ⟨⟨some 57, none, .prim (.iadrs 1 (.tmp 53) (.tmp 56))⟩, [6, 7, 8, 9], false, 0, 0⟩,
      ⟨⟨some 58, none, .prim (.load 1 false (.tmp 57))⟩, [6, 7, 8, 9, 10], false, 0, 0⟩,
      ⟨⟨some 59, none, .prim (.mov (.tmp 0))⟩, [], false, 0, 0⟩,
      ⟨⟨some 60, none, .prim (.mov (.tmp 9))⟩, [], false, 0, 0⟩,
      ⟨⟨some 61, none, .prim (.iadrs 1 (.tmp 59) (.tmp 60))⟩, [12, 13], false, 0, 0⟩,
      ⟨⟨some 62, none, .prim (.load 1 false (.tmp 61))⟩, [12, 13, 14], false, 0, 0⟩,
      ⟨⟨some 63, none, .prim (.iadrs 1 (.tmp 47) (.tmp 48))⟩, [0, 1, 6, 7, 8, 9, 10, 11, 12, 13, 14, 15], false, 0, 0⟩,
      ⟨⟨none, none, .prim (.store 1 (.tmp 63) (.tmp 58))⟩, [0, 1, 6, 7, 8, 9, 10, 11, 12, 13, 14, 15, 16], true, 0, 0⟩,
      ⟨⟨some 64, none, .prim (.iadrs 1 (.tmp 49) (.tmp 52))⟩, [0, 1, 2, 3, 4, 5, 6, 7, 8, 9, 10, 11, 12, 13, 14, 15, 16, 17], false, 1, 1⟩,
      ⟨⟨none, none, .prim (.store 1 (.tmp 64) (.tmp 62))⟩, [0, 1, 2, 3, 4, 5, 6, 7, 8, 9, 10, 11, 12, 13, 14, 15, 16, 17, 18], true, 0, 0⟩]))))
    (.ops [⟨some 34, none, .prim (.mov (.tmp 9))⟩,
      ⟨some 35, none, .prim (.bin false .add (.tmp 34) (.const (Go.Value.int Go.IntKind.i64 1)))⟩,
      ⟨some 9, none, .prim (.mov (.tmp 35))⟩]))))))))
    .skip)))
def o163 : List Tmp := [7]
def r163 : List RV := []
theorem t163 : Text Tryz.prog 163 o163 c163 r163 65 := ⟨⟨Tryz.f163, _, by kernel_rfl, by kernel_rfl, rfl, by kernel_rfl, by kernel_rfl, rfl⟩, by kernel_rfl⟩

/-- slices.choosePivotOrdered[int] -/
def c164 : ACode :=
  (.seq (.ops [⟨some 6, none, .prim (.mov (.const (Go.Value.int Go.IntKind.i64 0)))⟩,
      ⟨some 7, none, .prim (.mov (.const (Go.Value.int Go.IntKind.i64 0)))⟩])
    (.seq (.ops [⟨some 13, none, .prim (.mov (.tmp 2))⟩,
      ⟨some 14, none, .prim (.mov (.tmp 1))⟩,
      ⟨some 15, none, .prim (.bin false .sub (.tmp 13) (.tmp 14))⟩,
      ⟨some 8, none, .prim (.mov (.tmp 15))⟩])
    (.seq (.ops [⟨some 9, none, .prim (.allocm [.pl (.int .i64 0)])⟩])
    (.seq (.ops [⟨some 16, none, .prim (.mov (.tmp 1))⟩,
      ⟨some 17, none, .prim (.mov (.tmp 8))⟩,
      ⟨some 18, none, .prim (.bin false .quo (.tmp 17) (.const (Go.Value.int Go.IntKind.i64 4)))⟩,
      ⟨some 19, none, .prim (.bin false .mul (.tmp 18) (.const (Go.Value.int Go.IntKind.i64 1)))⟩,
      ⟨some 20, none, .prim (.bin false .add (.tmp 16) (.tmp 19))⟩,
      ⟨some 10, none, .prim (.mov (.tmp 20))⟩])
    (.seq (.ops [⟨some 21, none, .prim (.mov (.tmp 1))⟩,
      ⟨some 22, none, .prim (.mov (.tmp 8))⟩,
      ⟨some 23, none, .prim (.bin false .quo (.tmp 22) (.const (Go.Value.int Go.IntKind.i64 4)))⟩,
      ⟨some 24, none, .prim (.bin false .mul (.tmp 23) (.const (Go.Value.int Go.IntKind.i64 2)))⟩,
      ⟨some 25, none, .prim (.bin false .add (.tmp 21) (.tmp 24))⟩,
      ⟨some 11, none, .prim (.mov (.tmp 25))⟩])
    (.seq (.ops [⟨some 26, none, .prim (.mov (.tmp 1))⟩,
      ⟨some 27, none, .prim (.mov (.tmp 8))⟩,
      ⟨some 28, none, .prim (.bin false .quo (.tmp 27) (.const (Go.Value.int Go.IntKind.i64 4)))⟩,
      ⟨some 29, none, .prim (.bin false .mul (.tmp 28) (.const (Go.Value.int Go.IntKind.i64 3)))⟩,
      ⟨some 30, none, .prim (.bin false .add (.tmp 26) (.tmp 29))⟩,
      ⟨some 12, none, .prim (.mov (.tmp 30))⟩])
    (.seq (.seq (.ops [⟨some 31, none, .prim (.mov (.tmp 8))⟩,
      ⟨some 32, none, .prim (.bin false .geq (.tmp 31) (.const (Go.Value.int Go.IntKind.i64 8)))⟩])
    (.cond (.tmp 32)
    (.seq (.seq (.ops [⟨some 33, none, .prim (.mov (.tmp 8))⟩,
      ⟨some 34, none, .prim (.bin false .geq (.tmp 33) (.const (Go.Value.int Go.IntKind.i64 50)))⟩])
    (.cond (.tmp 34)
    (.seq (.ops [⟨some 35, none, .prim (.mov (.tmp 0))⟩,
      ⟨some 36, none, .prim (.mov (.tmp 10))⟩,
      ⟨some 37, none, .call (.func 171) [(.tmp 35), (.tmp 36), (.tmp 9)]⟩,
      ⟨some 10, none, .prim (.mov (.tmp 37))⟩])
    (.seq (.ops [⟨some 38, none, .prim (.mov (.tmp 0))⟩,
      ⟨some 39, none, .prim (.mov (.tmp 11))⟩,
      ⟨some 40, none, .call (.func 171) [(.tmp 38), (.tmp 39), (.tmp 9)]⟩,
      ⟨some 11, none, .prim (.mov (.tmp 40))⟩])
    (.ops [⟨some 41, none, .prim (.mov (.tmp 0))⟩,
      ⟨some 42, none, .prim (.mov (.tmp 12))⟩,
      ⟨some 43, none, .call (.func 171) [(.tmp 41), (.tmp 42), (.tmp 9)]⟩,
      ⟨some 12, none, .prim (.mov (.tmp 43))⟩])))
    .skip))
    (.ops [⟨some 44, none, .prim (.mov (.tmp 0))⟩,
      ⟨some 45, none, .prim (.mov (.tmp 10))⟩,
      ⟨some 46, none, .prim (.mov (.tmp 11))⟩,
      ⟨some 47, none, .prim (.mov (.tmp 12))⟩,
      ⟨some 48, none, .call (.func 172) [(.tmp 44), (.tmp 45), (.tmp 46), (.tmp 47), (.tmp 9)]⟩,
      ⟨some 11, none, .prim (.mov (.tmp 48))⟩]))
    .skip))
    (.seq (.ops [⟨some 49, none, .prim (.load 1 false (.tmp 9))⟩])
    (.block 0 (.seq (.ops [⟨some 52, none, .prim (.bin false .eql (.tmp 49) (.const (Go.Value.int Go.IntKind.i64 0)))⟩,
      ⟨some 51, none, .prim (.mov (.tmp 52))⟩])
    (.cond (.tmp 51)
    (.seq (.ops [⟨some 53, none, .prim (.mov (.tmp 11))⟩,
      ⟨some 6, none, .prim (.mov (.tmp 53))⟩,
      ⟨some 7, none, .prim (.mov (.const (Go.Value.int Go.IntKind.i64 1)))⟩])
    .ret)
    (.seq (.ops [⟨some 55, none, .prim (.bin false .eql (.tmp 49) (.const (Go.Value.int Go.IntKind.i64 12)))⟩,
      ⟨some 54, none, .prim (.mov (.tmp 55))⟩])
    (.cond (.tmp 54)
    (.seq (.ops [⟨some 56, none, .prim (.mov (.tmp 11))⟩,
      ⟨some 6, none, .prim (.mov (.tmp 56))⟩,
      ⟨some 7, none, .prim (.mov (.const (Go.Value.int Go.IntKind.i64 2)))⟩])
    .ret)
    (.seq (.ops [⟨some 50, none, .prim (.mov (.tmp 11))⟩,
      ⟨some 6, none, .prim (.mov (.tmp 50))⟩,
      ⟨some 7, none, .prim (.mov (.const (Go.Value.int Go.IntKind.i64 0)))⟩])
    .ret))))))))))))))
def o164 : List Tmp := [9]
def r164 : List RV := [.tmp 6, .tmp 7]
theorem t164 : Text Tryz.prog 164 o164 c164 r164 57 := ⟨⟨Tryz.f164, _, by kernel_rfl, by kernel_rfl, rfl, by kernel_rfl, by kernel_rfl, rfl⟩, by kernel_rfl⟩

/-- slices.reverseRangeOrdered[int] -/
def c165 : ACode :=
  (.seq (.ops [⟨some 8, none, .prim (.mov (.tmp 1))⟩,
      ⟨some 6, none, .prim (.mov (.tmp 8))⟩])
    (.seq (.ops [⟨some 9, none, .prim (.mov (.tmp 2))⟩,
      ⟨some 10, none, .prim (.bin false .sub (.tmp 9) (.const (Go.Value.int Go.IntKind.i64 1)))⟩,
      ⟨some 7, none, .prim (.mov (.tmp 10))⟩])
    (.block 0 (.loop [1, 2, 3, 4, 5, 8, 9, 10, 11, 12, 13, 14, 15, 16, 17, 18, 19, 20, 21, 22, 23, 24, 25, 26, 27, 28, 29, 30, 31] (.seq (.seq (.ops [⟨some 11, none, .prim (.mov (.tmp 6))⟩,
      ⟨some 12, none, .prim (.mov (.tmp 7))⟩,
      ⟨some 13, none, .prim (.bin false .lss (.tmp 11) (.tmp 12))⟩])
    (.cond (.tmp 13)
    .skip
    (.exit 0)))
    (.block 1 (.seq (.draw [⟨⟨some 14, none, .prim (.mov (.tmp 0))⟩, [], false, 0, 0⟩,
      ⟨⟨some 15, none, .prim (.mov (.tmp 6))⟩, [], false, 0, 0⟩,
      ⟨⟨some 16, none, .prim (.mov (.tmp 0))⟩, [], false, 0, 1⟩,
      ⟨⟨some 17, none, .prim (.mov (.tmp 7))⟩, [], false, 0, 1⟩,
      ⟨⟨some 18, none, .prim (.mov (.tmp 0))⟩, [], false, 0, 0⟩,
      ⟨⟨some 19, none, .prim (.mov (.tmp 7))⟩, [], false, 0, 0⟩,
      ⟨⟨some 20, none, .prim (.iadrs 1 (.tmp 18) (.tmp 19))⟩, [4, 5], false, 0, 0⟩,
      ⟨⟨some 21, none, .prim (.load 1 false (.tmp 20))⟩, [4, 5, 6], false, 0, 0⟩,
      ⟨⟨some 22, none, .prim (.mov (.tmp 0))⟩, [], false, 0, 0⟩,
      ⟨⟨some 23, none, .prim (.mov (.tmp 6))⟩, [], false, 0, 0⟩,
      ⟨⟨some 24, none, .prim (.iadrs 1 (.tmp 22) (.tmp 23))⟩, [8, 9], false, 0, 0⟩,
      ⟨⟨some 25, none, .prim (.load 1 false (.tmp 24))⟩, [8, 9, 10], false, 0, 0⟩,
      ⟨⟨some 26, none, .prim (.iadrs 1 (.tmp 14) (.tmp 15))⟩, [0, 1, 4, 5, 6, 7, 8, 9, 10, 11], false, 0, 0⟩,
      ⟨⟨none, none, .prim (.store 1 (.tmp 26) (.tmp 21))⟩, [0, 1, 4, 5, 6, 7, 8, 9, 10, 11, 12], true, 0, 0⟩,
      ⟨⟨some 27, none, .prim (.iadrs 1 (.tmp 16) (.tmp 17))⟩, [0, 1, 2, 3, 4, 5, 6, 7, 8, 9, 10, 11, 12, 13], false, 1, 1⟩,
      ⟨⟨none, none, .prim (.store 1 (.tmp 27) (.tmp 25))⟩, [0, 1, 2, 3, 4, 5, 6, 7, 8, 9, 10, 11, 12, 13, 14], true, 0, 0⟩])
    (.seq (.ops [⟨some 28, none, .prim (.mov (.tmp 6))⟩,
      ⟨some 29, none, .prim (.bin false .add (.tmp 28) (.const (Go.Value.int Go.IntKind.i64 1)))⟩,
      ⟨some 6, none, .prim (.mov (.tmp 29))⟩])
    (.ops [⟨some 30, none, .prim (.mov (.tmp 7))⟩,
      ⟨some 31, none, .prim (.bin false .sub (.tmp 30) (.const (Go.Value.int Go.IntKind.i64 1)))⟩,
      ⟨some 7, none, .prim (.mov (.tmp 31))⟩])))))))))
def o165 : List Tmp := []
def r165 : List RV := []
theorem t165 : Text Tryz.prog 165 o165 c165 r165 32 := ⟨⟨Tryz.f165, _, by kernel_rfl, by kernel_rfl, rfl, by kernel_rfl, by kernel_rfl, rfl⟩, by kernel_rfl⟩

/-- slices.partialInsertionSortOrdered[int] -/
def c166 : ACode :=
  (.seq (.ops [⟨some 6, none, .prim (.mov (.const (Go.Value.bool Bool.false)))⟩])
    (.seq (.ops [⟨some 11, none, .prim (.mov (.tmp 1))⟩,
      ⟨some 12, none, .prim (.bin false .add (.tmp 11) (.const (Go.Value.int Go.IntKind.i64 1)))⟩,
      ⟨some 7, none, .prim (.mov (.tmp 12))⟩])
    (.seq (.seq (.ops [⟨some 8, none, .prim (.mov (.const (Go.Value.int Go.IntKind.i64 0)))⟩])
    (.block 0 (.loop [3, 4, 5, 6, 9, 10, 11, 12, 13, 14, 15, 16, 17, 18, 19, 20, 21, 22, 23, 24, 25, 26, 27, 28, 29, 30, 31, 32, 33, 34, 35, 36, 37, 38, 39, 40, 41, 42, 43, 44, 45, 46, 47, 48, 49, 50, 51, 52, 53, 54, 55, 56, 57, 58, 59, 60, 61, 62, 63, 64, 65, 66, 67, 68, 69, 70, 71, 72, 73, 74, 75, 76, 77, 78, 79, 80, 81, 82, 83, 84, 85, 86, 87, 88, 89, 90, 91, 92, 93, 94, 95, 96, 97, 98, 99, 100, 101, 102, 103, 104, 105, 106, 107, 108, 109, 110, 111, 112, 113, 114, 115, 116, 117, 118, 119, 120, 121, 122, 123, 124, 125, 126, 127, 128, 129, 130, 131, 132] (.seq (.seq (.ops [⟨some 13, none, .prim (.mov (.tmp 8))⟩,
      ⟨some 14, none, .prim (.bin false .lss (.tmp 13) (.const (Go.Value.int Go.IntKind.i64 5)))⟩])
    (.cond (.tmp 14)
    .skip
    (.exit 0)))
    (.seq (.block 1 (.seq (.block 2 (.loop [3, 4, 5, 6, 9, 10, 11, 12, 13, 14, 15, 16, 17, 18, 19, 20, 21, 22, 23, 24, 25, 26, 27, 28, 29, 30, 31, 32, 33, 34, 35, 36, 37, 38, 39, 40, 41, 42, 43, 44, 45, 46, 47, 48, 49, 50, 51, 52, 53, 54, 55, 56, 57, 58, 59, 60, 61, 62, 63, 64, 65, 66, 67, 68, 69, 70, 71, 72, 73, 74, 75, 76, 77, 78, 79, 80, 81, 82, 83, 84, 85, 86, 87, 88, 89, 90, 91, 92, 93, 94, 95, 96, 97, 98, 99, 100, 101, 102, 103, 104, 105, 106, 107, 108, 109, 110, 111, 112, 113, 114, 115, 116, 117, 118, 119, 120, 121, 122, 123, 124, 125, 126, 127, 128, 129, 130, 131, 132] (.seq (.seq (.draw [⟨⟨some 17, none, .prim (.mov (.tmp 7))⟩, [], false, 0, 0⟩,
      ⟨⟨some 18, none, .prim (.mov (.tmp 2))⟩, [], false, 0, 0⟩,
      ⟨⟨some 19, none, .prim (.bin false .lss (.tmp 17) (.tmp 18))⟩, [0, 1], false, 0, 0⟩,
      ⟨⟨some 20, none, .prim (.mov (.tmp 19))⟩, [0, 1, 2], false, 0, 0⟩,
      ⟨⟨some 21, (some (20, true)), .prim (.mov (.tmp 0))⟩, [0, 1, 2, 3], false, 0, 0⟩,
      ⟨⟨some 22, (some (20, true)), .prim (.mov (.tmp 7))⟩, [0, 1, 2, 3], false, 0, 0⟩,
      ⟨⟨some 23, (some (20, true)), .prim (.iadrs 1 (.tmp 21) (.tmp 22))⟩, [0, 1, 2, 3, 4, 5], false, 0, 0⟩,
      ⟨⟨some 24, (some (20, true)), .prim (.load 1 false (.tmp 23))⟩, [0, 1, 2, 3, 4, 5, 6], false, 0, 0⟩,
      ⟨⟨some 25, (some (20, true)), .prim (.mov (.tmp 0))⟩, [0, 1, 2, 3], false, 0, 0⟩,
      ⟨⟨some 26, (some (20, true)), .prim (.mov (.tmp 7))⟩, [0, 1, 2, 3], false, 0, 0⟩,
      ⟨⟨some 27, (some (20, true)), .prim (.bin false .sub (.tmp 26) (.const (Go.Value.int Go.IntKind.i64 1)))⟩, [0, 1, 2, 3, 9], false, 0, 0⟩,
      ⟨⟨some 28, (some (20, true)), .prim (.iadrs 1 (.tmp 25) (.tmp 27))⟩, [0, 1, 2, 3, 8, 9, 10], false, 0, 0⟩,
      ⟨⟨some 29, (some (20, true)), .prim (.load 1 false (.tmp 28))⟩, [0, 1, 2, 3, 8, 9, 10, 11], false, 0, 0⟩,
      ⟨⟨some 30, (some (20, true)), .call (.func 102) [(.tmp 24), (.tmp 29)]⟩, [0, 1, 2, 3, 4, 5, 6, 7, 8, 9, 10, 11, 12], true, 0, 0⟩,
      ⟨⟨some 31, (some (20, true)), .prim (.un .not (.tmp 30))⟩, [0, 1, 2, 3, 4, 5, 6, 7, 8, 9, 10, 11, 12, 13], false, 1, 1⟩,
      ⟨⟨some 32, none, .prim (.pick (.tmp 20) (.tmp 31) (.const (Go.Value.bool Bool.false)))⟩, [0, 1, 2, 3, 4, 5, 6, 7, 8, 9, 10, 11, 12, 13, 14], false, 1, 1⟩])
    (.cond (.tmp 32)
    .skip
    (.exit 2)))
    (.block 3 (.ops [⟨some 33, none, .prim (.mov (.tmp 7))⟩,
      ⟨some 34, none, .prim (.bin false .add (.tmp 33) (.const (Go.Value.int Go.IntKind.i64 1)))⟩,
      ⟨some 7, none, .prim (.mov (.tmp 34))⟩])))))
    (.seq (.seq (.ops [⟨some 35, none, .prim (.mov (.tmp 7))⟩,
      ⟨some 36, none, .prim (.mov (.tmp 2))⟩,
      ⟨some 37, none, .prim (.bin false .eql (.tmp 35) (.tmp 36))⟩])
    (.cond (.tmp 37)
    (.seq (.ops [⟨some 6, none, .prim (.mov (.const (Go.Value.bool Bool.true)))⟩])
    .ret)
    .skip))
    (.seq (.seq (.ops [⟨some 38, none, .prim (.mov (.tmp 2))⟩,
      ⟨some 39, none, .prim (.mov (.tmp 1))⟩,
      ⟨some 40, none, .prim (.bin false .sub (.tmp 38) (.tmp 39))⟩,
      ⟨some 41, none, .prim (.bin false .lss (.tmp 40) (.const (Go.Value.int Go.IntKind.i64 50)))⟩])
    (.cond (.tmp 41)
    (.seq (.ops [⟨some 6, none, .prim (.mov (.const (Go.Value.bool Bool.false)))⟩])
    .ret)
    .skip))
    (.seq (.draw [⟨⟨some 42, none, .prim (.mov (.tmp 0))⟩, [], false, 0, 0⟩,
      ⟨⟨some 43, none, .prim (.mov (.tmp 7))⟩, [], false, 0, 0⟩,
      ⟨⟨some 44, none, .prim (.mov (.tmp 0))⟩, [], false, 0, 1⟩,
      ⟨⟨some 45, none, .prim (.mov (.tmp 7))⟩, [], false, 0, 1⟩,
      ⟨⟨some 46, none, .prim (.bin false .sub (.tmp 45) (.const (Go.Value.int Go.IntKind.i64 1)))⟩, [3], false, 0, 1⟩,
      ⟨⟨some 47, none, .prim (.mov (.tmp 0))⟩, [], false, 0, 0⟩,
      ⟨⟨some 48, none, .prim (.mov (.tmp 7))⟩, [], false, 0, 0⟩,
      ⟨⟨some 49, none, .prim (.bin false .sub (.tmp 48) (.const (Go.Value.int Go.IntKind.i64 1)))⟩, [6], false, 0, 0⟩,
      ⟨⟨some 50, none, .prim (.iadrs 1 (.tmp 47) (.tmp 49))⟩, [5, 6, 7], false, 0, 0⟩,
      ⟨⟨some 51, none, .prim (.load 1 false (.tmp 50))⟩, [5, 6, 7, 8], false, 0, 0⟩,
      ⟨⟨some 52, none, .prim (.mov (.tmp 0))⟩, [], false, 0, 0⟩,
      ⟨⟨some 53, none, .prim (.mov (.tmp 7))⟩, [], false, 0, 0⟩,
      ⟨⟨some 54, none, .prim (.iadrs 1 (.tmp 52) (.tmp 53))⟩, [10, 11], false, 0, 0⟩,
      ⟨⟨some 55, none, .prim (.load 1 false (.tmp 54))⟩, [10, 11, 12], false, 0, 0⟩,
      ⟨⟨some 56, none, .prim (.iadrs 1 (.tmp 42) (.tmp 43))⟩, [0, 1, 5, 6, 7, 8, 9, 10, 11, 12, 13], false, 0, 0⟩,
      ⟨⟨none, none, .prim (.store 1 (.tmp 56) (.tmp 51))⟩, [0, 1, 5, 6, 7, 8, 9, 10, 11, 12, 13, 14], true, 0, 0⟩,
      ⟨⟨some 57, none, .prim (.iadrs 1 (.tmp 44) (.tmp 46))⟩, [0, 1, 2, 3, 4, 5, 6, 7, 8, 9, 10, 11, 12, 13, 14, 15], false, 1, 1⟩,
      ⟨⟨none, none, .prim (.store 1 (.tmp 57) (.tmp 55))⟩, [0, 1, 2, 3, 4, 5, 6, 7, 8, 9, 10, 11, 12, 13, 14, 15, 16], true, 0, 0⟩])
    (.seq (.seq (.ops [⟨some 58, none, .prim (.mov (.tmp 7))⟩,
      ⟨some 59, none, .prim (.mov (.tmp 1))⟩,
      ⟨some 60, none, .prim (.bin false .sub (.tmp 58) (.tmp 59))⟩,
      ⟨some 61, none, .prim (.bin false .geq (.tmp 60) (.const (Go.Value.int Go.IntKind.i64 2)))⟩])
    (.cond (.tmp 61)
    (.seq (.ops [⟨some 62, none, .prim (.mov (.tmp 7))⟩,
      ⟨some 63, none, .prim (.bin false .sub (.tmp 62) (.const (Go.Value.int Go.IntKind.i64 1)))⟩,
      ⟨some 9, none, .prim (.mov (.tmp 63))⟩])
    (.block 4 (.loop [3, 4, 5, 6, 10, 11, 12, 13, 14, 15, 16, 17, 18, 19, 20, 21, 22, 23, 24, 25, 26, 27, 28, 29, 30, 31, 32, 33, 34, 35, 36, 37, 38, 39, 40, 41, 42, 43, 44, 45, 46, 47, 48, 49, 50, 51, 52, 53, 54, 55, 56, 57, 58, 59, 60, 61, 62, 63, 64, 65, 66, 67, 68, 69, 70, 71, 72, 73, 74, 75, 76, 77, 78, 79, 80, 81, 82, 83, 84, 85, 86, 87, 88, 89, 90, 91, 92, 93, 94, 95, 96, 97, 98, 99, 100, 101, 102, 103, 104, 105, 106, 107, 108, 109, 110, 111, 112, 113, 114, 115, 116, 117, 118, 119, 120, 121, 122, 123, 124, 125, 126, 127, 128, 129, 130, 131, 132] (.seq (.seq (.ops [⟨some 64, none, .prim (.mov (.tmp 9))⟩,
      ⟨some 65, none, .prim (.bin false .geq (.tmp 64) (.const (Go.Value.int Go.IntKind.i64 1)))⟩])
    (.cond (.tmp 65)
    .skip
    (.exit 4)))
    (.seq (.block 5 (.seq (.seq (.draw [⟨⟨some 68, none, .prim (.mov (.tmp 0))⟩, [], false, 0, 0⟩,
      ⟨⟨some 69, none, .prim (.mov (.tmp 9))⟩, [], false, 0, 0⟩,
      ⟨⟨some 70, none, .prim (.iadrs 1 (.tmp 68) (.tmp 69))⟩, [0, 1], false, 0, 0⟩,
      ⟨⟨some 71, none, .prim (.load 1 false (.tmp 70))⟩, [0, 1, 2], false, 0, 0⟩,
      ⟨⟨some 72, none, .prim (.mov (.tmp 0))⟩, [], false, 0, 0⟩,
      ⟨⟨some 73, none, .prim (.mov (.tmp 9))⟩, [], false, 0, 0⟩,
      ⟨⟨some 74, none, .prim (.bin false .sub (.tmp 73) (.const (Go.Value.int Go.IntKind.i64 1)))⟩, [5], false, 0, 0⟩,
      ⟨⟨some 75, none, .prim (.iadrs 1 (.tmp 72) (.tmp 74))⟩, [4, 5, 6], false, 0, 0⟩,
      ⟨⟨some 76, none, .prim (.load 1 false (.tmp 75))⟩, [4, 5, 6, 7], false, 0, 0⟩,
      ⟨⟨some 77, none, .call (.func 102) [(.tmp 71), (.tmp 76)]⟩, [0, 1, 2, 3, 4, 5, 6, 7, 8], true, 0, 0⟩,
      ⟨⟨some 78, none, .prim (.un .not (.tmp 77))⟩, [0, 1, 2, 3, 4, 5, 6, 7, 8, 9], false, 1, 1⟩])
    (.cond (.tmp 78)
    (.exit 4)
    .skip))
    (.draw [⟨⟨some 79, none, .prim (.mov (.tmp 0))⟩, [], false, 0, 0⟩,
      ⟨⟨some 80, none, .prim (.mov (.tmp 9))⟩, [], false, 0, 0⟩,
      ⟨⟨some 81, none, .prim (.mov (.tmp 0))⟩, [], false, 0, 1⟩,
      ⟨⟨some 82, none, .prim (.mov (.tmp 9))⟩, [], false, 0, 1⟩,
      ⟨⟨some 83, none, .prim (.bin false .sub (.tmp 82) (.const (Go.Value.int Go.IntKind.i64 1)))⟩, [3], false, 0, 1⟩,
      ⟨⟨some 84, none, .prim (.mov (.tmp 0))⟩, [], false, 0, 0⟩,
      ⟨⟨some 85, none, .prim (.mov (.tmp 9))⟩, [], false, 0, 0⟩,
      ⟨⟨some 86, none, .prim (.bin false .sub (.tmp 85) (.const (Go.Value.int Go.IntKind.i64 1)))⟩, [6], false, 0, 0⟩,
      ⟨⟨some 87, none, .prim (.iadrs 1 (.tmp 84) (.tmp 86))⟩, [5, 6, 7], false, 0, 0⟩,
      ⟨⟨some 88, none, .prim (.load 1 false (.tmp 87))⟩, [5, 6, 7, 8], false, 0, 0⟩,
      ⟨⟨some 89, none, .prim (.mov (.tmp 0))⟩, [], false, 0, 0⟩,
      ⟨⟨some 90, none, .prim (.mov (.tmp 9))⟩, [], false, 0, 0⟩,
      ⟨⟨some 91, none, .prim (.iadrs 1 (.tmp 89) (.tmp 90))⟩, [10, 11], false, 0, 0⟩,
      ⟨⟨some 92, none, .prim (.load 1 false (.tmp 91))⟩, [10, 11, 12], false, 0, 0⟩,
      ⟨⟨some 93, none, .prim (.iadrs 1 (.tmp 79) (.tmp 80))⟩, [0, 1, 5, 6, 7, 8, 9, 10, 11, 12, 13], false, 0, 0⟩,
      ⟨⟨none, none, .prim (.store 1 (.tmp 93) (.tmp 88))⟩, [0, 1, 5, 6, 7, 8, 9, 10, 11, 12, 13, 14], true, 0, 0⟩,
      ⟨⟨some 94, none, .prim (.iadrs 1 (.tmp 81) (.tmp 83))⟩, [0, 1, 2, 3, 4, 5, 6, 7, 8, 9, 10, 11, 12, 13, 14, 15], false, 1, 1⟩,
      ⟨⟨none, none, .prim (.store 1 (.tmp 94) (.tmp 92))⟩, [0, 1, 2, 3, 4, 5, 6, 7, 8, 9, 10, 11, 12, 13, 14, 15, 16], true, 0, 0⟩])))
    (.ops [⟨some 66, none, .prim (.mov (.tmp 9))⟩,
      ⟨some 67, none, .prim (.bin false .sub (.tmp 66) (.const (Go.Value.int Go.IntKind.i64 1)))⟩,
      ⟨some 9, none, .prim (.mov (.tmp 67))⟩]))))))
    .skip))
    (.seq (.ops [⟨some 95, none, .prim (.mov (.tmp 2))⟩,
      ⟨some 96, none, .prim (.mov (.tmp 7))⟩,
      ⟨some 97, none, .prim (.bin false .sub (.tmp 95) (.tmp 96))⟩,
      ⟨some 98, none, .prim (.bin false .geq (.tmp 97) (.const (Go.Value.int Go.IntKind.i64 2)))⟩])
    (.cond (.tmp 98)
    (.seq (.ops [⟨some 99, none, .prim (.mov (.tmp 7))⟩,
      ⟨some 100, none, .prim (.bin false .add (.tmp 99) (.const (Go.Value.int Go.IntKind.i64 1)))⟩,
      ⟨some 10, none, .prim (.mov (.tmp 100))⟩])
    (.block 6 (.loop [3, 4, 5, 6, 9, 11, 12, 13, 14, 15, 16, 17, 18, 19, 20, 21, 22, 23, 24, 25, 26, 27, 28, 29, 30, 31, 32, 33, 34, 35, 36, 37, 38, 39, 40, 41, 42, 43, 44, 45, 46, 47, 48, 49, 50, 51, 52, 53, 54, 55, 56, 57, 58, 59, 60, 61, 62, 63, 64, 65, 66, 67, 68, 69, 70, 71, 72, 73, 74, 75, 76, 77, 78, 79, 80, 81, 82, 83, 84, 85, 86, 87, 88, 89, 90, 91, 92, 93, 94, 95, 96, 97, 98, 99, 100, 101, 102, 103, 104, 105, 106, 107, 108, 109, 110, 111, 112, 113, 114, 115, 116, 117, 118, 119, 120, 121, 122, 123, 124, 125, 126, 127, 128, 129, 130, 131, 132] (.seq (.seq (.ops [⟨some 101, none, .prim (.mov (.tmp 10))⟩,
      ⟨some 102, none, .prim (.mov (.tmp 2))⟩,
      ⟨some 103, none, .prim (.bin false .lss (.tmp 101) (.tmp 102))⟩])
    (.cond (.tmp 103)
    .skip
    (.exit 6)))
    (.seq (.block 7 (.seq (.seq (.draw [⟨⟨some 106, none, .prim (.mov (.tmp 0))⟩, [], false, 0, 0⟩,
      ⟨⟨some 107, none, .prim (.mov (.tmp 10))⟩, [], false, 0, 0⟩,
      ⟨⟨some 108, none, .prim (.iadrs 1 (.tmp 106) (.tmp 107))⟩, [0, 1], false, 0, 0⟩,
      ⟨⟨some 109, none, .prim (.load 1 false (.tmp 108))⟩, [0, 1, 2], false, 0, 0⟩,
      ⟨⟨some 110, none, .prim (.mov (.tmp 0))⟩, [], false, 0, 0⟩,
      ⟨⟨some 111, none, .prim (.mov (.tmp 10))⟩, [], false, 0, 0⟩,
      ⟨⟨some 112, none, .prim (.bin false .sub (.tmp 111) (.const (Go.Value.int Go.IntKind.i64 1)))⟩, [5], false, 0, 0⟩,
      ⟨⟨some 113, none, .prim (.iadrs 1 (.tmp 110) (.tmp 112))⟩, [4, 5, 6], false, 0, 0⟩,
      ⟨⟨some 114, none, .prim (.load 1 false (.tmp 113))⟩, [4, 5, 6, 7], false, 0, 0⟩,
      ⟨⟨some 115, none, .call (.func 102) [(.tmp 109), (.tmp 114)]⟩, [0, 1, 2, 3, 4, 5, 6, 7, 8], true, 0, 0⟩,
      ⟨⟨some 116, none, .prim (.un .not (.tmp 115))⟩, [0, 1, 2, 3, 4, 5, 6, 7, 8, 9], false, 1, 1⟩])
    (.cond (.tmp 116)
    (.exit 6)
    .skip))
    (.draw [⟨⟨some 117, none, .prim (.mov (.tmp 0))⟩, [], false, 0, 0⟩,
      ⟨⟨some 118, none, .prim (.mov (.tmp 10))⟩, [], false, 0, 0⟩,
      ⟨⟨some 119, none, .prim (.mov (.tmp 0))⟩, [], false, 0, 1⟩,
      ⟨⟨some 120, none, .prim (.mov (.tmp 10))⟩, [], false, 0, 1⟩,
      ⟨⟨some 121, none, .prim (.bin false .sub (.tmp 120) (.const (Go.Value.int Go.IntKind.i64 1)))⟩, [3], false, 0, 1⟩,
      ⟨⟨some 122, none, .prim (.mov (.tmp 0))⟩, [], false, 0, 0⟩,
      ⟨⟨some 123, none, .prim (.mov (.tmp 10))⟩, [], false, 0, 0⟩,
      ⟨⟨some 124, none, .prim (.bin false .sub (.tmp 123) (.const (Go.Value.int Go.IntKind.i64 1)))⟩, [6], false, 0, 0⟩,
      ⟨⟨some 125, none, .prim (.iadrs 1 (.tmp 122) (.tmp 124))⟩, [5, 6, 7], false, 0, 0⟩,
      ⟨⟨some 126, none, .prim (.load 1 false (.tmp 125))⟩, [5, 6, 7, 8], false, 0, 0⟩,
      ⟨⟨some 127, none, .prim (.mov (.tmp 0))⟩, [], false, 0, 0⟩,
      ⟨⟨some 128, none, .prim (.mov (.tmp 10))⟩, [], false, 0, 0⟩,
      ⟨⟨some 129, none, .prim (.iadrs 1 (.tmp 127) (.tmp 128))⟩, [10, 11], false, 0, 0⟩,
      ⟨⟨some 130, none, .prim (.load 1 false (.tmp 129))⟩, [10, 11, 12], false, 0, 0⟩,
      ⟨⟨some 131, none, .prim (.iadrs 1 (.tmp 117) (.tmp 118))⟩, [0, 1, 5, 6, 7, 8, 9, 10, 11, 12, 13], false, 0, 0⟩,
      ⟨⟨none, none, .prim (.store 1 (.tmp 131) (.tmp 126))⟩, [0, 1, 5, 6, 7, 8, 9, 10, 11, 12, 13, 14], true, 0, 0⟩,
      ⟨⟨some 132, none, .prim (.iadrs 1 (.tmp 119) (.tmp 121))⟩, [0, 1, 2, 3, 4, 5, 6, 7, 8, 9, 10, 11, 12, 13, 14, 15], false, 1, 1⟩,
      ⟨⟨none, none, .prim (.store 1 (.tmp 132) (.tmp 130))⟩, [0, 1, 2, 3, 4, 5, 6, 7, 8, 9, 10, 11, 12, 13, 14, 15, 16], true, 0, 0⟩])))
    (.ops [⟨some 104, none, .prim (.mov (.tmp 10))⟩,
      ⟨some 105, none, .prim (.bin false .add (.tmp 104) (.const (Go.Value.int Go.IntKind.i64 1)))⟩,
      ⟨some 10, none, .prim (.mov (.tmp 105))⟩]))))))
    .skip))))))))
    (.ops [⟨some 15, none, .prim (.mov (.tmp 8))⟩,
      ⟨some 16, none, .prim (.bin false .add (.tmp 15) (.const (Go.Value.int Go.IntKind.i64 1)))⟩,
      ⟨some 8, none, .prim (.mov (.tmp 16))⟩]))))))
    (.seq (.ops [⟨some 6, none, .prim (.mov (.const (Go.Value.bool Bool.false)))⟩])
    .ret))))
def o166 : List Tmp := []
def r166 : List RV := [.tmp 6]
theorem t166 : Text Tryz.prog 166 o166 c166 r166 133 := ⟨⟨Tryz.f166, _, by kernel_rfl, by kernel_rfl, rfl, by kernel_rfl, by kernel_rfl, rfl⟩, by kernel_rfl⟩

/-- slices.partitionEqualOrdered[int] -/
def c167 : ACode :=
  (.seq (.ops [⟨some 8, none, .prim (.mov (.const (Go.Value.int Go.IntKind.i64 0)))⟩])
    (.seq (.draw [⟨⟨some 11, none, .prim (.mov (.tmp 0))⟩, [], false, 0, 0⟩,
      ⟨⟨some 12, none, .prim (.mov (.tmp 1))⟩, [], false, 0, 0⟩,
      ⟨⟨some 13, none, .prim (.mov (.tmp 0))⟩, [], false, 0, 1⟩,
      ⟨⟨some 14, none, .prim (.mov (.tmp 3))⟩, [], false, 0, 1⟩,
      ⟨⟨some 15, none, .prim (.mov (.tmp 0))⟩, [], false, 0, 0⟩,
      ⟨⟨some 16, none, .prim (.mov (.tmp 3))⟩, [], false, 0, 0⟩,
      ⟨⟨some 17, none, .prim (.iadrs 1 (.tmp 15) (.tmp 16))⟩, [4, 5], false, 0, 0⟩,
      ⟨⟨some 18, none, .prim (.load 1 false (.tmp 17))⟩, [4, 5, 6], false, 0, 0⟩,
      ⟨⟨some 19, none, .prim (.mov (.tmp 0))⟩, [], false, 0, 0⟩,
      ⟨⟨some 20, none, .prim (.mov (.tmp 1))⟩, [], false, 0, 0⟩,
      ⟨⟨some 21, none, .prim (.iadrs 1 (.tmp 19) (.tmp 20))⟩, [8, 9], false, 0, 0⟩,
      ⟨⟨some 22, none, .prim (.load 1 false (.tmp 21))⟩, [8, 9, 10], false, 0, 0⟩,
      ⟨⟨some 23, none, .prim (.iadrs 1 (.tmp 11) (.tmp 12))⟩, [0, 1, 4, 5, 6, 7, 8, 9, 10, 11], false, 0, 0⟩,
      ⟨⟨none, none, .prim (.store 1 (.tmp 23) (.tmp 18))⟩, [0, 1, 4, 5, 6, 7, 8, 9, 10, 11, 12], true, 0, 0⟩,
      ⟨⟨some 24, none, .prim (.iadrs 1 (.tmp 13) (.tmp 14))⟩, [0, 1, 2, 3, 4, 5, 6, 7, 8, 9, 10, 11, 12, 13], false, 1, 1⟩,
      ⟨⟨none, none, .prim (.store 1 (.tmp 24) (.tmp 22))⟩, [0, 1, 2, 3, 4, 5, 6, 7, 8, 9, 10, 11, 12, 13, 14], true, 0, 0⟩])
    (.seq (.ops [⟨some 25, none, .prim (.mov (.tmp 1))⟩,
      ⟨some 26, none, .prim (.bin false .add (.tmp 25) (.const (Go.Value.int Go.IntKind.i64 1)))⟩,
      ⟨some 27, none, .prim (.mov (.tmp 2))⟩,
      ⟨some 28, none, .prim (.bin false .sub (.tmp 27) (.const (Go.Value.int Go.IntKind.i64 1)))⟩,
      ⟨some 9, none, .prim (.mov (.tmp 26))⟩,
      ⟨some 10, none, .prim (.mov (.tmp 28))⟩])
    (.seq (.block 0 (.loop [2, 3, 4, 5, 6, 7, 8, 11, 12, 13, 14, 15, 16, 17, 18, 19, 20, 21, 22, 23, 24, 25, 26, 27, 28, 29, 30, 31, 32, 33, 34, 35, 36, 37, 38, 39, 40, 41, 42, 43, 44, 45, 46, 47, 48, 49, 50, 51, 52, 53, 54, 55, 56, 57, 58, 59, 60, 61, 62, 63, 64, 65, 66, 67, 68, 69, 70, 71, 72, 73, 74, 75, 76, 77, 78, 79, 80, 81, 82, 83] (.block 1 (.seq (.block 2 (.loop [2, 3, 4, 5, 6, 7, 8, 11, 12, 13, 14, 15, 16, 17, 18, 19, 20, 21, 22, 23, 24, 25, 26, 27, 28, 29, 30, 31, 32, 33, 34, 35, 36, 37, 38, 39, 40, 41, 42, 43, 44, 45, 46, 47, 48, 49, 50, 51, 52, 53, 54, 55, 56, 57, 58, 59, 60, 61, 62, 63, 64, 65, 66, 67, 68, 69, 70, 71, 72, 73, 74, 75, 76, 77, 78, 79, 80, 81, 82, 83] (.seq (.seq (.draw [⟨⟨some 29, none, .prim (.mov (.tmp 9))⟩, [], false, 0, 0⟩,
      ⟨⟨some 30, none, .prim (.mov (.tmp 10))⟩, [], false, 0, 0⟩,
      ⟨⟨some 31, none, .prim (.bin false .leq (.tmp 29) (.tmp 30))⟩, [0, 1], false, 0, 0⟩,
      ⟨⟨some 32, none, .prim (.mov (.tmp 31))⟩, [0, 1, 2], false, 0, 0⟩,
      ⟨⟨some 33, (some (32, true)), .prim (.mov (.tmp 0))⟩, [0, 1, 2, 3], false, 0, 0⟩,
      ⟨⟨some 34, (some (32, true)), .prim (.mov (.tmp 1))⟩, [0, 1, 2, 3], false, 0, 0⟩,
      ⟨⟨some 35, (some (32, true)), .prim (.iadrs 1 (.tmp 33) (.tmp 34))⟩, [0, 1, 2, 3, 4, 5], false, 0, 0⟩,
      ⟨⟨some 36, (some (32, true)), .prim (.load 1 false (.tmp 35))⟩, [0, 1, 2, 3, 4, 5, 6], false, 0, 0⟩,
      ⟨⟨some 37, (some (32, true)), .prim (.mov (.tmp 0))⟩, [0, 1, 2, 3], false, 0, 0⟩,
      ⟨⟨some 38, (some (32, true)), .prim (.mov (.tmp 9))⟩, [0, 1, 2, 3], false, 0, 0⟩,
      ⟨⟨some 39, (some (32, true)), .prim (.iadrs 1 (.tmp 37) (.tmp 38))⟩, [0, 1, 2, 3, 8, 9], false, 0, 0⟩,
      ⟨⟨some 40, (some (32, true)), .prim (.load 1 false (.tmp 39))⟩, [0, 1, 2, 3, 8, 9, 10], false, 0, 0⟩,
      ⟨⟨some 41, (some (32, true)), .call (.func 102) [(.tmp 36), (.tmp 40)]⟩, [0, 1, 2, 3, 4, 5, 6, 7, 8, 9, 10, 11], true, 0, 0⟩,
      ⟨⟨some 42, (some (32, true)), .prim (.un .not (.tmp 41))⟩, [0, 1, 2, 3, 4, 5, 6, 7, 8, 9, 10, 11, 12], false, 1, 1⟩,
      ⟨⟨some 43, none, .prim (.pick (.tmp 32) (.tmp 42) (.const (Go.Value.bool Bool.false)))⟩, [0, 1, 2, 3, 4, 5, 6, 7, 8, 9, 10, 11, 12, 13], false, 1, 1⟩])
    (.cond (.tmp 43)
    .skip
    (.exit 2)))
    (.block 3 (.ops [⟨some 44, none, .prim (.mov (.tmp 9))⟩,
      ⟨some 45, none, .prim (.bin false .add (.tmp 44) (.const (Go.Value.int Go.IntKind.i64 1)))⟩,
      ⟨some 9, none, .prim (.mov (.tmp 45))⟩])))))
    (.seq (.block 4 (.loop [2, 3, 4, 5, 6, 7, 8, 11, 12, 13, 14, 15, 16, 17, 18, 19, 20, 21, 22, 23, 24, 25, 26, 27, 28, 29, 30, 31, 32, 33, 34, 35, 36, 37, 38, 39, 40, 41, 42, 43, 44, 45, 46, 47, 48, 49, 50, 51, 52, 53, 54, 55, 56, 57, 58, 59, 60, 61, 62, 63, 64, 65, 66, 67, 68, 69, 70, 71, 72, 73, 74, 75, 76, 77, 78, 79, 80, 81, 82, 83] (.seq (.seq (.draw [⟨⟨some 46, none, .prim (.mov (.tmp 9))⟩, [], false, 0, 0⟩,
      ⟨⟨some 47, none, .prim (.mov (.tmp 10))⟩, [], false, 0, 0⟩,
      ⟨⟨some 48, none, .prim (.bin false .leq (.tmp 46) (.tmp 47))⟩, [0, 1], false, 0, 0⟩,
      ⟨⟨some 49, none, .prim (.mov (.tmp 48))⟩, [0, 1, 2], false, 0, 0⟩,
      ⟨⟨some 50, (some (49, true)), .prim (.mov (.tmp 0))⟩, [0, 1, 2, 3], false, 0, 0⟩,
      ⟨⟨some 51, (some (49, true)), .prim (.mov (.tmp 1))⟩, [0, 1, 2, 3], false, 0, 0⟩,
      ⟨⟨some 52, (some (49, true)), .prim (.iadrs 1 (.tmp 50) (.tmp 51))⟩, [0, 1, 2, 3, 4, 5], false, 0, 0⟩,
      ⟨⟨some 53, (some (49, true)), .prim (.load 1 false (.tmp 52))⟩, [0, 1, 2, 3, 4, 5, 6], false, 0, 0⟩,
      ⟨⟨some 54, (some (49, true)), .prim (.mov (.tmp 0))⟩, [0, 1, 2, 3], false, 0, 0⟩,
      ⟨⟨some 55, (some (49, true)), .prim (.mov (.tmp 10))⟩, [0, 1, 2, 3], false, 0, 0⟩,
      ⟨⟨some 56, (some (49, true)), .prim (.iadrs 1 (.tmp 54) (.tmp 55))⟩, [0, 1, 2, 3, 8, 9], false, 0, 0⟩,
      ⟨⟨some 57, (some (49, true)), .prim (.load 1 false (.tmp 56))⟩, [0, 1, 2, 3, 8, 9, 10], false, 0, 0⟩,
      ⟨⟨some 58, (some (49, true)), .call (.func 102) [(.tmp 53), (.tmp 57)]⟩, [0, 1, 2, 3, 4, 5, 6, 7, 8, 9, 10, 11], true, 0, 0⟩,
      ⟨⟨some 59, none, .prim (.pick (.tmp 49) (.tmp 58) (.const (Go.Value.bool Bool.false)))⟩, [0, 1, 2, 3, 4, 5, 6, 7, 8, 9, 10, 11, 12], false, 1, 1⟩])
    (.cond (.tmp 59)
    .skip
    (.exit 4)))
    (.block 5 (.ops [⟨some 60, none, .prim (.mov (.tmp 10))⟩,
      ⟨some 61, none, .prim (.bin false .sub (.tmp 60) (.const (Go.Value.int Go.IntKind.i64 1)))⟩,
      ⟨some 10, none, .prim (.mov (.tmp 61))⟩])))))
    (.seq (.seq (.ops [⟨some 62, none, .prim (.mov (.tmp 9))⟩,
      ⟨some 63, none, .prim (.mov (.tmp 10))⟩,
      ⟨some 64, none, .prim (.bin false .gtr (.tmp 62) (.tmp 63))⟩])
    (.cond (.tmp 64)
    (.exit 0)
    .skip))
    (.seq (.draw [⟨⟨some 65, none, .prim (.mov (.tmp 0))⟩, [], false, 0, 0⟩,
      ⟨⟨some 66, none, .prim (.mov (.tmp 9))⟩, [], false, 0, 0⟩,
      ⟨⟨some 67, none, .prim (.mov (.tmp 0))⟩, [], false, 0, 1⟩,
      ⟨⟨some 68, none, .prim (.mov (.tmp 10))⟩, [], false, 0, 1⟩,
      ⟨⟨some 69, none, .prim (.mov (.tmp 0))⟩, [], false, 0, 0⟩,
      ⟨⟨some 70, none, .prim (.mov (.tmp 10))⟩, [], false, 0, 0⟩,
      ⟨⟨some 71, none, .prim (.iadrs 1 (.tmp 69) (.tmp 70))⟩, [4, 5], false, 0, 0⟩,
      ⟨⟨some 72, none, .prim (.load 1 false (.tmp 71))⟩, [4, 5, 6], false, 0, 0⟩,
      ⟨⟨some 73, none, .prim (.mov (.tmp 0))⟩, [], false, 0, 0⟩,
      ⟨⟨some 74, none, .prim (.mov (.tmp 9))⟩, [], false, 0, 0⟩,
      ⟨⟨some 75, none, .prim (.iadrs 1 (.tmp 73) (.tmp 74))⟩, [8, 9], false, 0, 0⟩,
      ⟨⟨some 76, none, .prim (.load 1 false (.tmp 75))⟩, [8, 9, 10], false, 0, 0⟩,
      ⟨⟨some 77, none, .prim (.iadrs 1 (.tmp 65) (.tmp 66))⟩, [0, 1, 4, 5, 6, 7, 8, 9, 10, 11], false, 0, 0⟩,
      ⟨⟨none, none, .prim (.store 1 (.tmp 77) (.tmp 72))⟩, [0, 1, 4, 5, 6, 7, 8, 9, 10, 11, 12], true, 0, 0⟩,
      ⟨⟨some 78, none, .prim (.iadrs 1 (.tmp 67) (.tmp 68))⟩, [0, 1, 2, 3, 4, 5, 6, 7, 8, 9, 10, 11, 12, 13], false, 1, 1⟩,
      ⟨⟨none, none, .prim (.store 1 (.tmp 78) (.tmp 76))⟩, [0, 1, 2, 3, 4, 5, 6, 7, 8, 9, 10, 11, 12, 13, 14], true, 0, 0⟩])
    (.seq (.ops [⟨some 79, none, .prim (.mov (.tmp 9))⟩,
      ⟨some 80, none, .prim (.bin false .add (.tmp 79) (.const (Go.Value.int Go.IntKind.i64 1)))⟩,
      ⟨some 9, none, .prim (.mov (.tmp 80))⟩])
    (.ops [⟨some 81, none, .prim (.mov (.tmp 10))⟩,
      ⟨some 82, none, .prim (.bin false .sub (.tmp 81) (.const (Go.Value.int Go.IntKind.i64 1)))⟩,
      ⟨some 10, none, .prim (.mov (.tmp 82))⟩])))))))))
    (.seq (.ops [⟨some 83, none, .prim (.mov (.tmp 9))⟩,
      ⟨some 8, none, .prim (.mov (.tmp 83))⟩])
    .ret)))))
def o167 : List Tmp := []
def r167 : List RV := [.tmp 8]
theorem t167 : Text Tryz.prog 167 o167 c167 r167 84 := ⟨⟨Tryz.f167, _, by kernel_rfl, by kernel_rfl, rfl, by kernel_rfl, by kernel_rfl, rfl⟩, by kernel_rfl⟩

/-- slices.partitionOrdered[int] -/
def c168 : ACode :=
  (.seq (.ops [⟨some 8, none, .prim (.mov (.const (Go.Value.int Go.IntKind.i64 0)))⟩,
      ⟨some 9, none, .prim (.mov (.const (Go.Value.bool Bool.false)))⟩])
    (.seq (.draw [⟨⟨some 12, none, .prim (.mov (.tmp 0))⟩, [], false, 0, 0⟩,
      ⟨⟨some 13, none, .prim (.mov (.tmp 1))⟩, [], false, 0, 0⟩,
      ⟨⟨some 14, none, .prim (.mov (.tmp 0))⟩, [], false, 0, 1⟩,
      ⟨⟨some 15, none, .prim (.mov (.tmp 3))⟩, [], false, 0, 1⟩,
      ⟨⟨some 16, none, .prim (.mov (.tmp 0))⟩, [], false, 0, 0⟩,
      ⟨⟨some 17, none, .prim (.mov (.tmp 3))⟩, [], false, 0, 0⟩,
      ⟨⟨some 18, none, .prim (.iadrs 1 (.tmp 16) (.tmp 17))⟩, [4, 5], false, 0, 0⟩,
      ⟨⟨some 19, none, .prim (.load 1 false (.tmp 18))⟩, [4, 5, 6], false, 0, 0⟩,
      ⟨⟨some 20, none, .prim (.mov (.tmp 0))⟩, [], false, 0, 0⟩,
      ⟨⟨some 21, none, .prim (.mov (.tmp 1))⟩, [], false, 0, 0⟩,
      ⟨⟨some 22, none, .prim (.iadrs 1 (.tmp 20) (.tmp 21))⟩, [8, 9], false, 0, 0⟩,
      ⟨⟨some 23, none, .prim (.load 1 false (.tmp 22))⟩, [8, 9, 10], false, 0, 0⟩,
      ⟨⟨some 24, none, .prim (.iadrs 1 (.tmp 12) (.tmp 13))⟩, [0, 1, 4, 5, 6, 7, 8, 9, 10, 11], false, 0, 0⟩,
      ⟨⟨none, none, .prim (.store 1 (.tmp 24) (.tmp 19))⟩, [0, 1, 4, 5, 6, 7, 8, 9, 10, 11, 12], true, 0, 0⟩,
      ⟨⟨some 25, none, .prim (.iadrs 1 (.tmp 14) (.tmp 15))⟩, [0, 1, 2, 3, 4, 5, 6, 7, 8, 9, 10, 11, 12, 13], false, 1, 1⟩,
      ⟨⟨none, none, .prim (.store 1 (.tmp 25) (.tmp 23))⟩, [0, 1, 2, 3, 4, 5, 6, 7, 8, 9, 10, 11, 12, 13, 14], true, 0, 0⟩])
    (.seq (.ops [⟨some 26, none, .prim (.mov (.tmp 1))⟩,
      ⟨some 27, none, .prim (.bin false .add (.tmp 26) (.const (Go.Value.int Go.IntKind.i64 1)))⟩,
      ⟨some 28, none, .prim (.mov (.tmp 2))⟩,
      ⟨some 29, none, .prim (.bin false .sub (.tmp 28) (.const (Go.Value.int Go.IntKind.i64 1)))⟩,
      ⟨some 10, none, .prim (.mov (.tmp 27))⟩,
      ⟨some 11, none, .prim (.mov (.tmp 29))⟩])
    (.seq (.block 0 (.loop [2, 3, 4, 5, 6, 7, 8, 9, 12, 13, 14, 15, 16, 17, 18, 19, 20, 21, 22, 23, 24, 25, 26, 27, 28, 29, 30, 31, 32, 33, 34, 35, 36, 37, 38, 39, 40, 41, 42, 43, 44, 45, 46, 47, 48, 49, 50, 51, 52, 53, 54, 55, 56, 57, 58, 59, 60, 61, 62, 63, 64, 65, 66, 67, 68, 69, 70, 71, 72, 73, 74, 75, 76, 77, 78, 79, 80, 81, 82, 83, 84, 85, 86, 87, 88, 89, 90, 91, 92, 93, 94, 95, 96, 97, 98, 99, 100, 101, 102, 103, 104, 105, 106, 107, 108, 109, 110, 111, 112, 113, 114, 115, 116, 117, 118, 119, 120, 121, 122, 123, 124, 125, 126, 127, 128, 129, 130, 131, 132, 133, 134, 135, 136, 137, 138, 139, 140, 141, 142, 143, 144, 145, 146, 147, 148, 149, 150, 151, 152, 153, 154, 155, 156, 157, 158, 159, 160, 161, 162, 163, 164, 165, 166, 167] (.seq (.seq (.draw [⟨⟨some 30, none, .prim (.mov (.tmp 10))⟩, [], false, 0, 0⟩,
      ⟨⟨some 31, none, .prim (.mov (.tmp 11))⟩, [], false, 0, 0⟩,
      ⟨⟨some 32, none, .prim (.bin false .leq (.tmp 30) (.tmp 31))⟩, [0, 1], false, 0, 0⟩,
      ⟨⟨some 33, none, .prim (.mov (.tmp 32))⟩, [0, 1, 2], false, 0, 0⟩,
      ⟨⟨some 34, (some (33, true)), .prim (.mov (.tmp 0))⟩, [0, 1, 2, 3], false, 0, 0⟩,
      ⟨⟨some 35, (some (33, true)), .prim (.mov (.tmp 10))⟩, [0, 1, 2, 3], false, 0, 0⟩,
      ⟨⟨some 36, (some (33, true)), .prim (.iadrs 1 (.tmp 34) (.tmp 35))⟩, [0, 1, 2, 3, 4, 5], false, 0, 0⟩,
      ⟨⟨some 37, (some (33, true)), .prim (.load 1 false (.tmp 36))⟩, [0, 1, 2, 3, 4, 5, 6], false, 0, 0⟩,
      ⟨⟨some 38, (some (33, true)), .prim (.mov (.tmp 0))⟩, [0, 1, 2, 3], false, 0, 0⟩,
      ⟨⟨some 39, (some (33, true)), .prim (.mov (.tmp 1))⟩, [0, 1, 2, 3], false, 0, 0⟩,
      ⟨⟨some 40, (some (33, true)), .prim (.iadrs 1 (.tmp 38) (.tmp 39))⟩, [0, 1, 2, 3, 8, 9], false, 0, 0⟩,
      ⟨⟨some 41, (some (33, true)), .prim (.load 1 false (.tmp 40))⟩, [0, 1, 2, 3, 8, 9, 10], false, 0, 0⟩,
      ⟨⟨some 42, (some (33, true)), .call (.func 102) [(.tmp 37), (.tmp 41)]⟩, [0, 1, 2, 3, 4, 5, 6, 7, 8, 9, 10, 11], true, 0, 0⟩,
      ⟨⟨some 43, none, .prim (.pick (.tmp 33) (.tmp 42) (.const (Go.Value.bool Bool.false)))⟩, [0, 1, 2, 3, 4, 5, 6, 7, 8, 9, 10, 11, 12], false, 1, 1⟩])
    (.cond (.tmp 43)
    .skip
    (.exit 0)))
    (.block 1 (.ops [⟨some 44, none, .prim (.mov (.tmp 10))⟩,
      ⟨some 45, none, .prim (.bin false .add (.tmp 44) (.const (Go.Value.int Go.IntKind.i64 1)))⟩,
      ⟨some 10, none, .prim (.mov (.tmp 45))⟩])))))
    (.seq (.block 2 (.loop [2, 3, 4, 5, 6, 7, 8, 9, 12, 13, 14, 15, 16, 17, 18, 19, 20, 21, 22, 23, 24, 25, 26, 27, 28, 29, 30, 31, 32, 33, 34, 35, 36, 37, 38, 39, 40, 41, 42, 43, 44, 45, 46, 47, 48, 49, 50, 51, 52, 53, 54, 55, 56, 57, 58, 59, 60, 61, 62, 63, 64, 65, 66, 67, 68, 69, 70, 71, 72, 73, 74, 75, 76, 77, 78, 79, 80, 81, 82, 83, 84, 85, 86, 87, 88, 89, 90, 91, 92, 93, 94, 95, 96, 97, 98, 99, 100, 101, 102, 103, 104, 105, 106, 107, 108, 109, 110, 111, 112, 113, 114, 115, 116, 117, 118, 119, 120, 121, 122, 123, 124, 125, 126, 127, 128, 129, 130, 131, 132, 133, 134, 135, 136, 137, 138, 139, 140, 141, 142, 143, 144, 145, 146, 147, 148, 149, 150, 151, 152, 153, 154, 155, 156, 157, 158, 159, 160, 161, 162, 163, 164, 165, 166, 167] (.seq (.seq (.draw [⟨⟨some 46, none, .prim (.mov (.tmp 10))⟩, [], false, 0, 0⟩,
      ⟨⟨some 47, none, .prim (.mov (.tmp 11))⟩, [], false, 0, 0⟩,
      ⟨⟨some 48, none, .prim (.bin false .leq (.tmp 46) (.tmp 47))⟩, [0, 1], false, 0, 0⟩,
      ⟨⟨some 49, none, .prim (.mov (.tmp 48))⟩, [0, 1, 2], false, 0, 0⟩,
      ⟨⟨some 50, (some (49, true)), .prim (.mov (.tmp 0))⟩, [0, 1, 2, 3], false, 0, 0⟩,
      ⟨⟨some 51, (some (49, true)), .prim (.mov (.tmp 11))⟩, [0, 1, 2, 3], false, 0, 0⟩,
      ⟨⟨some 52, (some (49, true)), .prim (.iadrs 1 (.tmp 50) (.tmp 51))⟩, [0, 1, 2, 3, 4, 5], false, 0, 0⟩,
      ⟨⟨some 53, (some (49, true)), .prim (.load 1 false (.tmp 52))⟩, [0, 1, 2, 3, 4, 5, 6], false, 0, 0⟩,
      ⟨⟨some 54, (some (49, true)), .prim (.mov (.tmp 0))⟩, [0, 1, 2, 3], false, 0, 0⟩,
      ⟨⟨some 55, (some (49, true)), .prim (.mov (.tmp 1))⟩, [0, 1, 2, 3], false, 0, 0⟩,
      ⟨⟨some 56, (some (49, true)), .prim (.iadrs 1 (.tmp 54) (.tmp 55))⟩, [0, 1, 2, 3, 8, 9], false, 0, 0⟩,
      ⟨⟨some 57, (some (49, true)), .prim (.load 1 false (.tmp 56))⟩, [0, 1, 2, 3, 8, 9, 10], false, 0, 0⟩,
      ⟨⟨some 58, (some (49, true)), .call (.func 102) [(.tmp 53), (.tmp 57)]⟩, [0, 1, 2, 3, 4, 5, 6, 7, 8, 9, 10, 11], true, 0, 0⟩,
      ⟨⟨some 59, (some (49, true)), .prim (.un .not (.tmp 58))⟩, [0, 1, 2, 3, 4, 5, 6, 7, 8, 9, 10, 11, 12], false, 1, 1⟩,
      ⟨⟨some 60, none, .prim (.pick (.tmp 49) (.tmp 59) (.const (Go.Value.bool Bool.false)))⟩, [0, 1, 2, 3, 4, 5, 6, 7, 8, 9, 10, 11, 12, 13], false, 1, 1⟩])
    (.cond (.tmp 60)
    .skip
    (.exit 2)))
    (.block 3 (.ops [⟨some 61, none, .prim (.mov (.tmp 11))⟩,
      ⟨some 62, none, .prim (.bin false .sub (.tmp 61) (.const (Go.Value.int Go.IntKind.i64 1)))⟩,
      ⟨some 11, none, .prim (.mov (.tmp 62))⟩])))))
    (.seq (.seq (.ops [⟨some 63, none, .prim (.mov (.tmp 10))⟩,
      ⟨some 64, none, .prim (.mov (.tmp 11))⟩,
      ⟨some 65, none, .prim (.bin false .gtr (.tmp 63) (.tmp 64))⟩])
    (.cond (.tmp 65)
    (.seq (.draw [⟨⟨some 66, none, .prim (.mov (.tmp 0))⟩, [], false, 0, 0⟩,
      ⟨⟨some 67, none, .prim (.mov (.tmp 11))⟩, [], false, 0, 0⟩,
      ⟨⟨some 68, none, .prim (.mov (.tmp 0))⟩, [], false, 0, 1⟩,
      ⟨⟨some 69, none, .prim (.mov (.tmp 1))⟩, [], false, 0, 1⟩,
      ⟨⟨some 70, none, .prim (.mov (.tmp 0))⟩, [], false, 0, 0⟩,
      ⟨⟨some 71, none, .prim (.mov (.tmp 1))⟩, [], false, 0, 0⟩,
      ⟨⟨some 72, none, .prim (.iadrs 1 (.tmp 70) (.tmp 71))⟩, [4, 5], false, 0, 0⟩,
      ⟨⟨some 73, none, .prim (.load 1 false (.tmp 72))⟩, [4, 5, 6], false, 0, 0⟩,
      ⟨⟨some 74, none, .prim (.mov (.tmp 0))⟩, [], false, 0, 0⟩,
      ⟨⟨some 75, none, .prim (.mov (.tmp 11))⟩, [], false, 0, 0⟩,
      ⟨⟨some 76, none, .prim (.iadrs 1 (.tmp 74) (.tmp 75))⟩, [8, 9], false, 0, 0⟩,
      ⟨⟨some 77, none, .prim (.load 1 false (.tmp 76))⟩, [8, 9, 10], false, 0, 0⟩,
      ⟨⟨some 78, none, .prim (.iadrs 1 (.tmp 66) (.tmp 67))⟩, [0, 1, 4, 5, 6, 7, 8, 9, 10, 11], false, 0, 0⟩,
      ⟨⟨none, none, .prim (.store 1 (.tmp 78) (.tmp 73))⟩, [0, 1, 4, 5, 6, 7, 8, 9, 10, 11, 12], true, 0, 0⟩,
      ⟨⟨some 79, none, .prim (.iadrs 1 (.tmp 68) (.tmp 69))⟩, [0, 1, 2, 3, 4, 5, 6, 7, 8, 9, 10, 11, 12, 13], false, 1, 1⟩,
      ⟨⟨none, none, .prim (.store 1 (.tmp 79) (.tmp 77))⟩, [0, 1, 2, 3, 4, 5, 6, 7, 8, 9, 10, 11, 12, 13, 14], true, 0, 0⟩])
    (.seq (.ops [⟨some 80, none, .prim (.mov (.tmp 11))⟩,
      ⟨some 8, none, .prim (.mov (.tmp 80))⟩,
      ⟨some 9, none, .prim (.mov (.const (Go.Value.bool Bool.true)))⟩])
    .ret))
    .skip))
    (.seq (.draw [⟨⟨some 81, none, .prim (.mov (.tmp 0))⟩, [], false, 0, 0⟩,
      ⟨⟨some 82, none, .prim (.mov (.tmp 10))⟩, [], false, 0, 0⟩,
      ⟨⟨some 83, none, .prim (.mov (.tmp 0))⟩, [], false, 0, 1⟩,
      ⟨⟨some 84, none, .prim (.mov (.tmp 11))⟩, [], false, 0, 1⟩,
      ⟨⟨some 85, none, .prim (.mov (.tmp 0))⟩, [], false, 0, 0⟩,
      ⟨⟨some 86, none, .prim (.mov (.tmp 11))⟩, [], false, 0, 0⟩,
      ⟨⟨some 87, none, .prim (.iadrs 1 (.tmp 85) (.tmp 86))⟩, [4, 5], false, 0, 0⟩,
      ⟨⟨some 88, none, .prim (.load 1 false (.tmp 87))⟩, [4, 5, 6], false, 0, 0⟩,
      ⟨⟨some 89, none, .prim (.mov (.tmp 0))⟩, [], false, 0, 0⟩,
      ⟨⟨some 90, none, .prim (.mov (.tmp 10))⟩, [], false, 0, 0⟩,
      ⟨⟨some 91, none, .prim (.iadrs 1 (.tmp 89) (.tmp 90))⟩, [8, 9], false, 0, 0⟩,
      ⟨⟨some 92, none, .prim (.load 1 false (.tmp 91))⟩, [8, 9, 10], false, 0, 0⟩,
      ⟨⟨some 93, none, .prim (.iadrs 1 (.tmp 81) (.tmp 82))⟩, [0, 1, 4, 5, 6, 7, 8, 9, 10, 11], false, 0, 0⟩,
      ⟨⟨none, none, .prim (.store 1 (.tmp 93) (.tmp 88))⟩, [0, 1, 4, 5, 6, 7, 8, 9, 10, 11, 12], true, 0, 0⟩,
      ⟨⟨some 94, none, .prim (.iadrs 1 (.tmp 83) (.tmp 84))⟩, [0, 1, 2, 3, 4, 5, 6, 7, 8, 9, 10, 11, 12, 13], false, 1, 1⟩,
      ⟨⟨none, none, .prim (.store 1 (.tmp 94) (.tmp 92))⟩, [0, 1, 2, 3, 4, 5, 6, 7, 8, 9, 10, 11, 12, 13, 14], true, 0, 0⟩])
    (.seq (.ops [⟨some 95, none, .prim (.mov (.tmp 10))⟩,
      ⟨some 96, none, .prim (.bin false .add (.tmp 95) (.const (Go.Value.int Go.IntKind.i64 1)))⟩,
      ⟨some 10, none, .prim (.mov (.tmp 96))⟩])
    (.seq (.ops [⟨some 97, none, .prim (.mov (.tmp 11))⟩,
      ⟨some 98, none, .prim (.bin false .sub (.tmp 97) (.const (Go.Value.int Go.IntKind.i64 1)))⟩,
      ⟨some 11, none, .prim (.mov (.tmp 98))⟩])
    (.seq (.block 4 (.loop [2, 3, 4, 5, 6, 7, 8, 9, 12, 13, 14, 15, 16, 17, 18, 19, 20, 21, 22, 23, 24, 25, 26, 27, 28, 29, 30, 31, 32, 33, 34, 35, 36, 37, 38, 39, 40, 41, 42, 43, 44, 45, 46, 47, 48, 49, 50, 51, 52, 53, 54, 55, 56, 57, 58, 59, 60, 61, 62, 63, 64, 65, 66, 67, 68, 69, 70, 71, 72, 73, 74, 75, 76, 77, 78, 79, 80, 81, 82, 83, 84, 85, 86, 87, 88, 89, 90, 91, 92, 93, 94, 95, 96, 97, 98, 99, 100, 101, 102, 103, 104, 105, 106, 107, 108, 109, 110, 111, 112, 113, 114, 115, 116, 117, 118, 119, 120, 121, 122, 123, 124, 125, 126, 127, 128, 129, 130, 131, 132, 133, 134, 135, 136, 137, 138, 139, 140, 141, 142, 143, 144, 145, 146, 147, 148, 149, 150, 151, 152, 153, 154, 155, 156, 157, 158, 159, 160, 161, 162, 163, 164, 165, 166, 167] (.block 5 (.seq (.block 6 (.loop [2, 3, 4, 5, 6, 7, 8, 9, 12, 13, 14, 15, 16, 17, 18, 19, 20, 21, 22, 23, 24, 25, 26, 27, 28, 29, 30, 31, 32, 33, 34, 35, 36, 37, 38, 39, 40, 41, 42, 43, 44, 45, 46, 47, 48, 49, 50, 51, 52, 53, 54, 55, 56, 57, 58, 59, 60, 61, 62, 63, 64, 65, 66, 67, 68, 69, 70, 71, 72, 73, 74, 75, 76, 77, 78, 79, 80, 81, 82, 83, 84, 85, 86, 87, 88, 89, 90, 91, 92, 93, 94, 95, 96, 97, 98, 99, 100, 101, 102, 103, 104, 105, 106, 107, 108, 109, 110, 111, 112, 113, 114, 115, 116, 117, 118, 119, 120, 121, 122, 123, 124, 125, 126, 127, 128, 129, 130, 131, 132, 133, 134, 135, 136, 137, 138, 139, 140, 141, 142, 143, 144, 145, 146, 147, 148, 149, 150, 151, 152, 153, 154, 155, 156, 157, 158, 159, 160, 161, 162, 163, 164, 165, 166, 167] (.seq (.seq (.draw [⟨⟨some 99, none, .prim (.mov (.tmp 10))⟩, [], false, 0, 0⟩,
      ⟨⟨some 100, none, .prim (.mov (.tmp 11))⟩, [], false, 0, 0⟩,
      ⟨⟨some 101, none, .prim (.bin false .leq (.tmp 99) (.tmp 100))⟩, [0, 1], false, 0, 0⟩,
      ⟨⟨some 102, none, .prim (.mov (.tmp 101))⟩, [0, 1, 2], false, 0, 0⟩,
      ⟨⟨some 103, (some (102, true)), .prim (.mov (.tmp 0))⟩, [0, 1, 2, 3], false, 0, 0⟩,
      ⟨⟨some 104, (some (102, true)), .prim (.mov (.tmp 10))⟩, [0, 1, 2, 3], false, 0, 0⟩,
      ⟨⟨some 105, (some (102, true)), .prim (.iadrs 1 (.tmp 103) (.tmp 104))⟩, [0, 1, 2, 3, 4, 5], false, 0, 0⟩,
      ⟨⟨some 106, (some (102, true)), .prim (.load 1 false (.tmp 105))⟩, [0, 1, 2, 3, 4, 5, 6], false, 0, 0⟩,
      ⟨⟨some 107, (some (102, true)), .prim (.mov (.tmp 0))⟩, [0, 1, 2, 3], false, 0, 0⟩,
      ⟨⟨some 108, (some (102, true)), .prim (.mov (.tmp 1))⟩, [0, 1, 2, 3], false, 0, 0⟩,
      ⟨⟨some 109, (some (102, true)), .prim (.iadrs 1 (.tmp 107) (.tmp 108))⟩, [0, 1, 2, 3, 8, 9], false, 0, 0⟩,
      ⟨⟨some 110, (some (102, true)), .prim (.load 1 false (.tmp 109))⟩, [0, 1, 2, 3, 8, 9, 10], false, 0, 0⟩,
      ⟨⟨some 111, (some (102, true)), .call (.func 102) [(.tmp 106), (.tmp 110)]⟩, [0, 1, 2, 3, 4, 5, 6, 7, 8, 9, 10, 11], true, 0, 0⟩,
      ⟨⟨some 112, none, .prim (.pick (.tmp 102) (.tmp 111) (.const (Go.Value.bool Bool.false)))⟩, [0, 1, 2, 3, 4, 5, 6, 7, 8, 9, 10, 11, 12], false, 1, 1⟩])
    (.cond (.tmp 112)
    .skip
    (.exit 6)))
    (.block 7 (.ops [⟨some 113, none, .prim (.mov (.tmp 10))⟩,
      ⟨some 114, none, .prim (.bin false .add (.tmp 113) (.const (Go.Value.int Go.IntKind.i64 1)))⟩,
      ⟨some 10, none, .prim (.mov (.tmp 114))⟩])))))
    (.seq (.block 8 (.loop [2, 3, 4, 5, 6, 7, 8, 9, 12, 13, 14, 15, 16, 17, 18, 19, 20, 21, 22, 23, 24, 25, 26, 27, 28, 29, 30, 31, 32, 33, 34, 35, 36, 37, 38, 39, 40, 41, 42, 43, 44, 45, 46, 47, 48, 49, 50, 51, 52, 53, 54, 55, 56, 57, 58, 59, 60, 61, 62, 63, 64, 65, 66, 67, 68, 69, 70, 71, 72, 73, 74, 75, 76, 77, 78, 79, 80, 81, 82, 83, 84, 85, 86, 87, 88, 89, 90, 91, 92, 93, 94, 95, 96, 97, 98, 99, 100, 101, 102, 103, 104, 105, 106, 107, 108, 109, 110, 111, 112, 113, 114, 115, 116, 117, 118, 119, 120, 121, 122, 123, 124, 125, 126, 127, 128, 129, 130, 131, 132, 133, 134, 135, 136, 137, 138, 139, 140, 141, 142, 143, 144, 145, 146, 147, 148, 149, 150, 151, 152, 153, 154, 155, 156, 157, 158, 159, 160, 161, 162, 163, 164, 165, 166, 167] (.seq (.seq (.draw [⟨⟨some 115, none, .prim (.mov (.tmp 10))⟩, [], false, 0, 0⟩,
      ⟨⟨some 116, none, .prim (.mov (.tmp 11))⟩, [], false, 0, 0⟩,
      ⟨⟨some 117, none, .prim (.bin false .leq (.tmp 115) (.tmp 116))⟩, [0, 1], false, 0, 0⟩,
      ⟨⟨some 118, none, .prim (.mov (.tmp 117))⟩, [0, 1, 2], false, 0, 0⟩,
      ⟨⟨some 119, (some (118, true)), .prim (.mov (.tmp 0))⟩, [0, 1, 2, 3], false, 0, 0⟩,
      ⟨⟨some 120, (some (118, true)), .prim (.mov (.tmp 11))⟩, [0, 1, 2, 3], false, 0, 0⟩,
      ⟨⟨some 121, (some (118, true)), .prim (.iadrs 1 (.tmp 119) (.tmp 120))⟩, [0, 1, 2, 3, 4, 5], false, 0, 0⟩,
      ⟨⟨some 122, (some (118, true)), .prim (.load 1 false (.tmp 121))⟩, [0, 1, 2, 3, 4, 5, 6], false, 0, 0⟩,
      ⟨⟨some 123, (some (118, true)), .prim (.mov (.tmp 0))⟩, [0, 1, 2, 3], false, 0, 0⟩,
      ⟨⟨some 124, (some (118, true)), .prim (.mov (.tmp 1))⟩, [0, 1, 2, 3], false, 0, 0⟩,
      ⟨⟨some 125, (some (118, true)), .prim (.iadrs 1 (.tmp 123) (.tmp 124))⟩, [0, 1, 2, 3, 8, 9], false, 0, 0⟩,
      ⟨⟨some 126, (some (118, true)), .prim (.load 1 false (.tmp 125))⟩, [0, 1, 2, 3, 8, 9, 10], false, 0, 0⟩,
      ⟨⟨some 127, (some (118, true)), .call (.func 102) [(.tmp 122), (.tmp 126)]⟩, [0, 1, 2, 3, 4, 5, 6, 7, 8, 9, 10, 11], true, 0, 0⟩,
      ⟨⟨some 128, (some (118, true)), .prim (.un .not (.tmp 127))⟩, [0, 1, 2, 3, 4, 5, 6, 7, 8, 9, 10, 11, 12], false, 1, 1⟩,
      ⟨⟨some 129, none, .prim (.pick (.tmp 118) (.tmp 128) (.const (Go.Value.bool Bool.false)))⟩, [0, 1, 2, 3, 4, 5, 6, 7, 8, 9, 10, 11, 12, 13], false, 1, 1⟩])
    (.cond (.tmp 129)
    .skip
    (.exit 8)))
    (.block 9 (.ops [⟨some 130, none, .prim (.mov (.tmp 11))⟩,
      ⟨some 131, none, .prim (.bin false .sub (.tmp 130) (.const (Go.Value.int Go.IntKind.i64 1)))⟩,
      ⟨some 11, none, .prim (.mov (.tmp 131))⟩])))))
    (.seq (.seq (.ops [⟨some 132, none, .prim (.mov (.tmp 10))⟩,
      ⟨some 133, none, .prim (.mov (.tmp 11))⟩,
      ⟨some 134, none, .prim (.bin false .gtr (.tmp 132) (.tmp 133))⟩])
    (.cond (.tmp 134)
    (.exit 4)
    .skip))
    (.seq (.draw [⟨⟨some 135, none, .prim (.mov (.tmp 0))⟩, [], false, 0, 0⟩,
      ⟨⟨some 136, none, .prim (.mov (.tmp 10))⟩, [], false, 0, 0⟩,
      ⟨⟨some 137, none, .prim (.mov (.tmp 0))⟩, [], false, 0, 1⟩,
      ⟨⟨some 138, none, .prim (.mov (.tmp 11))⟩, [], false, 0, 1⟩,
      ⟨⟨some 139, none, .prim (.mov (.tmp 0))⟩, [], false, 0, 0⟩,
      ⟨⟨some 140, none, .prim (.mov (.tmp 11))⟩, [], false, 0, 0⟩,
      ⟨⟨some 141, none, .prim (.iadrs 1 (.tmp 139) (.tmp 140))⟩, [4, 5], false, 0, 0⟩,
      ⟨⟨some 142, none, .prim (.load 1 false (.tmp 141))⟩, [4, 5, 6], false, 0, 0⟩,
      ⟨⟨some 143, none, .prim (.mov (.tmp 0))⟩, [], false, 0, 0⟩,
      ⟨⟨some 144, none, .prim (.mov (.tmp 10))⟩, [], false, 0, 0⟩,
      ⟨⟨some 145, none, .prim (.iadrs 1 (.tmp 143) (.tmp 144))⟩, [8, 9], false, 0, 0⟩,
      ⟨⟨some 146, none, .prim (.load 1 false (.tmp 145))⟩, [8, 9, 10], false, 0, 0⟩,
      ⟨⟨some 147, none, .prim (.iadrs 1 (.tmp 135) (.tmp 136))⟩, [0, 1, 4, 5, 6, 7, 8, 9, 10, 11], false, 0, 0⟩,
      ⟨⟨none, none, .prim (.store 1 (.tmp 147) (.tmp 142))⟩, [0, 1, 4, 5, 6, 7, 8, 9, 10, 11, 12], true, 0, 0⟩,
      ⟨⟨some 148, none, .prim (.iadrs 1 (.tmp 137) (.tmp 138))⟩, [0, 1, 2, 3, 4, 5, 6, 7, 8, 9, 10, 11, 12, 13], false, 1, 1⟩,
      ⟨⟨none, none, .prim (.store 1 (.tmp 148) (.tmp 146))⟩, [0, 1, 2, 3, 4, 5, 6, 7, 8, 9, 10, 11, 12, 13, 14], true, 0, 0⟩])
    (.seq (.ops [⟨some 149, none, .prim (.mov (.tmp 10))⟩,
      ⟨some 150, none, .prim (.bin false .add (.tmp 149) (.const (Go.Value.int Go.IntKind.i64 1)))⟩,
      ⟨some 10, none, .prim (.mov (.tmp 150))⟩])
    (.ops [⟨some 151, none, .prim (.mov (.tmp 11))⟩,
      ⟨some 152, none, .prim (.bin false .sub (.tmp 151) (.const (Go.Value.int Go.IntKind.i64 1)))⟩,
      ⟨some 11, none, .prim (.mov (.tmp 152))⟩])))))))))
    (.seq (.draw [⟨⟨some 153, none, .prim (.mov (.tmp 0))⟩, [], false, 0, 0⟩,
      ⟨⟨some 154, none, .prim (.mov (.tmp 11))⟩, [], false, 0, 0⟩,
      ⟨⟨some 155, none, .prim (.mov (.tmp 0))⟩, [], false, 0, 1⟩,
      ⟨⟨some 156, none, .prim (.mov (.tmp 1))⟩, [], false, 0, 1⟩,
      ⟨⟨some 157, none, .prim (.mov (.tmp 0))⟩, [], false, 0, 0⟩,
      ⟨⟨some 158, none, .prim (.mov (.tmp 1))⟩, [], false, 0, 0⟩,
      ⟨⟨some 159, none, .prim (.iadrs 1 (.tmp 157) (.tmp 158))⟩, [4, 5], false, 0, 0⟩,
      ⟨⟨some 160, none, .prim (.load 1 false (.tmp 159))⟩, [4, 5, 6], false, 0, 0⟩,
      ⟨⟨some 161, none, .prim (.mov (.tmp 0))⟩, [], false, 0, 0⟩,
      ⟨⟨some 162, none, .prim (.mov (.tmp 11))⟩, [], false, 0, 0⟩,
      ⟨⟨some 163, none, .prim (.iadrs 1 (.tmp 161) (.tmp 162))⟩, [8, 9], false, 0, 0⟩,
      ⟨⟨some 164, none, .prim (.load 1 false (.tmp 163))⟩, [8, 9, 10], false, 0, 0⟩,
      ⟨⟨some 165, none, .prim (.iadrs 1 (.tmp 153) (.tmp 154))⟩, [0, 1, 4, 5, 6, 7, 8, 9, 10, 11], false, 0, 0⟩,
      ⟨⟨none, none, .prim (.store 1 (.tmp 165) (.tmp 160))⟩, [0, 1, 4, 5, 6, 7, 8, 9, 10, 11, 12], true, 0, 0⟩,
      ⟨⟨some 166, none, .prim (.iadrs 1 (.tmp 155) (.tmp 156))⟩, [0, 1, 2, 3, 4, 5, 6, 7, 8, 9, 10, 11, 12, 13], false, 1, 1⟩,
      ⟨⟨none, none, .prim (.store 1 (.tmp 166) (.tmp 164))⟩, [0, 1, 2, 3, 4, 5, 6, 7, 8, 9, 10, 11, 12, 13, 14], true, 0, 0⟩])
    (.seq (.ops [⟨some 167, none, .prim (.mov (.tmp 11))⟩,
      ⟨some 8, none, .prim (.mov (.tmp 167))⟩,
      ⟨some 9, none, .prim (.mov (.const (Go.Value.bool Bool.false)))⟩])
    .ret))))))))))))
def o168 : List Tmp := []
def r168 : List RV := [.tmp 8, .tmp 9]
theorem t168 : Text Tryz.prog 168 o168 c168 r168 168 := ⟨⟨Tryz.f168, _, by kernel_rfl, by kernel_rfl, rfl, by kernel_rfl, by kernel_rfl, rfl⟩, by kernel_rfl⟩

/-- (*sordine/rex.parser).atom -/
def c169 : ACode :=
  (.seq (.ops [⟨some 4, none, .prim (.allocm [.pl (.int .i64 0), .pl (.int .u64 0), .pl (.int .u64 0), .pl (.int .u64 0), .pl (.int .u64 0), .nils])⟩])
    (.seq (.ops [⟨some 7, none, .prim (.build [.pl (.int .i64 0), .pl (.int .u64 0), .pl (.int .u64 0), .pl (.int .u64 0), .pl (.int .u64 0), .nils] [(0, 1, (.const (Go.Value.int Go.IntKind.i64 1)))])⟩,
      ⟨some 5, none, .prim (.allocm [.pl (.int .i64 0), .pl (.int .u64 0), .pl (.int .u64 0), .pl (.int .u64 0), .pl (.int .u64 0), .nils])⟩,
      ⟨none, none, .prim (.store 6 (.tmp 5) (.tmp 7))⟩])
    (.seq (.seq (.ops [⟨some 8, none, .prim (.mov (.tmp 0))⟩,
      ⟨some 9, none, .call (.func 173) [(.tmp 8)]⟩,
      ⟨some 6, none, .prim (.mov (.tmp 9))⟩])
    (.seq (.ops [⟨some 10, none, .prim (.mov (.tmp 6))⟩])
    (.block 0 (.seq (.ops [⟨some 27, none, .prim (.bin false .eql (.tmp 10) (.const (Go.Value.int Go.IntKind.u8 40)))⟩,
      ⟨some 26, none, .prim (.mov (.tmp 27))⟩])
    (.cond (.tmp 26)
    (.seq (.ops [⟨some 28, none, .prim (.mov (.tmp 0))⟩,
      ⟨some 29, none, .prim (.mov (.tmp 0))⟩,
      ⟨some 30, none, .prim (.nilc (.tmp 29))⟩,
      ⟨some 31, none, .prim (.fadr 2 (.tmp 30))⟩,
      ⟨some 32, none, .prim (.load 1 false (.tmp 31))⟩,
      ⟨some 33, none, .prim (.mov (.tmp 32))⟩,
      ⟨some 34, (some (33, false)), .prim (.mov (.tmp 1))⟩,
      ⟨some 35, (some (33, false)), .prim (.bin false .eql (.tmp 34) (.const (Go.Value.int Go.IntKind.i64 8)))⟩,
      ⟨some 36, none, .prim (.pick (.tmp 33) (.const (Go.Value.bool Bool.true)) (.tmp 35))⟩,
      ⟨some 37, none, .prim (.nilc (.tmp 28))⟩,
      ⟨some 38, none, .prim (.fadr 2 (.tmp 37))⟩,
      ⟨none, none, .prim (.store 1 (.tmp 38) (.tmp 36))⟩])
    (.seq (.seq (.ops [⟨some 39, none, .prim (.mov (.tmp 0))⟩,
      ⟨some 40, none, .prim (.nilc (.tmp 39))⟩,
      ⟨some 41, none, .prim (.fadr 2 (.tmp 40))⟩,
      ⟨some 42, none, .prim (.load 1 false (.tmp 41))⟩,
      ⟨some 43, none, .prim (.un .not (.tmp 42))⟩])
    (.cond (.tmp 43)
    (.ops [⟨some 44, none, .prim (.mov (.tmp 0))⟩,
      ⟨some 45, none, .prim (.mov (.tmp 1))⟩,
      ⟨some 46, none, .prim (.bin false .add (.tmp 45) (.const (Go.Value.int Go.IntKind.i64 1)))⟩,
      ⟨some 47, none, .call (.func 140) [(.tmp 44), (.tmp 46)]⟩,
      ⟨none, none, .prim (.store 6 (.tmp 5) (.tmp 47))⟩])
    .skip))
    (.ops [⟨some 48, none, .prim (.mov (.tmp 0))⟩,
      ⟨some 49, none, .prim (.mov (.tmp 0))⟩,
      ⟨some 50, none, .call (.func 155) [(.tmp 49), (.const (Go.Value.int Go.IntKind.u8 41))]⟩,
      ⟨some 51, none, .prim (.un .not (.tmp 50))⟩,
      ⟨some 52, none, .prim (.mov (.tmp 51))⟩,
      ⟨some 53, (some (52, false)), .prim (.mov (.tmp 0))⟩,
      ⟨some 54, (some (52, false)), .prim (.nilc (.tmp 53))⟩,
      ⟨some 55, (some (52, false)), .prim (.fadr 2 (.tmp 54))⟩,
      ⟨some 56, (some (52, false)), .prim (.load 1 false (.tmp 55))⟩,
      ⟨some 57, none, .prim (.pick (.tmp 52) (.const (Go.Value.bool Bool.true)) (.tmp 56))⟩,
      ⟨some 58, none, .prim (.nilc (.tmp 48))⟩,
      ⟨some 59, none, .prim (.fadr 2 (.tmp 58))⟩,
      ⟨none, none, .prim (.store 1 (.tmp 59) (.tmp 57))⟩])))
    (.seq (.ops [⟨some 61, none, .prim (.bin false .eql (.tmp 10) (.const (Go.Value.int Go.IntKind.u8 91)))⟩,
      ⟨some 60, none, .prim (.mov (.tmp 61))⟩])
    (.cond (.tmp 60)
    (.ops [⟨some 62, none, .prim (.mov (.tmp 0))⟩,
      ⟨some 63, none, .call (.func 174) [(.tmp 62)]⟩,
      ⟨some 64, none, .prim (.fadr 1 (.tmp 5))⟩,
      ⟨none, none, .prim (.store 4 (.tmp 64) (.tmp 63))⟩])
    (.seq (.ops [⟨some 66, none, .prim (.bin false .eql (.tmp 10) (.const (Go.Value.int Go.IntKind.u8 46)))⟩,
      ⟨some 65, none, .prim (.mov (.tmp 66))⟩])
    (.cond (.tmp 65)
    (.ops [⟨some 67, none, .prim (.fadr 1 (.tmp 5))⟩,
      ⟨some 68, none, .prim (.load 4 true (.tmp 67))⟩,
      ⟨some 69, none, .call (.func 175) [(.tmp 68)]⟩,
      ⟨some 70, none, .prim (.fadr 1 (.tmp 5))⟩,
      ⟨none, none, .prim (.store 4 (.tmp 70) (.tmp 69))⟩])
    (.seq (.ops [⟨some 72, none, .prim (.bin false .eql (.tmp 10) (.const (Go.Value.int Go.IntKind.u8 92)))⟩,
      ⟨some 71, none, .prim (.mov (.tmp 72))⟩])
    (.cond (.tmp 71)
    (.ops [⟨some 73, none, .prim (.fadr 1 (.tmp 5))⟩,
      ⟨some 74, none, .prim (.mov (.tmp 0))⟩,
      ⟨some 75, none, .call (.func 177) [(.tmp 74)]⟩,
      ⟨some 76, none, .call (.func 176) [(.tmp 73), (.tmp 75)]⟩])
    (.seq (.ops [⟨some 11, none, .prim (.mov (.tmp 0))⟩,
      ⟨some 12, none, .prim (.mov (.tmp 0))⟩,
      ⟨some 13, none, .prim (.nilc (.tmp 12))⟩,
      ⟨some 14, none, .prim (.fadr 2 (.tmp 13))⟩,
      ⟨some 15, none, .prim (.load 1 false (.tmp 14))⟩,
      ⟨some 16, none, .prim (.mov (.tmp 15))⟩,
      ⟨some 17, (some (16, false)), .prim (.mov (.tmp 6))⟩,
      ⟨some 18, (some (16, false)), .call (.func 178) [(.const (Go.Value.string (ByteArray.mk #[42, 43, 63, 93]))), (.tmp 17)]⟩,
      ⟨some 19, (some (16, false)), .prim (.bin false .geq (.tmp 18) (.const (Go.Value.int Go.IntKind.i64 0)))⟩,
      ⟨some 20, none, .prim (.pick (.tmp 16) (.const (Go.Value.bool Bool.true)) (.tmp 19))⟩,
      ⟨some 21, none, .prim (.nilc (.tmp 11))⟩,
      ⟨some 22, none, .prim (.fadr 2 (.tmp 21))⟩,
      ⟨none, none, .prim (.store 1 (.tmp 22) (.tmp 20))⟩])
    (.ops [⟨some 23, none, .prim (.fadr 1 (.tmp 5))⟩,
      ⟨some 24, none, .prim (.mov (.tmp 6))⟩,
      ⟨some 25, none, .call (.func 176) [(.tmp 23), (.tmp 24)]⟩])))))))))))))
    (.seq (.ops [⟨some 77, none, .prim (.load 6 true (.tmp 5))⟩,
      ⟨none, none, .prim (.store 6 (.tmp 4) (.tmp 77))⟩])
    .ret))))
def o169 : List Tmp := [4, 5]
def r169 : List RV := [.cell 4 6 true]
theorem t169 : Text Tryz.prog 169 o169 c169 r169 78 := ⟨⟨Tryz.f169, _, by kernel_rfl, by kernel_rfl, rfl, by kernel_rfl, by kernel_rfl, rfl⟩, by kernel_rfl⟩

/-- slices.siftDownOrdered[int] -/
def c170 : ACode :=
  (.seq (.ops [⟨some 10, none, .prim (.mov (.tmp 1))⟩,
      ⟨some 8, none, .prim (.mov (.tmp 10))⟩])
    (.block 0 (.loop [1, 4, 5, 6, 7, 9, 10, 11, 12, 13, 14, 15, 16, 17, 18, 19, 20, 21, 22, 23, 24, 25, 26, 27, 28, 29, 30, 31, 32, 33, 34, 35, 36, 37, 38, 39, 40, 41, 42, 43, 44, 45, 46, 47, 48, 49, 50, 51, 52, 53, 54, 55, 56, 57, 58, 59, 60, 61, 62, 63, 64, 65, 66, 67, 68, 69, 70, 71, 72, 73, 74, 75] (.block 1 (.seq (.ops [⟨some 11, none, .prim (.mov (.tmp 8))⟩,
      ⟨some 12, none, .prim (.bin false .mul (.const (Go.Value.int Go.IntKind.i64 2)) (.tmp 11))⟩,
      ⟨some 13, none, .prim (.bin false .add (.tmp 12) (.const (Go.Value.int Go.IntKind.i64 1)))⟩,
      ⟨some 9, none, .prim (.mov (.tmp 13))⟩])
    (.seq (.seq (.ops [⟨some 14, none, .prim (.mov (.tmp 9))⟩,
      ⟨some 15, none, .prim (.mov (.tmp 2))⟩,
      ⟨some 16, none, .prim (.bin false .geq (.tmp 14) (.tmp 15))⟩])
    (.cond (.tmp 16)
    (.exit 0)
    .skip))
    (.seq (.seq (.draw [⟨⟨some 17, none, .prim (.mov (.tmp 9))⟩, [], false, 0, 0⟩,
      ⟨⟨some 18, none, .prim (.bin false .add (.tmp 17) (.const (Go.Value.int Go.IntKind.i64 1)))⟩, [0], false, 0, 0⟩,
      ⟨⟨some 19, none, .prim (.mov (.tmp 2))⟩, [], false, 0, 0⟩,
      ⟨⟨some 20, none, .prim (.bin false .lss (.tmp 18) (.tmp 19))⟩, [0, 1, 2], false, 0, 0⟩,
      ⟨⟨some 21, none, .prim (.mov (.tmp 20))⟩, [0, 1, 2, 3], false, 0, 0⟩,
      ⟨⟨some 22, (some (21, true)), .prim (.mov (.tmp 0))⟩, [0, 1, 2, 3, 4], false, 0, 0⟩,
      ⟨⟨some 23, (some (21, true)), .prim (.mov (.tmp 3))⟩, [0, 1, 2, 3, 4], false, 0, 0⟩,
      ⟨⟨some 24, (some (21, true)), .prim (.mov (.tmp 9))⟩, [0, 1, 2, 3, 4], false, 0, 0⟩,
      ⟨⟨some 25, (some (21, true)), .prim (.bin false .add (.tmp 23) (.tmp 24))⟩, [0, 1, 2, 3, 4, 6, 7], false, 0, 0⟩,
      ⟨⟨some 26, (some (21, true)), .prim (.iadrs 1 (.tmp 22) (.tmp 25))⟩, [0, 1, 2, 3, 4, 5, 6, 7, 8], false, 0, 0⟩,
      ⟨⟨some 27, (some (21, true)), .prim (.load 1 false (.tmp 26))⟩, [0, 1, 2, 3, 4, 5, 6, 7, 8, 9], false, 0, 0⟩,
      ⟨⟨some 28, (some (21, true)), .prim (.mov (.tmp 0))⟩, [0, 1, 2, 3, 4], false, 0, 0⟩,
      ⟨⟨some 29, (some (21, true)), .prim (.mov (.tmp 3))⟩, [0, 1, 2, 3, 4], false, 0, 0⟩,
      ⟨⟨some 30, (some (21, true)), .prim (.mov (.tmp 9))⟩, [0, 1, 2, 3, 4], false, 0, 0⟩,
      ⟨⟨some 31, (some (21, true)), .prim (.bin false .add (.tmp 29) (.tmp 30))⟩, [0, 1, 2, 3, 4, 12, 13], false, 0, 0⟩,
      ⟨⟨some 32, (some (21, true)), .prim (.bin false .add (.tmp 31) (.const (Go.Value.int Go.IntKind.i64 1)))⟩, [0, 1, 2, 3, 4, 12, 13, 14], false, 0, 0⟩,
      ⟨⟨some 33, (some (21, true)), .prim (.iadrs 1 (.tmp 28) (.tmp 32))⟩, [0, 1, 2, 3, 4, 11, 12, 13, 14, 15], false, 0, 0⟩,
      ⟨⟨some 34, (some (21, true)), .prim (.load 1 false (.tmp 33))⟩, [0, 1, 2, 3, 4, 11, 12, 13, 14, 15, 16], false, 0, 0⟩,
      ⟨⟨some 35, (some (21, true)), .call (.func 102) [(.tmp 27), (.tmp 34)]⟩, [0, 1, 2, 3, 4, 5, 6, 7, 8, 9, 10, 11, 12, 13, 14, 15, 16, 17], true, 0, 0⟩,
      ⟨⟨some 36, none, .prim (.pick (.tmp 21) (.tmp 35) (.const (Go.Value.bool Bool.false)))⟩, [0, 1, 2, 3, 4, 5, 6, 7, 8, 9, 10, 11, 12, 13, 14, 15, 16, 17, 18], false, 1, 1⟩])
    (.cond (.tmp 36)
    (.ops [⟨some 37, none, .prim (.mov (.tmp 9))⟩,
      ⟨some 38, none, .prim (.bin false .add (.tmp 37) (.const (Go.Value.int Go.IntKind.i64 1)))⟩,
      ⟨some 9, none, .prim (.mov (.tmp 38))⟩])
    .skip))
    (.seq (.seq (.draw [⟨⟨some 39, none, .prim (.mov (.tmp 0))⟩, [], false, 0, 0⟩,
      ⟨⟨some 40, none, .prim (.mov (.tmp 3))⟩, [], false, 0, 0⟩,
      ⟨⟨some 41, none, .prim (.mov (.tmp 8))⟩, [], false, 0, 0⟩,
      ⟨⟨some 42, none, .prim (.bin false .add (.tmp 40) (.tmp 41))⟩, [1, 2], false, 0, 0⟩,
      ⟨⟨some 43, none, .prim (.iadrs 1 (.tmp 39) (.tmp 42))⟩, [0, 1, 2, 3], false, 0, 0⟩,
      ⟨⟨some 44, none, .prim (.load 1 false (.tmp 43))⟩, [0, 1, 2, 3, 4], false, 0, 0⟩,
      ⟨⟨some 45, none, .prim (.mov (.tmp 0))⟩, [], false, 0, 0⟩,
      ⟨⟨some 46, none, .prim (.mov (.tmp 3))⟩, [], false, 0, 0⟩,
      ⟨⟨some 47, none, .prim (.mov (.tmp 9))⟩, [], false, 0, 0⟩,
      ⟨⟨some 48, none, .prim (.bin false .add (.tmp 46) (.tmp 47))⟩, [7, 8], false, 0, 0⟩,
      ⟨⟨some 49, none, .prim (.iadrs 1 (.tmp 45) (.tmp 48))⟩, [6, 7, 8, 9], false, 0, 0⟩,
      ⟨⟨some 50, none, .prim (.load 1 false (.tmp 49))⟩, [6, 7, 8, 9, 10], false, 0, 0⟩,
      ⟨⟨some 51, none, .call (.func 102) [(.tmp 44), (.tmp 50)]⟩, [0, 1, 2, 3, 4, 5, 6, 7, 8, 9, 10, 11], true, 0, 0⟩,
      ⟨⟨some 52, none, .prim (.un .not (.tmp 51))⟩, [0, 1, 2, 3, 4, 5, 6, 7, 8, 9, 10, 11, 12], false, 1, 1⟩])
    (.cond (.tmp 52)
    .ret
    .skip))
    (.seq (.draw [⟨⟨some 53, none, .prim (.mov (.tmp 0))⟩, [], false, 0, 0⟩,
      ⟨⟨some 54, none, .prim (.mov (.tmp 3))⟩, [], false, 0, 0⟩,
      ⟨⟨some 55, none, .prim (.mov (.tmp 8))⟩, [], false, 0, 0⟩,
      ⟨⟨some 56, none, .prim (.bin false .add (.tmp 54) (.tmp 55))⟩, [1, 2], false, 0, 0⟩,
      ⟨⟨some 57, none, .prim (.mov (.tmp 0))⟩, [], false, 0, 1⟩,
      ⟨⟨some 58, none, .prim (.mov (.tmp 3))⟩, [], false, 0, 1⟩,
      ⟨⟨some 59, none, .prim (.mov (.tmp 9))⟩, [], false, 0, 1⟩,
      ⟨⟨some 60, none, .prim (.bin false .add (.tmp 58) (.tmp 59))⟩, [5, 6], false, 0, 1⟩,
      ⟨⟨some 61, none, .prim (.mov (.tmp 0))⟩, [], false, 0, 0⟩,
      ⟨⟨some 62, none, .prim (.mov (.tmp 3))⟩, [], false, 0, 0⟩,
      ⟨⟨some 63, none, .prim (.mov (.tmp 9))⟩, [], false, 0, 0⟩,
      ⟨⟨some 64, none, .prim (.bin false .add (.tmp 62) (.tmp 63))⟩, [9, 10], false, 0, 0⟩,
      ⟨⟨some 65, none, .prim (.iadrs 1 (.tmp 61) (.tmp 64))⟩, [8, 9, 10, 11], false, 0, 0⟩,
      ⟨⟨some 66, none, .prim (.load 1 false (.tmp 65))⟩, [8, 9, 10, 11, 12], false, 0, 0⟩,
      ⟨⟨some 67, none, .prim (.mov (.tmp 0))⟩, [], false, 0, 0⟩,
      ⟨⟨some 68, none, .prim (.mov (.tmp 3))⟩, [], false, 0, 0⟩,
      ⟨⟨some 69, none, .prim (.mov (.tmp 8))⟩, [], false, 0, 0⟩,
      ⟨⟨some 70, none, .prim (.bin false .add (.tmp 68) (.tmp 69))⟩, [15, 16], false, 0, 0⟩,
      ⟨⟨some 71, none, .prim (.iadrs 1 (.tmp 67) (.tmp 70))⟩, [14, 15, 16, 17], false, 0, 0⟩,
      ⟨⟨some 72, none, .prim (.load 1 false (.tmp 71))⟩, [14, 15, 16, 17, 18], false, 0, 0⟩,
      ⟨⟨some 73, none, .prim (.iadrs 1 (.tmp 53) (.tmp 56))⟩, [0, 1, 2, 3, 8, 9, 10, 11, 12, 13, 14, 15, 16, 17, 18, 19], false, 0, 0⟩,
      ⟨⟨none, none, .prim (.store 1 (.tmp 73) (.tmp 66))⟩, [0, 1, 2, 3, 8, 9, 10, 11, 12, 13, 14, 15, 16, 17, 18, 19, 20], true, 0, 0⟩,
      ⟨⟨some 74, none, .prim (.iadrs 1 (.tmp 57) (.tmp 60))⟩, [0, 1, 2, 3, 4, 5, 6, 7, 8, 9, 10, 11, 12, 13, 14, 15, 16, 17, 18, 19, 20, 21], false, 1, 1⟩,
      ⟨⟨none, none, .prim (.store 1 (.tmp 74) (.tmp 72))⟩, [0, 1, 2, 3, 4, 5, 6, 7, 8, 9, 10, 11, 12, 13, 14, 15, 16, 17, 18, 19, 20, 21, 22], true, 0, 0⟩])
    (.ops [⟨some 75, none, .prim (.mov (.tmp 9))⟩,
      ⟨some 8, none, .prim (.mov (.tmp 75))⟩]))))))))))
def o170 : List Tmp := []
def r170 : List RV := []
theorem t170 : Text Tryz.prog 170 o170 c170 r170 76 := ⟨⟨Tryz.f170, _, by kernel_rfl, by kernel_rfl, rfl, by kernel_rfl, by kernel_rfl, rfl⟩, by kernel_rfl⟩

/-- slices.medianAdjacentOrdered[int] -/
def c171 : ACode :=
  (.seq (.ops [⟨some 6, none, .prim (.mov (.const (Go.Value.int Go.IntKind.i64 0)))⟩])
    (.seq (.ops [⟨some 7, none, .prim (.mov (.tmp 0))⟩,
      ⟨some 8, none, .prim (.mov (.tmp 1))⟩,
      ⟨some 9, none, .prim (.bin false .sub (.tmp 8) (.const (Go.Value.int Go.IntKind.i64 1)))⟩,
      ⟨some 10, none, .prim (.mov (.tmp 1))⟩,
      ⟨some 11, none, .prim (.mov (.tmp 1))⟩,
      ⟨some 12, none, .prim (.bin false .add (.tmp 11) (.const (Go.Value.int Go.IntKind.i64 1)))⟩,
      ⟨some 13, none, .prim (.mov (.tmp 2))⟩,
      ⟨some 14, none, .call (.func 172) [(.tmp 7), (.tmp 9), (.tmp 10), (.tmp 12), (.tmp 13)]⟩,
      ⟨some 6, none, .prim (.mov (.tmp 14))⟩])
    .ret))
def o171 : List Tmp := []
def r171 : List RV := [.tmp 6]
theorem t171 : Text Tryz.prog 171 o171 c171 r171 15 := ⟨⟨Tryz.f171, _, by kernel_rfl, by kernel_rfl, rfl, by kernel_rfl, by kernel_rfl, rfl⟩, by kernel_rfl⟩

end Go.Proofs.YtgnoebkcephdmabGreatDoor
