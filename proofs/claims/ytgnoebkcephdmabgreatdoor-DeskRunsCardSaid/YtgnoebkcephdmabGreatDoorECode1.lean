/- What the functions do, over abstract values: printed by a program, checked by the kernel. No condition. -/
import Derived.Test.YtgnoebkcephdmabGreatDoorProg
import Derived.Test.YtgnoebkcephdmabGreatDoorAbSpec
namespace Go.Proofs.YtgnoebkcephdmabGreatDoor
open Go Go.Ab
set_option maxRecDepth 100000

/-- gosem.cut.init -/
def c2 : ACode :=
  (.ops [⟨some 0, none, .call (.func 1) []⟩])
def o2 : List Tmp := []
def r2 : List RV := []
theorem t2 : Text Tryz.prog 2 o2 c2 r2 1 := ⟨⟨Tryz.f2, _, by kernel_rfl, by kernel_rfl, rfl, by kernel_rfl, by kernel_rfl, rfl⟩, by kernel_rfl⟩

/-- sordine/sordinelaw26.DeskRuns -/
def c3 : ACode :=
  (.seq (.ops [⟨some 0, none, .prim (.mov (.const (Go.Value.bool Bool.false)))⟩])
    (.seq (.ops [⟨some 9, none, .call (.func 5) [(.const (Go.Value.int Go.IntKind.i64 2))]⟩,
      ⟨some 10, none, .call (.func 4) [(.tmp 9), (.const (Go.Value.int Go.IntKind.u64 0))]⟩,
      ⟨some 1, none, .prim (.mov (.tmp 10))⟩])
    (.seq (.seq (.ops [⟨some 11, none, .prim (.mov (.tmp 1))⟩,
      ⟨some 12, none, .prim (.isnil false true (.tmp 11))⟩])
    (.cond (.tmp 12)
    (.seq (.ops [⟨some 0, none, .prim (.mov (.const (Go.Value.bool Bool.false)))⟩])
    .ret)
    .skip))
    (.seq (.ops [⟨some 13, none, .prim (.mov (.tmp 1))⟩,
      ⟨some 14, none, .prim (.build [.pl (.string .empty), .pl (.int .i64 0), .pl (.int .i64 0), .pl (.string .empty), .pl (.int .u64 0), .pl (.int .u64 0), .pl (.int .i64 0), .nils, .pl (.bool false), .pl (.float .f64 0), .pl (.float .f64 0), .nils, .nils, .pl (.bool false), .pl (.float .f64 0), .pl (.float .f64 0), .nils, .nils, .pl (.float .f64 0)] [(1, 1, (.const (Go.Value.int Go.IntKind.i64 1)))])⟩,
      ⟨some 15, none, .call (.func 6) [(.tmp 13), (.tmp 14)]⟩,
      ⟨some 2, none, .fresh 40 2 (.tmp 15)⟩])
    (.seq (.ops [⟨some 16, none, .prim (.mov (.tmp 1))⟩,
      ⟨some 17, none, .prim (.build [.pl (.string .empty), .pl (.int .i64 0), .pl (.int .i64 0), .pl (.string .empty), .pl (.int .u64 0), .pl (.int .u64 0), .pl (.int .i64 0), .nils, .pl (.bool false), .pl (.float .f64 0), .pl (.float .f64 0), .nils, .nils, .pl (.bool false), .pl (.float .f64 0), .pl (.float .f64 0), .nils, .nils, .pl (.float .f64 0)] [(1, 1, (.const (Go.Value.int Go.IntKind.i64 3))), (2, 1, (.const (Go.Value.int Go.IntKind.i64 1))), (3, 1, (.const (Go.Value.string (ByteArray.mk #[97, 97, 97, 97]))))])⟩,
      ⟨some 18, none, .call (.func 6) [(.tmp 16), (.tmp 17)]⟩,
      ⟨some 3, none, .fresh 40 3 (.tmp 18)⟩])
    (.seq (.ops [⟨some 20, none, .prim (.mov (.tmp 1))⟩,
      ⟨some 21, none, .call (.func 7) [(.tmp 20), (.const (Go.Value.string (ByteArray.mk #[97, 97, 97, 97])))]⟩,
      ⟨some 19, none, .prim (.mov (.tmp 21))⟩,
      ⟨some 22, none, .prim (.extr 0 (.tmp 19))⟩,
      ⟨some 23, none, .prim (.extr 1 (.tmp 19))⟩,
      ⟨some 4, none, .prim (.mov (.tmp 22))⟩,
      ⟨some 5, none, .prim (.mov (.tmp 23))⟩])
    (.seq (.ops [⟨some 24, none, .prim (.mov (.tmp 1))⟩,
      ⟨some 25, none, .prim (.build [.pl (.string .empty), .pl (.int .i64 0), .pl (.int .i64 0), .pl (.string .empty), .pl (.int .u64 0), .pl (.int .u64 0), .pl (.int .i64 0), .nils, .pl (.bool false), .pl (.float .f64 0), .pl (.float .f64 0), .nils, .nils, .pl (.bool false), .pl (.float .f64 0), .pl (.float .f64 0), .nils, .nils, .pl (.float .f64 0)] [(1, 1, (.const (Go.Value.int Go.IntKind.i64 2))), (2, 1, (.const (Go.Value.int Go.IntKind.i64 1)))])⟩,
      ⟨some 26, none, .call (.func 6) [(.tmp 24), (.tmp 25)]⟩,
      ⟨some 6, none, .fresh 40 6 (.tmp 26)⟩])
    (.seq (.ops [⟨some 28, none, .prim (.mov (.tmp 1))⟩,
      ⟨some 29, none, .call (.func 7) [(.tmp 28), (.const (Go.Value.string (ByteArray.mk #[97, 97, 97, 97])))]⟩,
      ⟨some 27, none, .prim (.mov (.tmp 29))⟩,
      ⟨some 30, none, .prim (.extr 0 (.tmp 27))⟩,
      ⟨some 31, none, .prim (.extr 1 (.tmp 27))⟩,
      ⟨some 7, none, .prim (.mov (.tmp 30))⟩,
      ⟨some 8, none, .prim (.mov (.tmp 31))⟩])
    (.seq (.ops [⟨some 32, none, .prim (.fadr 0 (.tmp 2))⟩,
      ⟨some 33, none, .prim (.load 1 false (.tmp 32))⟩,
      ⟨some 34, none, .prim (.bin false .eql (.tmp 33) (.const (Go.Value.int Go.IntKind.i64 0)))⟩,
      ⟨some 35, none, .prim (.mov (.tmp 34))⟩,
      ⟨some 36, (some (35, true)), .prim (.fadr 2 (.tmp 2))⟩,
      ⟨some 37, (some (35, true)), .prim (.load 1 false (.tmp 36))⟩,
      ⟨some 38, (some (35, true)), .prim (.bin false .eql (.tmp 37) (.const (Go.Value.int Go.IntKind.i64 1)))⟩,
      ⟨some 39, none, .prim (.pick (.tmp 35) (.tmp 38) (.const (Go.Value.bool Bool.false)))⟩,
      ⟨some 40, none, .prim (.mov (.tmp 39))⟩,
      ⟨some 41, (some (40, true)), .prim (.fadr 0 (.tmp 3))⟩,
      ⟨some 42, (some (40, true)), .prim (.load 1 false (.tmp 41))⟩,
      ⟨some 43, (some (40, true)), .prim (.bin false .eql (.tmp 42) (.const (Go.Value.int Go.IntKind.i64 0)))⟩,
      ⟨some 44, none, .prim (.pick (.tmp 40) (.tmp 43) (.const (Go.Value.bool Bool.false)))⟩,
      ⟨some 45, none, .prim (.mov (.tmp 44))⟩,
      ⟨some 46, (some (45, true)), .prim (.mov (.tmp 4))⟩,
      ⟨some 47, (some (45, true)), .prim (.bin false .eql (.tmp 46) (.const (Go.Value.int Go.IntKind.i64 1)))⟩,
      ⟨some 48, none, .prim (.pick (.tmp 45) (.tmp 47) (.const (Go.Value.bool Bool.false)))⟩,
      ⟨some 49, none, .prim (.mov (.tmp 48))⟩,
      ⟨some 50, (some (49, true)), .prim (.mov (.tmp 5))⟩,
      ⟨some 51, none, .prim (.pick (.tmp 49) (.tmp 50) (.const (Go.Value.bool Bool.false)))⟩,
      ⟨some 52, none, .prim (.mov (.tmp 51))⟩,
      ⟨some 53, (some (52, true)), .prim (.fadr 0 (.tmp 6))⟩,
      ⟨some 54, (some (52, true)), .prim (.load 1 false (.tmp 53))⟩,
      ⟨some 55, (some (52, true)), .prim (.bin false .eql (.tmp 54) (.const (Go.Value.int Go.IntKind.i64 0)))⟩,
      ⟨some 56, none, .prim (.pick (.tmp 52) (.tmp 55) (.const (Go.Value.bool Bool.false)))⟩,
      ⟨some 57, none, .prim (.mov (.tmp 56))⟩,
      ⟨some 58, (some (57, true)), .prim (.mov (.tmp 8))⟩,
      ⟨some 59, (some (57, true)), .prim (.un .not (.tmp 58))⟩,
      ⟨some 60, none, .prim (.pick (.tmp 57) (.tmp 59) (.const (Go.Value.bool Bool.false)))⟩,
      ⟨some 61, none, .prim (.mov (.tmp 60))⟩,
      ⟨some 62, (some (61, true)), .prim (.mov (.tmp 1))⟩,
      ⟨some 63, (some (61, true)), .call (.func 8) [(.tmp 62)]⟩,
      ⟨some 64, (some (61, true)), .prim (.bin false .eql (.tmp 63) (.const (Go.Value.int Go.IntKind.i64 3)))⟩,
      ⟨some 65, none, .prim (.pick (.tmp 61) (.tmp 64) (.const (Go.Value.bool Bool.false)))⟩,
      ⟨some 0, none, .prim (.mov (.tmp 65))⟩])
    .ret)))))))))
def o3 : List Tmp := []
def r3 : List RV := [.tmp 0]
theorem t3 : Text Tryz.prog 3 o3 c3 r3 66 := ⟨⟨Tryz.f3, _, by kernel_rfl, by kernel_rfl, rfl, by kernel_rfl, by kernel_rfl, rfl⟩, by kernel_rfl⟩

/-- sordine/desk.New -/
def c4 : ACode :=
  (.seq (.ops [⟨some 2, none, .prim (.boxr (.tmp 0))⟩,
      ⟨some 4, none, .prim (.mov (.const (Go.Value.pointer Option.none)))⟩])
    (.seq (.draw [⟨⟨some 6, none, .prim (.fadr 7 (.tmp 2))⟩, [], false, 0, 0⟩,
      ⟨⟨some 7, none, .prim (.load 1 false (.tmp 6))⟩, [0], false, 0, 0⟩,
      ⟨⟨some 8, none, .prim (.mov (.tmp 1))⟩, [], false, 0, 0⟩,
      ⟨⟨some 9, none, .call (.func 9) [(.const (Go.Value.int Go.IntKind.i64 0)), (.tmp 7), (.tmp 8)]⟩, [0, 1, 2], true, 0, 0⟩,
      ⟨⟨some 10, none, .prim (.fadr 2 (.tmp 2))⟩, [], false, 0, 1⟩,
      ⟨⟨some 11, none, .prim (.load 1 false (.tmp 10))⟩, [4], false, 0, 1⟩,
      ⟨⟨some 12, none, .call (.func 10) [(.tmp 11)]⟩, [0, 1, 2, 3, 4, 5], true, 0, 0⟩,
      ⟨⟨some 13, none, .prim (.fadr 1 (.tmp 2))⟩, [], false, 0, 2⟩,
      ⟨⟨some 14, none, .prim (.load 1 false (.tmp 13))⟩, [7], false, 0, 2⟩,
      ⟨⟨some 15, none, .prim (.mm true (.tmp 14) (.const (Go.Value.int Go.IntKind.i64 1)))⟩, [7, 8], false, 0, 2⟩,
      ⟨⟨some 16, none, .prim (.mm false (.tmp 15) (.const (Go.Value.int Go.IntKind.i64 6)))⟩, [7, 8, 9], false, 0, 2⟩,
      ⟨⟨some 17, none, .call (.func 11) [(.tmp 16)]⟩, [0, 1, 2, 3, 4, 5, 6, 7, 8, 9, 10], true, 0, 0⟩,
      ⟨⟨some 18, none, .prim (.build [.pl (.pointer none), .pl (.pointer none), .pl (.pointer none)] [(0, 1, (.tmp 9)), (1, 1, (.tmp 12)), (2, 1, (.tmp 17))])⟩, [0, 1, 2, 3, 4, 5, 6, 7, 8, 9, 10, 11], false, 3, 3⟩,
      ⟨⟨some 19, none, .prim (.boxr (.tmp 18))⟩, [0, 1, 2, 3, 4, 5, 6, 7, 8, 9, 10, 11, 12], false, 3, 3⟩,
      ⟨⟨some 5, none, .prim (.mov (.tmp 19))⟩, [0, 1, 2, 3, 4, 5, 6, 7, 8, 9, 10, 11, 12, 13], false, 3, 3⟩])
    (.seq (.draw [⟨⟨some 20, none, .prim (.mov (.tmp 5))⟩, [], false, 0, 0⟩,
      ⟨⟨some 21, none, .prim (.nilc (.tmp 20))⟩, [0], false, 0, 0⟩,
      ⟨⟨some 22, none, .prim (.fadr 1 (.tmp 21))⟩, [0, 1], false, 0, 0⟩,
      ⟨⟨some 23, none, .prim (.load 1 false (.tmp 22))⟩, [0, 1, 2], false, 0, 0⟩,
      ⟨⟨some 24, none, .prim (.fadr 0 (.tmp 2))⟩, [], false, 0, 0⟩,
      ⟨⟨some 25, none, .prim (.load 1 false (.tmp 24))⟩, [4], false, 0, 0⟩,
      ⟨⟨some 26, none, .call (.func 12) [(.tmp 23), (.const (Go.Value.int Go.IntKind.i64 0)), (.tmp 25)]⟩, [0, 1, 2, 3, 4, 5], true, 0, 0⟩])
    (.seq (.ops [⟨some 27, none, .prim (.mov (.tmp 5))⟩,
      ⟨some 4, none, .prim (.mov (.tmp 27))⟩])
    .ret))))
def o4 : List Tmp := []
def r4 : List RV := [.tmp 4]
theorem t4 : Text Tryz.prog 4 o4 c4 r4 28 := ⟨⟨Tryz.f4, _, by kernel_rfl, by kernel_rfl, rfl, by kernel_rfl, by kernel_rfl, rfl⟩, by kernel_rfl⟩

/-- sordine/sordinelaw26.config -/
def c5 : ACode :=
  (.seq (.ops [⟨some 2, none, .prim (.allocm [.pl (.string .empty), .pl (.int .i64 0), .pl (.int .i64 0), .pl (.int .i64 0), .pl (.int .i64 0), .pl (.int .i64 0), .pl (.int .i64 0), .pl (.int .i64 0), .pl (.int .u64 0)])⟩])
    (.seq (.ops [⟨some 3, none, .call (.func 13) [(.const (Go.Value.int Go.IntKind.i64 0))]⟩,
      ⟨some 4, none, .prim (.mov (.tmp 0))⟩,
      ⟨some 5, none, .prim (.mov (.tmp 0))⟩,
      ⟨some 6, none, .prim (.build [.pl (.string .empty), .pl (.int .i64 0), .pl (.int .i64 0), .pl (.int .i64 0), .pl (.int .i64 0), .pl (.int .i64 0), .pl (.int .i64 0), .pl (.int .i64 0), .pl (.int .u64 0)] [(0, 1, (.tmp 3)), (1, 1, (.tmp 4)), (2, 1, (.tmp 5)), (7, 1, (.const (Go.Value.int Go.IntKind.i64 30)))])⟩,
      ⟨none, none, .prim (.store 9 (.tmp 2) (.tmp 6))⟩])
    .ret))
def o5 : List Tmp := [2]
def r5 : List RV := [.cell 2 9 true]
theorem t5 : Text Tryz.prog 5 o5 c5 r5 7 := ⟨⟨Tryz.f5, _, by kernel_rfl, by kernel_rfl, rfl, by kernel_rfl, by kernel_rfl, rfl⟩, by kernel_rfl⟩

/-- (*sordine/desk.Desk).Do -/
def c6 : ACode :=
  (.seq (.ops [⟨some 3, none, .prim (.boxr (.tmp 1))⟩,
      ⟨some 4, none, .prim (.allocm [.pl (.int .i64 0), .pl (.int .i64 0), .pl (.int .i64 0), .nils, .nils, .nils, .nils, .pl (.int .u8 0), .pl (.int .u8 0), .pl (.int .u8 0), .pl (.int .u8 0), .pl (.int .u8 0), .pl (.int .u8 0), .pl (.int .u8 0), .pl (.int .u8 0), .pl (.int .u8 0), .pl (.int .u8 0), .pl (.int .u8 0), .pl (.int .u8 0), .pl (.int .u8 0), .pl (.int .u8 0), .pl (.int .u8 0), .pl (.int .u8 0), .pl (.int .u8 0), .pl (.int .u8 0), .pl (.int .u8 0), .pl (.int .u8 0), .pl (.int .u8 0), .pl (.int .u8 0), .pl (.int .u8 0), .pl (.int .u8 0), .pl (.int .u8 0), .pl (.int .u8 0), .pl (.int .u8 0), .pl (.int .u8 0), .pl (.int .u8 0), .pl (.int .u8 0), .pl (.int .u8 0), .pl (.int .u8 0), .pl (.int .u64 0)])⟩])
    (.seq (.draw [⟨⟨some 5, none, .prim (.mov (.tmp 0))⟩, [], false, 0, 0⟩,
      ⟨⟨some 6, none, .prim (.nilc (.tmp 5))⟩, [0], false, 0, 0⟩,
      ⟨⟨some 7, none, .prim (.fadr 0 (.tmp 6))⟩, [0, 1], false, 0, 0⟩,
      ⟨⟨some 8, none, .prim (.load 1 false (.tmp 7))⟩, [0, 1, 2], false, 0, 0⟩,
      ⟨⟨some 9, none, .prim (.load 19 true (.tmp 3))⟩, [], false, 0, 0⟩,
      ⟨⟨some 10, none, .prim (.mov (.tmp 0))⟩, [], false, 0, 0⟩,
      ⟨⟨some 11, none, .prim (.mkfn 15 [(.tmp 10)] [])⟩, [5], false, 0, 0⟩,
      ⟨⟨some 12, none, .call (.func 14) [(.tmp 8), (.tmp 9), (.const (Go.Value.int Go.IntKind.i64 0)), (.tmp 11)]⟩, [0, 1, 2, 3, 4, 5, 6], true, 0, 0⟩,
      ⟨⟨none, none, .prim (.store 40 (.tmp 4) (.tmp 12))⟩, [0, 1, 2, 3, 4, 5, 6, 7], true, 0, 0⟩])
    .ret))
def o6 : List Tmp := [4]
def r6 : List RV := [.cell 4 40 true]
theorem t6 : Text Tryz.prog 6 o6 c6 r6 13 := ⟨⟨Tryz.f6, _, by kernel_rfl, by kernel_rfl, rfl, by kernel_rfl, by kernel_rfl, rfl⟩, by kernel_rfl⟩

/-- (*sordine/desk.Desk).Owner -/
def c7 : ACode :=
  (.seq (.ops [⟨some 4, none, .prim (.mov (.const (Go.Value.int Go.IntKind.i64 0)))⟩,
      ⟨some 5, none, .prim (.mov (.const (Go.Value.bool Bool.false)))⟩])
    (.seq (.ops [⟨some 6, none, .prim (.mov (.tmp 0))⟩,
      ⟨some 7, none, .prim (.nilc (.tmp 6))⟩,
      ⟨some 8, none, .prim (.fadr 1 (.tmp 7))⟩,
      ⟨some 9, none, .prim (.load 1 false (.tmp 8))⟩,
      ⟨some 10, none, .prim (.mov (.tmp 1))⟩,
      ⟨some 11, none, .call (.func 16) [(.tmp 9), (.tmp 10)]⟩,
      ⟨some 12, none, .prim (.extr 0 (.tmp 11))⟩,
      ⟨some 13, none, .prim (.extr 1 (.tmp 11))⟩,
      ⟨some 4, none, .prim (.mov (.tmp 12))⟩,
      ⟨some 5, none, .prim (.mov (.tmp 13))⟩])
    .ret))
def o7 : List Tmp := []
def r7 : List RV := [.tmp 4, .tmp 5]
theorem t7 : Text Tryz.prog 7 o7 c7 r7 14 := ⟨⟨Tryz.f7, _, by kernel_rfl, by kernel_rfl, rfl, by kernel_rfl, by kernel_rfl, rfl⟩, by kernel_rfl⟩

/-- (*sordine/desk.Desk).Records -/
def c8 : ACode :=
  (.seq (.ops [⟨some 2, none, .prim (.mov (.const (Go.Value.int Go.IntKind.i64 0)))⟩])
    (.seq (.ops [⟨some 3, none, .prim (.mov (.tmp 0))⟩,
      ⟨some 4, none, .prim (.nilc (.tmp 3))⟩,
      ⟨some 5, none, .prim (.fadr 0 (.tmp 4))⟩,
      ⟨some 6, none, .prim (.load 1 false (.tmp 5))⟩,
      ⟨some 7, none, .call (.func 17) [(.tmp 6)]⟩,
      ⟨some 2, none, .prim (.mov (.tmp 7))⟩])
    .ret))
def o8 : List Tmp := []
def r8 : List RV := [.tmp 2]
theorem t8 : Text Tryz.prog 8 o8 c8 r8 8 := ⟨⟨Tryz.f8, _, by kernel_rfl, by kernel_rfl, rfl, by kernel_rfl, by kernel_rfl, rfl⟩, by kernel_rfl⟩

/-- sordine/door.New -/
def c9 : ACode :=
  (.seq (.ops [⟨some 6, none, .prim (.mov (.const (Go.Value.pointer Option.none)))⟩])
    (.seq (.ops [⟨some 7, none, .prim (.mov (.tmp 0))⟩,
      ⟨some 8, none, .prim (.mov (.tmp 2))⟩,
      ⟨some 9, none, .prim (.mm false (.tmp 8) (.const (Go.Value.int Go.IntKind.u64 1099511627776)))⟩,
      ⟨some 10, none, .prim (.mov (.tmp 0))⟩,
      ⟨some 11, none, .prim (.mov (.tmp 1))⟩,
      ⟨some 12, none, .call (.func 18) [(.tmp 10), (.tmp 11)]⟩,
      ⟨some 13, none, .prim (.build [.pl (.int .i64 0), .pl (.int .u64 0), .pl (.pointer none)] [(0, 1, (.tmp 7)), (1, 1, (.tmp 9)), (2, 1, (.tmp 12))])⟩,
      ⟨some 14, none, .prim (.boxr (.tmp 13))⟩,
      ⟨some 6, none, .prim (.mov (.tmp 14))⟩])
    .ret))
def o9 : List Tmp := []
def r9 : List RV := [.tmp 6]
theorem t9 : Text Tryz.prog 9 o9 c9 r9 15 := ⟨⟨Tryz.f9, _, by kernel_rfl, by kernel_rfl, rfl, by kernel_rfl, by kernel_rfl, rfl⟩, by kernel_rfl⟩

/-- sordine/token.New -/
def c10 : ACode :=
  (.seq (.ops [⟨some 2, none, .prim (.mov (.const (Go.Value.pointer Option.none)))⟩])
    (.seq (.ops [⟨some 3, none, .prim (.mov (.tmp 0))⟩,
      ⟨some 4, none, .prim (.mm true (.tmp 3) (.const (Go.Value.int Go.IntKind.i64 1)))⟩,
      ⟨some 5, none, .prim (.mm false (.tmp 4) (.const (Go.Value.int Go.IntKind.i64 4)))⟩,
      ⟨some 6, none, .prim (.build [.pl (.int .i64 0), .nils] [(0, 1, (.tmp 5))])⟩,
      ⟨some 7, none, .prim (.boxm (.tmp 6))⟩,
      ⟨some 2, none, .prim (.mov (.tmp 7))⟩])
    .ret))
def o10 : List Tmp := [7]
def r10 : List RV := [.tmp 2]
theorem t10 : Text Tryz.prog 10 o10 c10 r10 8 := ⟨⟨Tryz.f10, _, by kernel_rfl, by kernel_rfl, rfl, by kernel_rfl, by kernel_rfl, rfl⟩, by kernel_rfl⟩

/-- sordine/pool.New -/
def c11 : ACode :=
  (.seq (.ops [⟨some 2, none, .prim (.mov (.const (Go.Value.pointer Option.none)))⟩])
    (.seq (.ops [⟨some 3, none, .prim (.mov (.tmp 0))⟩,
      ⟨some 4, none, .prim (.mm true (.tmp 3) (.const (Go.Value.int Go.IntKind.i64 0)))⟩,
      ⟨some 5, none, .prim (.build [.pl (.int .i64 0), .pl (.int .i64 0), .nils] [(0, 1, (.tmp 4))])⟩,
      ⟨some 6, none, .prim (.boxm (.tmp 5))⟩,
      ⟨some 2, none, .prim (.mov (.tmp 6))⟩])
    .ret))
def o11 : List Tmp := [6]
def r11 : List RV := [.tmp 2]
theorem t11 : Text Tryz.prog 11 o11 c11 r11 7 := ⟨⟨Tryz.f11, _, by kernel_rfl, by kernel_rfl, rfl, by kernel_rfl, by kernel_rfl, rfl⟩, by kernel_rfl⟩

/-- (*sordine/token.Table).Grant -/
def c12 : ACode :=
  (.seq (.ops [⟨some 6, none, .prim (.mov (.const (Go.Value.int Go.IntKind.i64 0)))⟩])
    (.seq (.block 0 (.seq (.ops [⟨some 8, none, .prim (.mov (.tmp 1))⟩,
      ⟨some 9, none, .prim (.bin false .lss (.tmp 8) (.const (Go.Value.int Go.IntKind.i64 0)))⟩,
      ⟨some 10, none, .prim (.mov (.tmp 9))⟩,
      ⟨some 11, (some (10, false)), .prim (.mov (.tmp 2))⟩,
      ⟨some 12, (some (10, false)), .call (.func 19) [(.tmp 11)]⟩,
      ⟨some 13, (some (10, false)), .prim (.un .not (.tmp 12))⟩,
      ⟨some 14, none, .prim (.pick (.tmp 10) (.const (Go.Value.bool Bool.true)) (.tmp 13))⟩,
      ⟨some 7, none, .prim (.mov (.tmp 14))⟩])
    (.cond (.tmp 7)
    (.seq (.ops [⟨some 6, none, .prim (.mov (.const (Go.Value.int Go.IntKind.i64 1)))⟩])
    .ret)
    (.seq (.ops [⟨some 16, none, .prim (.mov (.tmp 0))⟩,
      ⟨some 17, none, .prim (.mov (.tmp 2))⟩,
      ⟨some 18, none, .call (.func 20) [(.tmp 16), (.tmp 17)]⟩,
      ⟨some 19, none, .prim (.bin false .geq (.tmp 18) (.const (Go.Value.int Go.IntKind.i64 0)))⟩,
      ⟨some 15, none, .prim (.mov (.tmp 19))⟩])
    (.cond (.tmp 15)
    (.seq (.ops [⟨some 6, none, .prim (.mov (.const (Go.Value.int Go.IntKind.i64 9)))⟩])
    .ret)
    (.seq (.draw [⟨⟨some 21, none, .prim (.mov (.tmp 0))⟩, [], false, 0, 0⟩,
      ⟨⟨some 22, none, .prim (.mov (.tmp 1))⟩, [], false, 0, 0⟩,
      ⟨⟨some 23, none, .call (.func 21) [(.tmp 21), (.tmp 22)]⟩, [0, 1], true, 0, 0⟩,
      ⟨⟨some 24, none, .prim (.lenv (.tmp 23))⟩, [0, 1, 2], false, 1, 1⟩,
      ⟨⟨some 25, none, .prim (.mov (.tmp 0))⟩, [], false, 0, 1⟩,
      ⟨⟨some 26, none, .prim (.nilc (.tmp 25))⟩, [4], false, 0, 1⟩,
      ⟨⟨some 27, none, .prim (.fadr 0 (.tmp 26))⟩, [4, 5], false, 0, 1⟩,
      ⟨⟨some 28, none, .prim (.load 1 false (.tmp 27))⟩, [4, 5, 6], false, 0, 1⟩,
      ⟨⟨some 29, none, .prim (.bin false .geq (.tmp 24) (.tmp 28))⟩, [0, 1, 2, 3, 4, 5, 6, 7], false, 1, 1⟩,
      ⟨⟨some 20, none, .prim (.mov (.tmp 29))⟩, [0, 1, 2, 3, 4, 5, 6, 7, 8], false, 1, 1⟩])
    (.cond (.tmp 20)
    (.seq (.ops [⟨some 6, none, .prim (.mov (.const (Go.Value.int Go.IntKind.i64 10)))⟩])
    .ret)
    .skip)))))))
    (.seq (.ops [⟨some 30, none, .prim (.mov (.tmp 0))⟩,
      ⟨some 31, none, .prim (.mov (.tmp 0))⟩,
      ⟨some 32, none, .prim (.nilc (.tmp 31))⟩,
      ⟨some 33, none, .prim (.fadr 1 (.tmp 32))⟩,
      ⟨some 34, none, .prim (.load 1 false (.tmp 33))⟩,
      ⟨some 35, none, .prim (.mov (.tmp 2))⟩,
      ⟨some 36, none, .prim (.mov (.tmp 1))⟩,
      ⟨some 37, none, .prim (.build [.pl (.string .empty), .pl (.int .i64 0)] [(0, 1, (.tmp 35)), (1, 1, (.tmp 36))])⟩,
      ⟨some 38, none, .prim (.bsl false 2 true 1 [.pl (.string .empty), .pl (.int .i64 0)] [(0, 2, (.tmp 37))])⟩,
      ⟨some 39, none, .prim (.app 2 (.tmp 34) (.tmp 38))⟩,
      ⟨some 40, none, .prim (.nilc (.tmp 30))⟩,
      ⟨some 41, none, .prim (.fadr 1 (.tmp 40))⟩,
      ⟨none, none, .prim (.store 1 (.tmp 41) (.tmp 39))⟩])
    (.seq (.ops [⟨some 6, none, .prim (.mov (.const (Go.Value.int Go.IntKind.i64 0)))⟩])
    .ret))))
def o12 : List Tmp := []
def r12 : List RV := [.tmp 6]
theorem t12 : Text Tryz.prog 12 o12 c12 r12 42 := ⟨⟨Tryz.f12, _, by kernel_rfl, by kernel_rfl, rfl, by kernel_rfl, by kernel_rfl, rfl⟩, by kernel_rfl⟩

/-- sordine/sordinekeep.Token -/
def c13 : ACode :=
  (.seq (.ops [⟨some 2, none, .prim (.mov (.const (Go.Value.string (ByteArray.mk #[]))))⟩])
    (.seq (.ops [⟨some 3, none, .prim (.build [.pl (.string .empty), .pl (.string .empty), .pl (.string .empty), .pl (.string .empty), .pl (.string .empty), .pl (.string .empty), .pl (.string .empty), .pl (.string .empty)] [(0, 1, (.const (Go.Value.string (ByteArray.mk #[114, 111, 111, 116, 48])))), (1, 1, (.const (Go.Value.string (ByteArray.mk #[116, 111, 107, 49])))), (2, 1, (.const (Go.Value.string (ByteArray.mk #[116, 111, 107, 50])))), (3, 1, (.const (Go.Value.string (ByteArray.mk #[116, 111, 107, 51])))), (4, 1, (.const (Go.Value.string (ByteArray.mk #[0, 1, 2, 3])))), (5, 1, (.const (Go.Value.string (ByteArray.mk #[48, 49, 50, 51, 52, 53, 54, 55, 56, 57, 97, 98, 99, 100, 101, 102])))), (6, 1, (.const (Go.Value.string (ByteArray.mk #[116, 111, 107, 54])))), (7, 1, (.const (Go.Value.string (ByteArray.mk #[116, 111, 107]))))])⟩,
      ⟨some 4, none, .prim (.mov (.tmp 0))⟩,
      ⟨some 5, none, .call (.func 22) [(.tmp 4), (.const (Go.Value.int Go.IntKind.i64 0)), (.const (Go.Value.int Go.IntKind.i64 7))]⟩,
      ⟨some 6, none, .prim (.idxa 1 8 false (.tmp 3) (.tmp 5))⟩,
      ⟨some 2, none, .prim (.mov (.tmp 6))⟩])
    .ret))
def o13 : List Tmp := []
def r13 : List RV := [.tmp 2]
theorem t13 : Text Tryz.prog 13 o13 c13 r13 7 := ⟨⟨Tryz.f13, _, by kernel_rfl, by kernel_rfl, rfl, by kernel_rfl, by kernel_rfl, rfl⟩, by kernel_rfl⟩

/-- (*sordine/door.Door).Do -/
def c14 : ACode :=
  (.seq (.ops [⟨some 5, none, .prim (.boxr (.tmp 1))⟩,
      ⟨some 8, none, .prim (.allocm [.pl (.int .i64 0), .pl (.int .i64 0), .pl (.int .i64 0), .nils, .nils, .nils, .nils, .pl (.int .u8 0), .pl (.int .u8 0), .pl (.int .u8 0), .pl (.int .u8 0), .pl (.int .u8 0), .pl (.int .u8 0), .pl (.int .u8 0), .pl (.int .u8 0), .pl (.int .u8 0), .pl (.int .u8 0), .pl (.int .u8 0), .pl (.int .u8 0), .pl (.int .u8 0), .pl (.int .u8 0), .pl (.int .u8 0), .pl (.int .u8 0), .pl (.int .u8 0), .pl (.int .u8 0), .pl (.int .u8 0), .pl (.int .u8 0), .pl (.int .u8 0), .pl (.int .u8 0), .pl (.int .u8 0), .pl (.int .u8 0), .pl (.int .u8 0), .pl (.int .u8 0), .pl (.int .u8 0), .pl (.int .u8 0), .pl (.int .u8 0), .pl (.int .u8 0), .pl (.int .u8 0), .pl (.int .u8 0), .pl (.int .u64 0)])⟩])
    (.seq (.ops [⟨some 11, none, .prim (.load 19 true (.tmp 5))⟩,
      ⟨some 12, none, .call (.func 23) [(.tmp 11)]⟩,
      ⟨some 9, none, .prim (.mov (.tmp 12))⟩])
    (.seq (.seq (.ops [⟨some 13, none, .prim (.mov (.tmp 9))⟩,
      ⟨some 14, none, .prim (.isnil false false (.tmp 13))⟩])
    (.cond (.tmp 14)
    (.seq (.ops [⟨some 15, none, .prim (.build [.pl (.int .i64 0), .pl (.int .i64 0), .pl (.int .i64 0), .nils, .nils, .nils, .nils, .pl (.int .u8 0), .pl (.int .u8 0), .pl (.int .u8 0), .pl (.int .u8 0), .pl (.int .u8 0), .pl (.int .u8 0), .pl (.int .u8 0), .pl (.int .u8 0), .pl (.int .u8 0), .pl (.int .u8 0), .pl (.int .u8 0), .pl (.int .u8 0), .pl (.int .u8 0), .pl (.int .u8 0), .pl (.int .u8 0), .pl (.int .u8 0), .pl (.int .u8 0), .pl (.int .u8 0), .pl (.int .u8 0), .pl (.int .u8 0), .pl (.int .u8 0), .pl (.int .u8 0), .pl (.int .u8 0), .pl (.int .u8 0), .pl (.int .u8 0), .pl (.int .u8 0), .pl (.int .u8 0), .pl (.int .u8 0), .pl (.int .u8 0), .pl (.int .u8 0), .pl (.int .u8 0), .pl (.int .u8 0), .pl (.int .u64 0)] [(0, 1, (.const (Go.Value.int Go.IntKind.i64 1)))])⟩,
      ⟨none, none, .prim (.store 40 (.tmp 8) (.tmp 15))⟩])
    .ret)
    .skip))
    (.seq (.seq (.ops [⟨some 16, none, .prim (.mov (.tmp 0))⟩,
      ⟨some 17, none, .prim (.nilc (.tmp 16))⟩,
      ⟨some 18, none, .prim (.fadr 2 (.tmp 17))⟩,
      ⟨some 19, none, .prim (.load 1 false (.tmp 18))⟩,
      ⟨some 20, none, .call (.func 24) [(.tmp 19)]⟩,
      ⟨some 21, none, .prim (.mov (.tmp 20))⟩,
      ⟨some 22, (some (21, true)), .prim (.fadr 1 (.tmp 5))⟩,
      ⟨some 23, (some (21, true)), .prim (.load 1 false (.tmp 22))⟩,
      ⟨some 24, (some (21, true)), .call (.func 25) [(.tmp 23)]⟩,
      ⟨some 25, (some (21, true)), .prim (.un .not (.tmp 24))⟩,
      ⟨some 26, none, .prim (.pick (.tmp 21) (.tmp 25) (.const (Go.Value.bool Bool.false)))⟩])
    (.cond (.tmp 26)
    (.seq (.ops [⟨some 27, none, .prim (.build [.pl (.int .i64 0), .pl (.int .i64 0), .pl (.int .i64 0), .nils, .nils, .nils, .nils, .pl (.int .u8 0), .pl (.int .u8 0), .pl (.int .u8 0), .pl (.int .u8 0), .pl (.int .u8 0), .pl (.int .u8 0), .pl (.int .u8 0), .pl (.int .u8 0), .pl (.int .u8 0), .pl (.int .u8 0), .pl (.int .u8 0), .pl (.int .u8 0), .pl (.int .u8 0), .pl (.int .u8 0), .pl (.int .u8 0), .pl (.int .u8 0), .pl (.int .u8 0), .pl (.int .u8 0), .pl (.int .u8 0), .pl (.int .u8 0), .pl (.int .u8 0), .pl (.int .u8 0), .pl (.int .u8 0), .pl (.int .u8 0), .pl (.int .u8 0), .pl (.int .u8 0), .pl (.int .u8 0), .pl (.int .u8 0), .pl (.int .u8 0), .pl (.int .u8 0), .pl (.int .u8 0), .pl (.int .u8 0), .pl (.int .u64 0)] [(0, 1, (.const (Go.Value.int Go.IntKind.i64 3)))])⟩,
      ⟨none, none, .prim (.store 40 (.tmp 8) (.tmp 27))⟩])
    .ret)
    .skip))
    (.seq (.ops [⟨some 28, none, .prim (.build [.pl (.int .i64 0), .pl (.int .i64 0), .pl (.int .i64 0), .nils, .nils, .nils, .nils, .pl (.int .u8 0), .pl (.int .u8 0), .pl (.int .u8 0), .pl (.int .u8 0), .pl (.int .u8 0), .pl (.int .u8 0), .pl (.int .u8 0), .pl (.int .u8 0), .pl (.int .u8 0), .pl (.int .u8 0), .pl (.int .u8 0), .pl (.int .u8 0), .pl (.int .u8 0), .pl (.int .u8 0), .pl (.int .u8 0), .pl (.int .u8 0), .pl (.int .u8 0), .pl (.int .u8 0), .pl (.int .u8 0), .pl (.int .u8 0), .pl (.int .u8 0), .pl (.int .u8 0), .pl (.int .u8 0), .pl (.int .u8 0), .pl (.int .u8 0), .pl (.int .u8 0), .pl (.int .u8 0), .pl (.int .u8 0), .pl (.int .u8 0), .pl (.int .u8 0), .pl (.int .u8 0), .pl (.int .u8 0), .pl (.int .u64 0)] [(0, 1, (.const (Go.Value.int Go.IntKind.i64 4)))])⟩,
      ⟨some 10, none, .prim (.allocm [.pl (.int .i64 0), .pl (.int .i64 0), .pl (.int .i64 0), .nils, .nils, .nils, .nils, .pl (.int .u8 0), .pl (.int .u8 0), .pl (.int .u8 0), .pl (.int .u8 0), .pl (.int .u8 0), .pl (.int .u8 0), .pl (.int .u8 0), .pl (.int .u8 0), .pl (.int .u8 0), .pl (.int .u8 0), .pl (.int .u8 0), .pl (.int .u8 0), .pl (.int .u8 0), .pl (.int .u8 0), .pl (.int .u8 0), .pl (.int .u8 0), .pl (.int .u8 0), .pl (.int .u8 0), .pl (.int .u8 0), .pl (.int .u8 0), .pl (.int .u8 0), .pl (.int .u8 0), .pl (.int .u8 0), .pl (.int .u8 0), .pl (.int .u8 0), .pl (.int .u8 0), .pl (.int .u8 0), .pl (.int .u8 0), .pl (.int .u8 0), .pl (.int .u8 0), .pl (.int .u8 0), .pl (.int .u8 0), .pl (.int .u64 0)])⟩,
      ⟨none, none, .prim (.store 40 (.tmp 10) (.tmp 28))⟩])
    (.seq (.block 0 (.seq (.ops [⟨some 33, none, .prim (.mov (.tmp 2))⟩,
      ⟨some 34, none, .prim (.fadr 1 (.tmp 5))⟩,
      ⟨some 35, none, .prim (.load 1 false (.tmp 34))⟩,
      ⟨some 36, none, .call (.func 26) [(.tmp 33), (.tmp 35)]⟩,
      ⟨some 37, none, .prim (.un .not (.tmp 36))⟩,
      ⟨some 32, none, .prim (.mov (.tmp 37))⟩])
    (.cond (.tmp 32)
    .skip
    (.seq (.ops [⟨some 39, none, .prim (.fadr 1 (.tmp 5))⟩,
      ⟨some 40, none, .prim (.load 1 false (.tmp 39))⟩,
      ⟨some 41, none, .prim (.bin false .eql (.tmp 40) (.const (Go.Value.int Go.IntKind.i64 16)))⟩,
      ⟨some 38, none, .prim (.mov (.tmp 41))⟩])
    (.cond (.tmp 38)
    (.ops [⟨some 42, none, .prim (.mov (.tmp 0))⟩,
      ⟨some 43, none, .prim (.nilc (.tmp 42))⟩,
      ⟨some 44, none, .prim (.fadr 2 (.tmp 43))⟩,
      ⟨some 45, none, .prim (.load 1 false (.tmp 44))⟩,
      ⟨some 46, none, .call (.func 27) [(.tmp 45)]⟩,
      ⟨some 47, none, .prim (.build [.pl (.int .i64 0), .pl (.int .i64 0), .pl (.int .i64 0), .nils, .nils, .nils, .nils, .pl (.int .u8 0), .pl (.int .u8 0), .pl (.int .u8 0), .pl (.int .u8 0), .pl (.int .u8 0), .pl (.int .u8 0), .pl (.int .u8 0), .pl (.int .u8 0), .pl (.int .u8 0), .pl (.int .u8 0), .pl (.int .u8 0), .pl (.int .u8 0), .pl (.int .u8 0), .pl (.int .u8 0), .pl (.int .u8 0), .pl (.int .u8 0), .pl (.int .u8 0), .pl (.int .u8 0), .pl (.int .u8 0), .pl (.int .u8 0), .pl (.int .u8 0), .pl (.int .u8 0), .pl (.int .u8 0), .pl (.int .u8 0), .pl (.int .u8 0), .pl (.int .u8 0), .pl (.int .u8 0), .pl (.int .u8 0), .pl (.int .u8 0), .pl (.int .u8 0), .pl (.int .u8 0), .pl (.int .u8 0), .pl (.int .u64 0)] [(6, 1, (.tmp 46))])⟩,
      ⟨none, none, .prim (.store 40 (.tmp 10) (.tmp 47))⟩])
    (.seq (.ops [⟨some 49, none, .prim (.fadr 1 (.tmp 5))⟩,
      ⟨some 50, none, .prim (.load 1 false (.tmp 49))⟩,
      ⟨some 51, none, .prim (.bin false .eql (.tmp 50) (.const (Go.Value.int Go.IntKind.i64 17)))⟩,
      ⟨some 48, none, .prim (.mov (.tmp 51))⟩])
    (.cond (.tmp 48)
    (.ops [⟨some 52, none, .prim (.mov (.tmp 0))⟩,
      ⟨some 53, none, .prim (.nilc (.tmp 52))⟩,
      ⟨some 54, none, .prim (.fadr 2 (.tmp 53))⟩,
      ⟨some 55, none, .prim (.load 1 false (.tmp 54))⟩,
      ⟨some 56, none, .call (.func 28) [(.tmp 55)]⟩,
      ⟨some 57, none, .prim (.build [.pl (.int .i64 0), .pl (.int .i64 0), .pl (.int .i64 0), .nils, .nils, .nils, .nils, .pl (.int .u8 0), .pl (.int .u8 0), .pl (.int .u8 0), .pl (.int .u8 0), .pl (.int .u8 0), .pl (.int .u8 0), .pl (.int .u8 0), .pl (.int .u8 0), .pl (.int .u8 0), .pl (.int .u8 0), .pl (.int .u8 0), .pl (.int .u8 0), .pl (.int .u8 0), .pl (.int .u8 0), .pl (.int .u8 0), .pl (.int .u8 0), .pl (.int .u8 0), .pl (.int .u8 0), .pl (.int .u8 0), .pl (.int .u8 0), .pl (.int .u8 0), .pl (.int .u8 0), .pl (.int .u8 0), .pl (.int .u8 0), .pl (.int .u8 0), .pl (.int .u8 0), .pl (.int .u8 0), .pl (.int .u8 0), .pl (.int .u8 0), .pl (.int .u8 0), .pl (.int .u8 0), .pl (.int .u8 0), .pl (.int .u64 0)] [(7, 32, (.tmp 56))])⟩,
      ⟨none, none, .prim (.store 40 (.tmp 10) (.tmp 57))⟩])
    (.ops [⟨some 29, none, .prim (.mov (.tmp 3))⟩,
      ⟨some 30, none, .prim (.load 19 true (.tmp 5))⟩,
      ⟨some 31, none, .call (.tmp 29) [(.tmp 30)]⟩,
      ⟨none, none, .prim (.store 40 (.tmp 10) (.tmp 31))⟩]))))))))
    (.seq (.seq (.ops [⟨some 58, none, .prim (.mov (.tmp 0))⟩,
      ⟨some 59, none, .prim (.nilc (.tmp 58))⟩,
      ⟨some 60, none, .prim (.fadr 2 (.tmp 59))⟩,
      ⟨some 61, none, .prim (.load 1 false (.tmp 60))⟩,
      ⟨some 62, none, .call (.func 24) [(.tmp 61)]⟩,
      ⟨some 63, none, .prim (.un .not (.tmp 62))⟩])
    (.cond (.tmp 63)
    (.draw [⟨⟨some 64, none, .prim (.mov (.tmp 0))⟩, [], false, 0, 0⟩,
      ⟨⟨some 65, none, .prim (.nilc (.tmp 64))⟩, [0], false, 0, 0⟩,
      ⟨⟨some 66, none, .prim (.fadr 2 (.tmp 65))⟩, [0, 1], false, 0, 0⟩,
      ⟨⟨some 67, none, .prim (.load 1 false (.tmp 66))⟩, [0, 1, 2], false, 0, 0⟩,
      ⟨⟨some 68, none, .prim (.mov (.tmp 0))⟩, [], false, 0, 0⟩,
      ⟨⟨some 69, none, .prim (.nilc (.tmp 68))⟩, [4], false, 0, 0⟩,
      ⟨⟨some 70, none, .prim (.fadr 1 (.tmp 69))⟩, [4, 5], false, 0, 0⟩,
      ⟨⟨some 71, none, .prim (.load 1 false (.tmp 70))⟩, [4, 5, 6], false, 0, 0⟩,
      ⟨⟨some 72, none, .prim (.mov (.tmp 9))⟩, [], false, 0, 0⟩,
      ⟨⟨some 73, none, .prim (.fadr 0 (.tmp 10))⟩, [], false, 0, 0⟩,
      ⟨⟨some 74, none, .prim (.load 1 false (.tmp 73))⟩, [9], false, 0, 0⟩,
      ⟨⟨some 75, none, .call (.func 29) [(.tmp 67), (.tmp 71), (.tmp 72), (.tmp 74)]⟩, [0, 1, 2, 3, 4, 5, 6, 7, 8, 9, 10], true, 0, 0⟩])
    .skip))
    (.seq (.seq (.ops [⟨some 76, none, .prim (.fadr 0 (.tmp 10))⟩,
      ⟨some 77, none, .prim (.load 1 false (.tmp 76))⟩,
      ⟨some 78, none, .prim (.bin false .neq (.tmp 77) (.const (Go.Value.int Go.IntKind.i64 0)))⟩])
    (.cond (.tmp 78)
    (.seq (.ops [⟨some 79, none, .prim (.fadr 0 (.tmp 10))⟩,
      ⟨some 80, none, .prim (.load 1 false (.tmp 79))⟩,
      ⟨some 81, none, .prim (.build [.pl (.int .i64 0), .pl (.int .i64 0), .pl (.int .i64 0), .nils, .nils, .nils, .nils, .pl (.int .u8 0), .pl (.int .u8 0), .pl (.int .u8 0), .pl (.int .u8 0), .pl (.int .u8 0), .pl (.int .u8 0), .pl (.int .u8 0), .pl (.int .u8 0), .pl (.int .u8 0), .pl (.int .u8 0), .pl (.int .u8 0), .pl (.int .u8 0), .pl (.int .u8 0), .pl (.int .u8 0), .pl (.int .u8 0), .pl (.int .u8 0), .pl (.int .u8 0), .pl (.int .u8 0), .pl (.int .u8 0), .pl (.int .u8 0), .pl (.int .u8 0), .pl (.int .u8 0), .pl (.int .u8 0), .pl (.int .u8 0), .pl (.int .u8 0), .pl (.int .u8 0), .pl (.int .u8 0), .pl (.int .u8 0), .pl (.int .u8 0), .pl (.int .u8 0), .pl (.int .u8 0), .pl (.int .u8 0), .pl (.int .u64 0)] [(0, 1, (.tmp 80))])⟩,
      ⟨none, none, .prim (.store 40 (.tmp 8) (.tmp 81))⟩])
    .ret)
    .skip))
    (.seq (.ops [⟨some 82, none, .prim (.fadr 1 (.tmp 5))⟩,
      ⟨some 83, none, .prim (.load 1 false (.tmp 82))⟩,
      ⟨some 84, none, .prim (.fadr 1 (.tmp 10))⟩,
      ⟨none, none, .prim (.store 1 (.tmp 84) (.tmp 83))⟩])
    (.seq (.ops [⟨some 85, none, .prim (.load 40 true (.tmp 10))⟩,
      ⟨none, none, .prim (.store 40 (.tmp 8) (.tmp 85))⟩])
    .ret))))))))))
def o14 : List Tmp := [8, 10]
def r14 : List RV := [.cell 8 40 true]
theorem t14 : Text Tryz.prog 14 o14 c14 r14 86 := ⟨⟨Tryz.f14, _, by kernel_rfl, by kernel_rfl, rfl, by kernel_rfl, by kernel_rfl, rfl⟩, by kernel_rfl⟩

/-- (*sordine/desk.Desk).answer -/
def c15 : ACode :=
  (.seq (.ops [⟨some 3, none, .prim (.boxr (.tmp 1))⟩,
      ⟨some 4, none, .prim (.allocm [.pl (.int .i64 0), .pl (.int .i64 0), .pl (.int .i64 0), .nils, .nils, .nils, .nils, .pl (.int .u8 0), .pl (.int .u8 0), .pl (.int .u8 0), .pl (.int .u8 0), .pl (.int .u8 0), .pl (.int .u8 0), .pl (.int .u8 0), .pl (.int .u8 0), .pl (.int .u8 0), .pl (.int .u8 0), .pl (.int .u8 0), .pl (.int .u8 0), .pl (.int .u8 0), .pl (.int .u8 0), .pl (.int .u8 0), .pl (.int .u8 0), .pl (.int .u8 0), .pl (.int .u8 0), .pl (.int .u8 0), .pl (.int .u8 0), .pl (.int .u8 0), .pl (.int .u8 0), .pl (.int .u8 0), .pl (.int .u8 0), .pl (.int .u8 0), .pl (.int .u8 0), .pl (.int .u8 0), .pl (.int .u8 0), .pl (.int .u8 0), .pl (.int .u8 0), .pl (.int .u8 0), .pl (.int .u8 0), .pl (.int .u64 0)])⟩])
    (.seq (.ops [⟨some 5, none, .prim (.allocm [.pl (.int .i64 0), .pl (.int .i64 0), .pl (.int .i64 0), .nils, .nils, .nils, .nils, .pl (.int .u8 0), .pl (.int .u8 0), .pl (.int .u8 0), .pl (.int .u8 0), .pl (.int .u8 0), .pl (.int .u8 0), .pl (.int .u8 0), .pl (.int .u8 0), .pl (.int .u8 0), .pl (.int .u8 0), .pl (.int .u8 0), .pl (.int .u8 0), .pl (.int .u8 0), .pl (.int .u8 0), .pl (.int .u8 0), .pl (.int .u8 0), .pl (.int .u8 0), .pl (.int .u8 0), .pl (.int .u8 0), .pl (.int .u8 0), .pl (.int .u8 0), .pl (.int .u8 0), .pl (.int .u8 0), .pl (.int .u8 0), .pl (.int .u8 0), .pl (.int .u8 0), .pl (.int .u8 0), .pl (.int .u8 0), .pl (.int .u8 0), .pl (.int .u8 0), .pl (.int .u8 0), .pl (.int .u8 0), .pl (.int .u64 0)])⟩])
    (.seq (.seq (.ops [⟨some 8, none, .prim (.fadr 1 (.tmp 3))⟩,
      ⟨some 9, none, .prim (.load 1 false (.tmp 8))⟩])
    (.block 0 (.seq (.ops [⟨some 11, none, .prim (.bin false .eql (.tmp 9) (.const (Go.Value.int Go.IntKind.i64 1)))⟩,
      ⟨some 10, none, .prim (.mov (.tmp 11))⟩])
    (.cond (.tmp 10)
    (.seq (.ops [⟨some 13, none, .prim (.mov (.tmp 0))⟩,
      ⟨some 14, none, .prim (.nilc (.tmp 13))⟩,
      ⟨some 15, none, .prim (.fadr 2 (.tmp 14))⟩,
      ⟨some 16, none, .prim (.load 1 false (.tmp 15))⟩,
      ⟨some 17, none, .call (.func 30) [(.tmp 16)]⟩,
      ⟨some 12, none, .prim (.mov (.tmp 17))⟩,
      ⟨some 18, none, .prim (.extr 0 (.tmp 12))⟩,
      ⟨some 19, none, .prim (.extr 1 (.tmp 12))⟩,
      ⟨some 6, none, .prim (.mov (.tmp 18))⟩,
      ⟨some 7, none, .prim (.mov (.tmp 19))⟩])
    (.seq (.seq (.ops [⟨some 20, none, .prim (.mov (.tmp 7))⟩,
      ⟨some 21, none, .prim (.un .not (.tmp 20))⟩])
    (.cond (.tmp 21)
    (.ops [⟨some 22, none, .prim (.fadr 0 (.tmp 5))⟩,
      ⟨none, none, .prim (.store 1 (.tmp 22) (.const (Go.Value.int Go.IntKind.i64 10)))⟩])
    .skip))
    (.ops [⟨some 23, none, .prim (.mov (.tmp 6))⟩,
      ⟨some 24, none, .prim (.fadr 2 (.tmp 5))⟩,
      ⟨none, none, .prim (.store 1 (.tmp 24) (.tmp 23))⟩])))
    (.seq (.ops [⟨some 26, none, .prim (.bin false .eql (.tmp 9) (.const (Go.Value.int Go.IntKind.i64 2)))⟩,
      ⟨some 25, none, .prim (.mov (.tmp 26))⟩])
    (.cond (.tmp 25)
    (.seq (.seq (.draw [⟨⟨some 27, none, .prim (.mov (.tmp 0))⟩, [], false, 0, 0⟩,
      ⟨⟨some 28, none, .prim (.nilc (.tmp 27))⟩, [0], false, 0, 0⟩,
      ⟨⟨some 29, none, .prim (.fadr 2 (.tmp 28))⟩, [0, 1], false, 0, 0⟩,
      ⟨⟨some 30, none, .prim (.load 1 false (.tmp 29))⟩, [0, 1, 2], false, 0, 0⟩,
      ⟨⟨some 31, none, .prim (.fadr 2 (.tmp 3))⟩, [], false, 0, 0⟩,
      ⟨⟨some 32, none, .prim (.load 1 false (.tmp 31))⟩, [4], false, 0, 0⟩,
      ⟨⟨some 33, none, .call (.func 31) [(.tmp 30), (.tmp 32)]⟩, [0, 1, 2, 3, 4, 5], true, 0, 0⟩,
      ⟨⟨some 34, none, .prim (.un .not (.tmp 33))⟩, [0, 1, 2, 3, 4, 5, 6], false, 1, 1⟩])
    (.cond (.tmp 34)
    (.seq (.ops [⟨some 35, none, .prim (.fadr 0 (.tmp 5))⟩,
      ⟨none, none, .prim (.store 1 (.tmp 35) (.const (Go.Value.int Go.IntKind.i64 5)))⟩])
    (.exit 0))
    .skip))
    (.draw [⟨⟨some 36, none, .prim (.mov (.tmp 0))⟩, [], false, 0, 0⟩,
      ⟨⟨some 37, none, .prim (.nilc (.tmp 36))⟩, [0], false, 0, 0⟩,
      ⟨⟨some 38, none, .prim (.fadr 1 (.tmp 37))⟩, [0, 1], false, 0, 0⟩,
      ⟨⟨some 39, none, .prim (.load 1 false (.tmp 38))⟩, [0, 1, 2], false, 0, 0⟩,
      ⟨⟨some 40, none, .prim (.fadr 2 (.tmp 3))⟩, [], false, 0, 0⟩,
      ⟨⟨some 41, none, .prim (.load 1 false (.tmp 40))⟩, [4], false, 0, 0⟩,
      ⟨⟨some 42, none, .call (.func 32) [(.tmp 39), (.tmp 41)]⟩, [0, 1, 2, 3, 4, 5], true, 0, 0⟩]))
    (.seq (.seq (.ops [⟨some 44, none, .prim (.bin false .eql (.tmp 9) (.const (Go.Value.int Go.IntKind.i64 3)))⟩,
      ⟨some 43, none, .prim (.mov (.tmp 44))⟩])
    (.cond (.tmp 43)
    .skip
    (.ops [⟨some 45, none, .prim (.bin false .eql (.tmp 9) (.const (Go.Value.int Go.IntKind.i64 4)))⟩,
      ⟨some 43, none, .prim (.mov (.tmp 45))⟩])))
    (.cond (.tmp 43)
    (.block 1 (.seq (.ops [⟨some 57, none, .prim (.mov (.tmp 0))⟩,
      ⟨some 58, none, .prim (.fadr 2 (.tmp 3))⟩,
      ⟨some 59, none, .prim (.load 1 false (.tmp 58))⟩,
      ⟨some 60, none, .call (.func 33) [(.tmp 57), (.tmp 59)]⟩,
      ⟨some 61, none, .prim (.un .not (.tmp 60))⟩,
      ⟨some 56, none, .prim (.mov (.tmp 61))⟩])
    (.cond (.tmp 56)
    (.ops [⟨some 62, none, .prim (.fadr 0 (.tmp 5))⟩,
      ⟨none, none, .prim (.store 1 (.tmp 62) (.const (Go.Value.int Go.IntKind.i64 5)))⟩])
    (.seq (.ops [⟨some 64, none, .prim (.fadr 1 (.tmp 3))⟩,
      ⟨some 65, none, .prim (.load 1 false (.tmp 64))⟩,
      ⟨some 66, none, .prim (.bin false .eql (.tmp 65) (.const (Go.Value.int Go.IntKind.i64 3)))⟩,
      ⟨some 63, none, .prim (.mov (.tmp 66))⟩])
    (.cond (.tmp 63)
    (.draw [⟨⟨some 67, none, .prim (.mov (.tmp 0))⟩, [], false, 0, 0⟩,
      ⟨⟨some 68, none, .prim (.nilc (.tmp 67))⟩, [0], false, 0, 0⟩,
      ⟨⟨some 69, none, .prim (.fadr 1 (.tmp 68))⟩, [0, 1], false, 0, 0⟩,
      ⟨⟨some 70, none, .prim (.load 1 false (.tmp 69))⟩, [0, 1, 2], false, 0, 0⟩,
      ⟨⟨some 71, none, .prim (.fadr 2 (.tmp 3))⟩, [], false, 0, 0⟩,
      ⟨⟨some 72, none, .prim (.load 1 false (.tmp 71))⟩, [4], false, 0, 0⟩,
      ⟨⟨some 73, none, .prim (.fadr 3 (.tmp 3))⟩, [], false, 0, 0⟩,
      ⟨⟨some 74, none, .prim (.load 1 false (.tmp 73))⟩, [6], false, 0, 0⟩,
      ⟨⟨some 75, none, .call (.func 12) [(.tmp 70), (.tmp 72), (.tmp 74)]⟩, [0, 1, 2, 3, 4, 5, 6, 7], true, 0, 0⟩,
      ⟨⟨some 76, none, .prim (.fadr 0 (.tmp 5))⟩, [0, 1, 2, 3, 4, 5, 6, 7, 8], false, 1, 1⟩,
      ⟨⟨none, none, .prim (.store 1 (.tmp 76) (.tmp 75))⟩, [0, 1, 2, 3, 4, 5, 6, 7, 8, 9], true, 0, 0⟩])
    (.draw [⟨⟨some 46, none, .prim (.mov (.tmp 0))⟩, [], false, 0, 0⟩,
      ⟨⟨some 47, none, .prim (.nilc (.tmp 46))⟩, [0], false, 0, 0⟩,
      ⟨⟨some 48, none, .prim (.fadr 1 (.tmp 47))⟩, [0, 1], false, 0, 0⟩,
      ⟨⟨some 49, none, .prim (.load 1 false (.tmp 48))⟩, [0, 1, 2], false, 0, 0⟩,
      ⟨⟨some 50, none, .prim (.fadr 2 (.tmp 3))⟩, [], false, 0, 0⟩,
      ⟨⟨some 51, none, .prim (.load 1 false (.tmp 50))⟩, [4], false, 0, 0⟩,
      ⟨⟨some 52, none, .prim (.fadr 3 (.tmp 3))⟩, [], false, 0, 0⟩,
      ⟨⟨some 53, none, .prim (.load 1 false (.tmp 52))⟩, [6], false, 0, 0⟩,
      ⟨⟨some 54, none, .call (.func 34) [(.tmp 49), (.tmp 51), (.tmp 53)]⟩, [0, 1, 2, 3, 4, 5, 6, 7], true, 0, 0⟩,
      ⟨⟨some 55, none, .prim (.fadr 0 (.tmp 5))⟩, [0, 1, 2, 3, 4, 5, 6, 7, 8], false, 1, 1⟩,
      ⟨⟨none, none, .prim (.store 1 (.tmp 55) (.tmp 54))⟩, [0, 1, 2, 3, 4, 5, 6, 7, 8, 9], true, 0, 0⟩]))))))
    .skip))))))))
    (.seq (.ops [⟨some 77, none, .prim (.load 40 true (.tmp 5))⟩,
      ⟨none, none, .prim (.store 40 (.tmp 4) (.tmp 77))⟩])
    .ret))))
def o15 : List Tmp := [4, 5]
def r15 : List RV := [.cell 4 40 true]
theorem t15 : Text Tryz.prog 15 o15 c15 r15 78 := ⟨⟨Tryz.f15, _, by kernel_rfl, by kernel_rfl, rfl, by kernel_rfl, by kernel_rfl, rfl⟩, by kernel_rfl⟩

/-- (*sordine/token.Table).Owner -/
def c16 : ACode :=
  (.seq (.ops [⟨some 4, none, .prim (.mov (.const (Go.Value.int Go.IntKind.i64 0)))⟩,
      ⟨some 5, none, .prim (.mov (.const (Go.Value.bool Bool.false)))⟩])
    (.seq (.ops [⟨some 7, none, .prim (.mov (.tmp 0))⟩,
      ⟨some 8, none, .prim (.mov (.tmp 1))⟩,
      ⟨some 9, none, .call (.func 20) [(.tmp 7), (.tmp 8)]⟩,
      ⟨some 6, none, .prim (.mov (.tmp 9))⟩])
    (.seq (.seq (.ops [⟨some 10, none, .prim (.mov (.tmp 6))⟩,
      ⟨some 11, none, .prim (.bin false .lss (.tmp 10) (.const (Go.Value.int Go.IntKind.i64 0)))⟩])
    (.cond (.tmp 11)
    (.seq (.ops [⟨some 4, none, .prim (.mov (.const (Go.Value.int Go.IntKind.i64 0)))⟩,
      ⟨some 5, none, .prim (.mov (.const (Go.Value.bool Bool.false)))⟩])
    .ret)
    .skip))
    (.seq (.ops [⟨some 12, none, .prim (.mov (.tmp 0))⟩,
      ⟨some 13, none, .prim (.nilc (.tmp 12))⟩,
      ⟨some 14, none, .prim (.fadr 1 (.tmp 13))⟩,
      ⟨some 15, none, .prim (.load 1 false (.tmp 14))⟩,
      ⟨some 16, none, .prim (.mov (.tmp 6))⟩,
      ⟨some 17, none, .prim (.iadrs 2 (.tmp 15) (.tmp 16))⟩,
      ⟨some 18, none, .prim (.fadr 1 (.tmp 17))⟩,
      ⟨some 19, none, .prim (.load 1 false (.tmp 18))⟩,
      ⟨some 4, none, .prim (.mov (.tmp 19))⟩,
      ⟨some 5, none, .prim (.mov (.const (Go.Value.bool Bool.true)))⟩])
    .ret))))
def o16 : List Tmp := []
def r16 : List RV := [.tmp 4, .tmp 5]
theorem t16 : Text Tryz.prog 16 o16 c16 r16 20 := ⟨⟨Tryz.f16, _, by kernel_rfl, by kernel_rfl, rfl, by kernel_rfl, by kernel_rfl, rfl⟩, by kernel_rfl⟩

/-- (*sordine/door.Door).Records -/
def c17 : ACode :=
  (.seq (.ops [⟨some 2, none, .prim (.mov (.const (Go.Value.int Go.IntKind.i64 0)))⟩])
    (.seq (.ops [⟨some 3, none, .prim (.mov (.tmp 0))⟩,
      ⟨some 4, none, .prim (.nilc (.tmp 3))⟩,
      ⟨some 5, none, .prim (.fadr 2 (.tmp 4))⟩,
      ⟨some 6, none, .prim (.load 1 false (.tmp 5))⟩,
      ⟨some 7, none, .call (.func 35) [(.tmp 6)]⟩,
      ⟨some 2, none, .prim (.mov (.tmp 7))⟩])
    .ret))
def o17 : List Tmp := []
def r17 : List RV := [.tmp 2]
theorem t17 : Text Tryz.prog 17 o17 c17 r17 8 := ⟨⟨Tryz.f17, _, by kernel_rfl, by kernel_rfl, rfl, by kernel_rfl, by kernel_rfl, rfl⟩, by kernel_rfl⟩

/-- sordine/chain.New -/
def c18 : ACode :=
  (.seq (.ops [⟨some 4, none, .prim (.mov (.const (Go.Value.pointer Option.none)))⟩])
    (.seq (.ops [⟨some 5, none, .prim (.mov (.tmp 1))⟩,
      ⟨some 6, none, .prim (.mm true (.tmp 5) (.const (Go.Value.int Go.IntKind.i64 0)))⟩,
      ⟨some 7, none, .prim (.mm false (.tmp 6) (.const (Go.Value.int Go.IntKind.i64 200)))⟩,
      ⟨some 8, none, .prim (.mov (.tmp 0))⟩,
      ⟨some 9, none, .call (.func 37) [(.tmp 8)]⟩,
      ⟨some 10, none, .call (.func 36) [(.tmp 9)]⟩,
      ⟨some 11, none, .prim (.build [.pl (.int .i64 0), .nils, .pl (.int .u8 0), .pl (.int .u8 0), .pl (.int .u8 0), .pl (.int .u8 0), .pl (.int .u8 0), .pl (.int .u8 0), .pl (.int .u8 0), .pl (.int .u8 0), .pl (.int .u8 0), .pl (.int .u8 0), .pl (.int .u8 0), .pl (.int .u8 0), .pl (.int .u8 0), .pl (.int .u8 0), .pl (.int .u8 0), .pl (.int .u8 0), .pl (.int .u8 0), .pl (.int .u8 0), .pl (.int .u8 0), .pl (.int .u8 0), .pl (.int .u8 0), .pl (.int .u8 0), .pl (.int .u8 0), .pl (.int .u8 0), .pl (.int .u8 0), .pl (.int .u8 0), .pl (.int .u8 0), .pl (.int .u8 0), .pl (.int .u8 0), .pl (.int .u8 0), .pl (.int .u8 0), .pl (.int .u8 0)] [(0, 1, (.tmp 7)), (2, 32, (.tmp 10))])⟩,
      ⟨some 12, none, .prim (.boxm (.tmp 11))⟩,
      ⟨some 4, none, .prim (.mov (.tmp 12))⟩])
    .ret))
def o18 : List Tmp := [12]
def r18 : List RV := [.tmp 4]
theorem t18 : Text Tryz.prog 18 o18 c18 r18 13 := ⟨⟨Tryz.f18, _, by kernel_rfl, by kernel_rfl, rfl, by kernel_rfl, by kernel_rfl, rfl⟩, by kernel_rfl⟩

/-- sordine/token.Is -/
def c19 : ACode :=
  (.seq (.ops [⟨some 2, none, .prim (.mov (.const (Go.Value.bool Bool.false)))⟩])
    (.seq (.ops [⟨some 3, none, .prim (.mov (.tmp 0))⟩,
      ⟨some 4, none, .prim (.lens (.tmp 3))⟩,
      ⟨some 5, none, .prim (.bin false .geq (.tmp 4) (.const (Go.Value.int Go.IntKind.i64 4)))⟩,
      ⟨some 6, none, .prim (.mov (.tmp 5))⟩,
      ⟨some 7, (some (6, true)), .prim (.mov (.tmp 0))⟩,
      ⟨some 8, (some (6, true)), .prim (.lens (.tmp 7))⟩,
      ⟨some 9, (some (6, true)), .prim (.bin false .leq (.tmp 8) (.const (Go.Value.int Go.IntKind.i64 16)))⟩,
      ⟨some 10, none, .prim (.pick (.tmp 6) (.tmp 9) (.const (Go.Value.bool Bool.false)))⟩,
      ⟨some 2, none, .prim (.mov (.tmp 10))⟩])
    .ret))
def o19 : List Tmp := []
def r19 : List RV := [.tmp 2]
theorem t19 : Text Tryz.prog 19 o19 c19 r19 11 := ⟨⟨Tryz.f19, _, by kernel_rfl, by kernel_rfl, rfl, by kernel_rfl, by kernel_rfl, rfl⟩, by kernel_rfl⟩

/-- (*sordine/token.Table).place -/
def c20 : ACode :=
  (.seq (.ops [⟨some 4, none, .prim (.mov (.const (Go.Value.int Go.IntKind.i64 0)))⟩])
    (.seq (.ops [⟨some 5, none, .prim (.mov (.const (Go.Value.int Go.IntKind.i64 (-1))))⟩])
    (.seq (.seq (.ops [⟨some 8, none, .prim (.mov (.tmp 0))⟩,
      ⟨some 9, none, .prim (.nilc (.tmp 8))⟩,
      ⟨some 10, none, .prim (.fadr 1 (.tmp 9))⟩,
      ⟨some 11, none, .prim (.load 1 false (.tmp 10))⟩,
      ⟨some 12, none, .prim (.lenv (.tmp 11))⟩,
      ⟨some 13, none, .prim (.mov (.const (Go.Value.int Go.IntKind.i64 0)))⟩])
    (.block 0 (.loop [0, 2, 3, 4, 6, 7, 8, 9, 10, 14, 15, 16, 17, 18, 19, 20, 21, 22, 23, 24] (.seq (.ops [⟨some 14, none, .prim (.bin false .lss (.tmp 13) (.tmp 12))⟩])
    (.seq (.cond (.tmp 14)
    .skip
    (.exit 0))
    (.seq (.block 1 (.seq (.ops [⟨some 15, none, .prim (.mov (.tmp 13))⟩,
      ⟨some 16, none, .prim (.iadrs 2 (.tmp 11) (.tmp 13))⟩,
      ⟨some 17, none, .prim (.load 2 true (.tmp 16))⟩,
      ⟨some 7, none, .prim (.allocm [.pl (.string .empty), .pl (.int .i64 0)])⟩,
      ⟨some 6, none, .prim (.mov (.tmp 15))⟩,
      ⟨none, none, .prim (.store 2 (.tmp 7) (.tmp 17))⟩])
    (.seq (.ops [⟨some 18, none, .prim (.fadr 0 (.tmp 7))⟩,
      ⟨some 19, none, .prim (.load 1 false (.tmp 18))⟩,
      ⟨some 20, none, .prim (.mov (.tmp 1))⟩,
      ⟨some 21, none, .call (.func 38) [(.tmp 19), (.tmp 20)]⟩])
    (.cond (.tmp 21)
    (.ops [⟨some 22, none, .prim (.mov (.tmp 6))⟩,
      ⟨some 5, none, .prim (.mov (.tmp 22))⟩])
    .skip))))
    (.ops [⟨some 23, none, .prim (.bin false .add (.tmp 13) (.const (Go.Value.int Go.IntKind.i64 1)))⟩,
      ⟨some 13, none, .prim (.mov (.tmp 23))⟩])))))))
    (.seq (.ops [⟨some 24, none, .prim (.mov (.tmp 5))⟩,
      ⟨some 4, none, .prim (.mov (.tmp 24))⟩])
    .ret))))
def o20 : List Tmp := [7]
def r20 : List RV := [.tmp 4]
theorem t20 : Text Tryz.prog 20 o20 c20 r20 25 := ⟨⟨Tryz.f20, _, by kernel_rfl, by kernel_rfl, rfl, by kernel_rfl, by kernel_rfl, rfl⟩, by kernel_rfl⟩

/-- (*sordine/token.Table).Of -/
def c21 : ACode :=
  (.seq (.ops [⟨some 4, none, .prim (.mov (.const (Go.Value.slice Option.none 0 0)))⟩])
    (.seq (.ops [⟨some 5, none, .prim (.mov (.const (Go.Value.slice Option.none 0 0)))⟩])
    (.seq (.seq (.ops [⟨some 8, none, .prim (.mov (.tmp 0))⟩,
      ⟨some 9, none, .prim (.nilc (.tmp 8))⟩,
      ⟨some 10, none, .prim (.fadr 1 (.tmp 9))⟩,
      ⟨some 11, none, .prim (.load 1 false (.tmp 10))⟩,
      ⟨some 12, none, .prim (.lenv (.tmp 11))⟩,
      ⟨some 13, none, .prim (.mov (.const (Go.Value.int Go.IntKind.i64 0)))⟩])
    (.block 0 (.loop [0, 2, 3, 4, 6, 7, 8, 9, 10, 14, 15, 16, 17, 18, 19, 20, 21, 22, 23, 24, 25, 26, 27, 28, 29] (.seq (.ops [⟨some 14, none, .prim (.bin false .lss (.tmp 13) (.tmp 12))⟩])
    (.seq (.cond (.tmp 14)
    .skip
    (.exit 0))
    (.seq (.block 1 (.seq (.ops [⟨some 15, none, .prim (.iadrs 2 (.tmp 11) (.tmp 13))⟩,
      ⟨some 16, none, .prim (.load 2 true (.tmp 15))⟩,
      ⟨some 7, none, .fresh 2 7 (.tmp 16)⟩])
    (.seq (.ops [⟨some 17, none, .prim (.fadr 1 (.tmp 7))⟩,
      ⟨some 18, none, .prim (.load 1 false (.tmp 17))⟩,
      ⟨some 19, none, .prim (.mov (.tmp 1))⟩,
      ⟨some 20, none, .prim (.bin false .eql (.tmp 18) (.tmp 19))⟩])
    (.cond (.tmp 20)
    (.ops [⟨some 21, none, .prim (.mov (.tmp 5))⟩,
      ⟨some 22, none, .prim (.fadr 0 (.tmp 7))⟩,
      ⟨some 23, none, .prim (.load 1 false (.tmp 22))⟩,
      ⟨some 24, none, .prim (.bsl false 1 false 1 [.pl (.string .empty)] [(0, 1, (.tmp 23))])⟩,
      ⟨some 25, none, .prim (.app 1 (.tmp 21) (.tmp 24))⟩,
      ⟨some 5, none, .prim (.mov (.tmp 25))⟩])
    .skip))))
    (.ops [⟨some 26, none, .prim (.bin false .add (.tmp 13) (.const (Go.Value.int Go.IntKind.i64 1)))⟩,
      ⟨some 13, none, .prim (.mov (.tmp 26))⟩])))))))
    (.seq (.ops [⟨some 27, none, .prim (.mov (.tmp 5))⟩,
      ⟨some 28, none, .call (.func 39) [(.tmp 27)]⟩])
    (.seq (.ops [⟨some 29, none, .prim (.mov (.tmp 5))⟩,
      ⟨some 4, none, .prim (.mov (.tmp 29))⟩])
    (.ghost (.shut 4) .ret))))))
def o21 : List Tmp := []
def r21 : List RV := [.tmp 4]
theorem t21 : Text Tryz.prog 21 o21 c21 r21 30 := ⟨⟨Tryz.f21, _, by kernel_rfl, by kernel_rfl, rfl, by kernel_rfl, by kernel_rfl, rfl⟩, by kernel_rfl⟩

/-- sordine/sordinekeep.In -/
def c22 : ACode :=
  (.seq (.ops [⟨some 6, none, .prim (.mov (.const (Go.Value.int Go.IntKind.i64 0)))⟩])
    (.seq (.seq (.ops [⟨some 7, none, .prim (.mov (.tmp 0))⟩,
      ⟨some 8, none, .prim (.mov (.tmp 1))⟩,
      ⟨some 9, none, .prim (.bin false .geq (.tmp 7) (.tmp 8))⟩,
      ⟨some 10, none, .prim (.mov (.tmp 9))⟩,
      ⟨some 11, (some (10, true)), .prim (.mov (.tmp 0))⟩,
      ⟨some 12, (some (10, true)), .prim (.mov (.tmp 2))⟩,
      ⟨some 13, (some (10, true)), .prim (.bin false .leq (.tmp 11) (.tmp 12))⟩,
      ⟨some 14, none, .prim (.pick (.tmp 10) (.tmp 13) (.const (Go.Value.bool Bool.false)))⟩])
    (.cond (.tmp 14)
    (.seq (.ops [⟨some 15, none, .prim (.mov (.tmp 0))⟩,
      ⟨some 6, none, .prim (.mov (.tmp 15))⟩])
    .ret)
    .skip))
    (.seq (.ops [⟨some 16, none, .prim (.mov (.tmp 0))⟩,
      ⟨some 17, none, .prim (.mov (.tmp 1))⟩,
      ⟨some 18, none, .prim (.mov (.tmp 2))⟩,
      ⟨some 19, none, .call (.func 40) [(.tmp 16), (.tmp 17), (.tmp 18)]⟩,
      ⟨some 6, none, .prim (.mov (.tmp 19))⟩])
    .ret)))
def o22 : List Tmp := []
def r22 : List RV := [.tmp 6]
theorem t22 : Text Tryz.prog 22 o22 c22 r22 20 := ⟨⟨Tryz.f22, _, by kernel_rfl, by kernel_rfl, rfl, by kernel_rfl, by kernel_rfl, rfl⟩, by kernel_rfl⟩

/-- sordine/req.Body -/
def c23 : ACode :=
  (.seq (.ops [⟨some 1, none, .prim (.boxr (.tmp 0))⟩,
      ⟨some 2, none, .prim (.mov (.const (Go.Value.slice Option.none 0 0)))⟩])
    (.seq (.seq (.ops [⟨some 7, none, .prim (.load 19 true (.tmp 1))⟩,
      ⟨some 8, none, .call (.func 41) [(.tmp 7)]⟩,
      ⟨some 9, none, .prim (.un .not (.tmp 8))⟩])
    (.cond (.tmp 9)
    (.seq (.ops [⟨some 2, none, .prim (.mov (.const (Go.Value.slice Option.none 0 0)))⟩])
    (.ghost (.shut 2) .ret))
    .skip))
    (.seq (.ops [⟨some 10, none, .prim (.fadr 1 (.tmp 1))⟩,
      ⟨some 11, none, .prim (.load 1 false (.tmp 10))⟩,
      ⟨some 12, none, .prim (.convi .u8 (.tmp 11))⟩,
      ⟨some 13, none, .prim (.bsl true 1 false 1 [.pl (.int .u8 0)] [(0, 1, (.tmp 12))])⟩,
      ⟨some 3, none, .prim (.allocm [.nils])⟩,
      ⟨none, none, .prim (.store 1 (.tmp 3) (.tmp 13))⟩])
    (.seq (.ops [⟨some 15, none, .prim (.fadr 1 (.tmp 1))⟩,
      ⟨some 16, none, .prim (.load 1 false (.tmp 15))⟩,
      ⟨some 17, none, .call (.func 42) [(.tmp 16)]⟩,
      ⟨some 14, none, .prim (.mov (.tmp 17))⟩,
      ⟨some 18, none, .prim (.extr 0 (.tmp 14))⟩,
      ⟨some 19, none, .prim (.extr 1 (.tmp 14))⟩,
      ⟨some 4, none, .fresh 1 4 (.tmp 18)⟩,
      ⟨some 5, none, .prim (.mov (.tmp 19))⟩])
    (.seq (.ops [⟨some 20, none, .prim (.mkfn 43 [] [(.tmp 4), (.tmp 3)])⟩,
      ⟨some 6, none, .prim (.mov (.tmp 20))⟩])
    (.seq (.ops [⟨some 21, none, .prim (.mov (.tmp 6))⟩,
      ⟨some 22, none, .prim (.fadr 2 (.tmp 1))⟩,
      ⟨some 23, none, .prim (.load 1 false (.tmp 22))⟩,
      ⟨some 24, none, .prim (.convi .u64 (.tmp 23))⟩,
      ⟨some 25, none, .call (.func 45) [(.tmp 24)]⟩,
      ⟨some 26, none, .prim (.bsl false 1 false 1 [.nils] [(0, 1, (.tmp 25))])⟩,
      ⟨some 27, none, .call (.tmp 21) [(.const (Go.Value.int Go.IntKind.i64 1)), (.tmp 26)]⟩])
    (.seq (.ops [⟨some 28, none, .prim (.mov (.tmp 6))⟩,
      ⟨some 29, none, .prim (.fadr 3 (.tmp 1))⟩,
      ⟨some 30, none, .prim (.load 1 false (.tmp 29))⟩,
      ⟨some 31, none, .call (.func 46) [(.tmp 30)]⟩,
      ⟨some 32, none, .prim (.bsl false 1 false 1 [.nils] [(0, 1, (.tmp 31))])⟩,
      ⟨some 33, none, .call (.tmp 28) [(.const (Go.Value.int Go.IntKind.i64 2)), (.tmp 32)]⟩])
    (.seq (.draw [⟨⟨some 34, none, .prim (.mov (.tmp 6))⟩, [], false, 0, 2⟩,
      ⟨⟨some 35, none, .prim (.fadr 4 (.tmp 1))⟩, [], false, 0, 0⟩,
      ⟨⟨some 36, none, .prim (.load 1 false (.tmp 35))⟩, [1], false, 0, 0⟩,
      ⟨⟨some 37, none, .call (.func 45) [(.tmp 36)]⟩, [1, 2], true, 0, 0⟩,
      ⟨⟨some 38, none, .prim (.fadr 5 (.tmp 1))⟩, [], false, 0, 1⟩,
      ⟨⟨some 39, none, .prim (.load 1 false (.tmp 38))⟩, [4], false, 0, 1⟩,
      ⟨⟨some 40, none, .call (.func 45) [(.tmp 39)]⟩, [1, 2, 3, 4, 5], true, 0, 0⟩,
      ⟨⟨some 41, none, .prim (.bsl false 1 false 2 [.nils] [(0, 1, (.tmp 37)), (1, 1, (.tmp 40))])⟩, [1, 2, 3, 4, 5, 6], false, 2, 2⟩,
      ⟨⟨some 42, none, .call (.tmp 34) [(.const (Go.Value.int Go.IntKind.i64 4)), (.tmp 41)]⟩, [0, 1, 2, 3, 4, 5, 6, 7], true, 0, 0⟩])
    (.seq (.ops [⟨some 43, none, .prim (.mov (.tmp 6))⟩,
      ⟨some 44, none, .prim (.fadr 6 (.tmp 1))⟩,
      ⟨some 45, none, .prim (.load 1 false (.tmp 44))⟩,
      ⟨some 46, none, .prim (.convi .u8 (.tmp 45))⟩,
      ⟨some 47, none, .prim (.bsl false 1 false 1 [.pl (.int .u8 0)] [(0, 1, (.tmp 46))])⟩,
      ⟨some 48, none, .prim (.bsl false 1 false 1 [.nils] [(0, 1, (.tmp 47))])⟩,
      ⟨some 49, none, .call (.tmp 43) [(.const (Go.Value.int Go.IntKind.i64 8)), (.tmp 48)]⟩])
    (.seq (.ops [⟨some 50, none, .prim (.mov (.tmp 6))⟩,
      ⟨some 51, none, .prim (.fadr 7 (.tmp 1))⟩,
      ⟨some 52, none, .prim (.load 1 false (.tmp 51))⟩,
      ⟨some 53, none, .call (.func 47) [(.tmp 52)]⟩,
      ⟨some 54, none, .prim (.bsl false 1 false 1 [.nils] [(0, 1, (.tmp 53))])⟩,
      ⟨some 55, none, .call (.tmp 50) [(.const (Go.Value.int Go.IntKind.i64 16)), (.tmp 54)]⟩])
    (.seq (.ops [⟨some 56, none, .prim (.mov (.tmp 6))⟩,
      ⟨some 57, none, .prim (.fadr 8 (.tmp 1))⟩,
      ⟨some 58, none, .prim (.load 3 true (.tmp 57))⟩,
      ⟨some 59, none, .call (.func 48) [(.tmp 58)]⟩,
      ⟨some 60, none, .prim (.bsl false 1 false 1 [.nils] [(0, 1, (.tmp 59))])⟩,
      ⟨some 61, none, .call (.tmp 56) [(.const (Go.Value.int Go.IntKind.i64 64)), (.tmp 60)]⟩])
    (.seq (.ops [⟨some 62, none, .prim (.mov (.tmp 6))⟩,
      ⟨some 63, none, .prim (.fadr 11 (.tmp 1))⟩,
      ⟨some 64, none, .prim (.load 6 true (.tmp 63))⟩,
      ⟨some 65, none, .call (.func 49) [(.tmp 64)]⟩,
      ⟨some 66, none, .prim (.bsl false 1 false 1 [.nils] [(0, 1, (.tmp 65))])⟩,
      ⟨some 67, none, .call (.tmp 62) [(.const (Go.Value.int Go.IntKind.i64 128)), (.tmp 66)]⟩])
    (.seq (.ops [⟨some 68, none, .prim (.mov (.tmp 6))⟩,
      ⟨some 69, none, .prim (.fadr 17 (.tmp 1))⟩,
      ⟨some 70, none, .prim (.load 1 false (.tmp 69))⟩,
      ⟨some 71, none, .call (.func 50) [(.tmp 70)]⟩,
      ⟨some 72, none, .prim (.bsl false 1 false 1 [.nils] [(0, 1, (.tmp 71))])⟩,
      ⟨some 73, none, .call (.tmp 68) [(.const (Go.Value.int Go.IntKind.i64 256)), (.tmp 72)]⟩])
    (.seq (.ops [⟨some 74, none, .prim (.mov (.tmp 6))⟩,
      ⟨some 75, none, .prim (.fadr 18 (.tmp 1))⟩,
      ⟨some 76, none, .prim (.load 1 false (.tmp 75))⟩,
      ⟨some 77, none, .call (.func 52) [(.tmp 76)]⟩,
      ⟨some 78, none, .call (.func 51) [(.tmp 77)]⟩,
      ⟨some 79, none, .prim (.bsl false 1 false 1 [.nils] [(0, 1, (.tmp 78))])⟩,
      ⟨some 80, none, .call (.tmp 74) [(.const (Go.Value.int Go.IntKind.i64 512)), (.tmp 79)]⟩])
    (.seq (.ops [⟨some 81, none, .prim (.load 1 false (.tmp 3))⟩,
      ⟨some 2, none, .prim (.mov (.tmp 81))⟩])
    (.ghost (.shut 2) .ret))))))))))))))))
def o23 : List Tmp := [3, 13]
def r23 : List RV := [.tmp 2]
theorem t23 : Text Tryz.prog 23 o23 c23 r23 82 := ⟨⟨Tryz.f23, _, by kernel_rfl, by kernel_rfl, rfl, by kernel_rfl, by kernel_rfl, rfl⟩, by kernel_rfl⟩

/-- (*sordine/chain.Chain).Full -/
def c24 : ACode :=
  (.seq (.ops [⟨some 2, none, .prim (.mov (.const (Go.Value.bool Bool.false)))⟩])
    (.seq (.draw [⟨⟨some 3, none, .prim (.mov (.tmp 0))⟩, [], false, 0, 0⟩,
      ⟨⟨some 4, none, .prim (.nilc (.tmp 3))⟩, [0], false, 0, 0⟩,
      ⟨⟨some 5, none, .prim (.fadr 1 (.tmp 4))⟩, [0, 1], false, 0, 0⟩,
      ⟨⟨some 6, none, .prim (.load 1 false (.tmp 5))⟩, [0, 1, 2], false, 0, 0⟩,
      ⟨⟨some 7, none, .prim (.lenv (.tmp 6))⟩, [0, 1, 2, 3], false, 0, 0⟩,
      ⟨⟨some 8, none, .prim (.mov (.tmp 0))⟩, [], false, 0, 0⟩,
      ⟨⟨some 9, none, .prim (.nilc (.tmp 8))⟩, [5], false, 0, 0⟩,
      ⟨⟨some 10, none, .prim (.fadr 0 (.tmp 9))⟩, [5, 6], false, 0, 0⟩,
      ⟨⟨some 11, none, .prim (.load 1 false (.tmp 10))⟩, [5, 6, 7], false, 0, 0⟩,
      ⟨⟨some 12, none, .prim (.bin false .geq (.tmp 7) (.tmp 11))⟩, [0, 1, 2, 3, 4, 5, 6, 7, 8], false, 0, 0⟩,
      ⟨⟨some 2, none, .prim (.mov (.tmp 12))⟩, [0, 1, 2, 3, 4, 5, 6, 7, 8, 9], false, 0, 0⟩])
    .ret))
def o24 : List Tmp := []
def r24 : List RV := [.tmp 2]
theorem t24 : Text Tryz.prog 24 o24 c24 r24 13 := ⟨⟨Tryz.f24, _, by kernel_rfl, by kernel_rfl, rfl, by kernel_rfl, by kernel_rfl, rfl⟩, by kernel_rfl⟩

/-- sordine/req.Reads -/
def c25 : ACode :=
  (.seq (.ops [⟨some 2, none, .prim (.mov (.const (Go.Value.bool Bool.false)))⟩])
    (.seq (.seq (.ops [⟨some 3, none, .prim (.mov (.tmp 0))⟩])
    (.block 0 (.seq (.seq (.ops [⟨some 5, none, .prim (.bin false .eql (.tmp 3) (.const (Go.Value.int Go.IntKind.i64 8)))⟩,
      ⟨some 4, none, .prim (.mov (.tmp 5))⟩])
    (.cond (.tmp 4)
    .skip
    (.seq (.ops [⟨some 6, none, .prim (.bin false .eql (.tmp 3) (.const (Go.Value.int Go.IntKind.i64 13)))⟩,
      ⟨some 4, none, .prim (.mov (.tmp 6))⟩])
    (.cond (.tmp 4)
    .skip
    (.seq (.ops [⟨some 7, none, .prim (.bin false .eql (.tmp 3) (.const (Go.Value.int Go.IntKind.i64 14)))⟩,
      ⟨some 4, none, .prim (.mov (.tmp 7))⟩])
    (.cond (.tmp 4)
    .skip
    (.seq (.ops [⟨some 8, none, .prim (.bin false .eql (.tmp 3) (.const (Go.Value.int Go.IntKind.i64 15)))⟩,
      ⟨some 4, none, .prim (.mov (.tmp 8))⟩])
    (.cond (.tmp 4)
    .skip
    (.seq (.ops [⟨some 9, none, .prim (.bin false .eql (.tmp 3) (.const (Go.Value.int Go.IntKind.i64 16)))⟩,
      ⟨some 4, none, .prim (.mov (.tmp 9))⟩])
    (.cond (.tmp 4)
    .skip
    (.ops [⟨some 10, none, .prim (.bin false .eql (.tmp 3) (.const (Go.Value.int Go.IntKind.i64 17)))⟩,
      ⟨some 4, none, .prim (.mov (.tmp 10))⟩])))))))))))
    (.cond (.tmp 4)
    (.seq (.ops [⟨some 2, none, .prim (.mov (.const (Go.Value.bool Bool.true)))⟩])
    .ret)
    .skip))))
    (.seq (.ops [⟨some 2, none, .prim (.mov (.const (Go.Value.bool Bool.false)))⟩])
    .ret)))
def o25 : List Tmp := []
def r25 : List RV := [.tmp 2]
theorem t25 : Text Tryz.prog 25 o25 c25 r25 11 := ⟨⟨Tryz.f25, _, by kernel_rfl, by kernel_rfl, rfl, by kernel_rfl, by kernel_rfl, rfl⟩, by kernel_rfl⟩

/-- sordine/req.May -/
def c26 : ACode :=
  (.seq (.ops [⟨some 4, none, .prim (.mov (.const (Go.Value.bool Bool.false)))⟩])
    (.seq (.block 0 (.seq (.ops [⟨some 6, none, .prim (.mov (.tmp 0))⟩,
      ⟨some 7, none, .prim (.bin false .lss (.tmp 6) (.const (Go.Value.int Go.IntKind.i64 0)))⟩,
      ⟨some 5, none, .prim (.mov (.tmp 7))⟩])
    (.cond (.tmp 5)
    (.seq (.ops [⟨some 4, none, .prim (.mov (.const (Go.Value.bool Bool.false)))⟩])
    .ret)
    (.seq (.ops [⟨some 9, none, .prim (.mov (.tmp 1))⟩,
      ⟨some 10, none, .prim (.bin false .eql (.tmp 9) (.const (Go.Value.int Go.IntKind.i64 16)))⟩,
      ⟨some 11, none, .prim (.mov (.tmp 10))⟩,
      ⟨some 12, (some (11, false)), .prim (.mov (.tmp 1))⟩,
      ⟨some 13, (some (11, false)), .prim (.bin false .eql (.tmp 12) (.const (Go.Value.int Go.IntKind.i64 17)))⟩,
      ⟨some 14, none, .prim (.pick (.tmp 11) (.const (Go.Value.bool Bool.true)) (.tmp 13))⟩,
      ⟨some 8, none, .prim (.mov (.tmp 14))⟩])
    (.cond (.tmp 8)
    (.seq (.ops [⟨some 4, none, .prim (.mov (.const (Go.Value.bool Bool.true)))⟩])
    .ret)
    (.seq (.ops [⟨some 16, none, .prim (.mov (.tmp 0))⟩,
      ⟨some 17, none, .prim (.bin false .eql (.tmp 16) (.const (Go.Value.int Go.IntKind.i64 0)))⟩,
      ⟨some 15, none, .prim (.mov (.tmp 17))⟩])
    (.cond (.tmp 15)
    (.seq (.ops [⟨some 18, none, .prim (.mov (.tmp 1))⟩,
      ⟨some 19, none, .prim (.bin false .geq (.tmp 18) (.const (Go.Value.int Go.IntKind.i64 1)))⟩,
      ⟨some 20, none, .prim (.mov (.tmp 19))⟩,
      ⟨some 21, (some (20, true)), .prim (.mov (.tmp 1))⟩,
      ⟨some 22, (some (20, true)), .prim (.bin false .leq (.tmp 21) (.const (Go.Value.int Go.IntKind.i64 4)))⟩,
      ⟨some 23, none, .prim (.pick (.tmp 20) (.tmp 22) (.const (Go.Value.bool Bool.false)))⟩,
      ⟨some 4, none, .prim (.mov (.tmp 23))⟩])
    .ret)
    .skip)))))))
    (.seq (.ops [⟨some 24, none, .prim (.mov (.tmp 1))⟩,
      ⟨some 25, none, .prim (.bin false .geq (.tmp 24) (.const (Go.Value.int Go.IntKind.i64 5)))⟩,
      ⟨some 26, none, .prim (.mov (.tmp 25))⟩,
      ⟨some 27, (some (26, true)), .prim (.mov (.tmp 1))⟩,
      ⟨some 28, (some (26, true)), .prim (.bin false .leq (.tmp 27) (.const (Go.Value.int Go.IntKind.i64 15)))⟩,
      ⟨some 29, none, .prim (.pick (.tmp 26) (.tmp 28) (.const (Go.Value.bool Bool.false)))⟩,
      ⟨some 4, none, .prim (.mov (.tmp 29))⟩])
    .ret)))
def o26 : List Tmp := []
def r26 : List RV := [.tmp 4]
theorem t26 : Text Tryz.prog 26 o26 c26 r26 30 := ⟨⟨Tryz.f26, _, by kernel_rfl, by kernel_rfl, rfl, by kernel_rfl, by kernel_rfl, rfl⟩, by kernel_rfl⟩

/-- (*sordine/chain.Chain).Export -/
def c27 : ACode :=
  (.seq (.ops [⟨some 2, none, .prim (.mov (.const (Go.Value.slice Option.none 0 0)))⟩])
    (.seq (.ops [⟨some 6, none, .prim (.mov (.tmp 0))⟩,
      ⟨some 7, none, .prim (.nilc (.tmp 6))⟩,
      ⟨some 8, none, .prim (.fadr 1 (.tmp 7))⟩,
      ⟨some 9, none, .prim (.load 1 false (.tmp 8))⟩,
      ⟨some 10, none, .prim (.lenv (.tmp 9))⟩,
      ⟨some 11, none, .prim (.convi .u64 (.tmp 10))⟩,
      ⟨some 12, none, .call (.func 45) [(.tmp 11)]⟩,
      ⟨some 3, none, .prim (.mov (.tmp 12))⟩])
    (.seq (.seq (.ops [⟨some 13, none, .prim (.mov (.tmp 0))⟩,
      ⟨some 14, none, .prim (.nilc (.tmp 13))⟩,
      ⟨some 15, none, .prim (.fadr 1 (.tmp 14))⟩,
      ⟨some 16, none, .prim (.load 1 false (.tmp 15))⟩,
      ⟨some 17, none, .prim (.lenv (.tmp 16))⟩,
      ⟨some 18, none, .prim (.mov (.const (Go.Value.int Go.IntKind.i64 0)))⟩])
    (.block 0 (.loop [0, 1, 2, 4, 5, 6, 7, 8, 9, 10, 11, 12, 13, 14, 15, 19, 20, 21, 22, 23, 24, 25, 26, 27, 28, 29] (.seq (.ops [⟨some 19, none, .prim (.bin false .lss (.tmp 18) (.tmp 17))⟩])
    (.seq (.cond (.tmp 19)
    .skip
    (.exit 0))
    (.seq (.block 1 (.seq (.ops [⟨some 20, none, .prim (.iadrs 4 (.tmp 16) (.tmp 18))⟩,
      ⟨some 21, none, .prim (.load 4 true (.tmp 20))⟩,
      ⟨some 5, none, .fresh 4 5 (.tmp 21)⟩])
    (.ops [⟨some 22, none, .prim (.mov (.tmp 3))⟩,
      ⟨some 23, none, .prim (.load 4 true (.tmp 5))⟩,
      ⟨some 24, none, .call (.func 53) [(.tmp 23)]⟩,
      ⟨some 25, none, .prim (.b2s (.tmp 24))⟩,
      ⟨some 26, none, .call (.func 46) [(.tmp 25)]⟩,
      ⟨some 27, none, .prim (.app 1 (.tmp 22) (.tmp 26))⟩,
      ⟨some 3, none, .prim (.mov (.tmp 27))⟩])))
    (.ops [⟨some 28, none, .prim (.bin false .add (.tmp 18) (.const (Go.Value.int Go.IntKind.i64 1)))⟩,
      ⟨some 18, none, .prim (.mov (.tmp 28))⟩])))))))
    (.seq (.ops [⟨some 29, none, .prim (.mov (.tmp 3))⟩,
      ⟨some 2, none, .prim (.mov (.tmp 29))⟩])
    (.ghost (.shut 2) .ret)))))
def o27 : List Tmp := []
def r27 : List RV := [.tmp 2]
theorem t27 : Text Tryz.prog 27 o27 c27 r27 30 := ⟨⟨Tryz.f27, _, by kernel_rfl, by kernel_rfl, rfl, by kernel_rfl, by kernel_rfl, rfl⟩, by kernel_rfl⟩

/-- (*sordine/chain.Chain).Head -/
def c28 : ACode :=
  (.seq (.ops [⟨some 2, none, .prim (.allocm [.pl (.int .u8 0), .pl (.int .u8 0), .pl (.int .u8 0), .pl (.int .u8 0), .pl (.int .u8 0), .pl (.int .u8 0), .pl (.int .u8 0), .pl (.int .u8 0), .pl (.int .u8 0), .pl (.int .u8 0), .pl (.int .u8 0), .pl (.int .u8 0), .pl (.int .u8 0), .pl (.int .u8 0), .pl (.int .u8 0), .pl (.int .u8 0), .pl (.int .u8 0), .pl (.int .u8 0), .pl (.int .u8 0), .pl (.int .u8 0), .pl (.int .u8 0), .pl (.int .u8 0), .pl (.int .u8 0), .pl (.int .u8 0), .pl (.int .u8 0), .pl (.int .u8 0), .pl (.int .u8 0), .pl (.int .u8 0), .pl (.int .u8 0), .pl (.int .u8 0), .pl (.int .u8 0), .pl (.int .u8 0)])⟩])
    (.seq (.ops [⟨some 3, none, .prim (.mov (.tmp 0))⟩,
      ⟨some 4, none, .prim (.nilc (.tmp 3))⟩,
      ⟨some 5, none, .prim (.fadr 2 (.tmp 4))⟩,
      ⟨some 6, none, .prim (.load 32 true (.tmp 5))⟩,
      ⟨none, none, .prim (.store 32 (.tmp 2) (.tmp 6))⟩])
    .ret))
def o28 : List Tmp := [2]
def r28 : List RV := [.cell 2 32 true]
theorem t28 : Text Tryz.prog 28 o28 c28 r28 7 := ⟨⟨Tryz.f28, _, by kernel_rfl, by kernel_rfl, rfl, by kernel_rfl, by kernel_rfl, rfl⟩, by kernel_rfl⟩

/-- (*sordine/chain.Chain).Add -/
def c29 : ACode :=
  (.seq (.ops [⟨some 8, none, .prim (.mov (.const (Go.Value.bool Bool.false)))⟩])
    (.seq (.draw [⟨⟨some 10, none, .prim (.mov (.tmp 0))⟩, [], false, 0, 1⟩,
      ⟨⟨some 11, none, .prim (.nilc (.tmp 10))⟩, [0], false, 0, 1⟩,
      ⟨⟨some 12, none, .prim (.fadr 1 (.tmp 11))⟩, [0, 1], false, 0, 1⟩,
      ⟨⟨some 13, none, .prim (.load 1 false (.tmp 12))⟩, [0, 1, 2], false, 0, 1⟩,
      ⟨⟨some 14, none, .prim (.lenv (.tmp 13))⟩, [0, 1, 2, 3], false, 0, 1⟩,
      ⟨⟨some 15, none, .prim (.mov (.tmp 1))⟩, [], false, 0, 1⟩,
      ⟨⟨some 16, none, .prim (.mov (.tmp 2))⟩, [], false, 0, 1⟩,
      ⟨⟨some 17, none, .call (.func 54) [(.tmp 16)]⟩, [6], false, 0, 1⟩,
      ⟨⟨some 18, none, .prim (.mov (.tmp 3))⟩, [], false, 0, 1⟩,
      ⟨⟨some 19, none, .prim (.build [.pl (.int .i64 0), .pl (.int .u64 0), .nils, .pl (.int .i64 0)] [(0, 1, (.tmp 14)), (1, 1, (.tmp 15)), (2, 1, (.tmp 17)), (3, 1, (.tmp 18))])⟩, [0, 1, 2, 3, 4, 5, 6, 7, 8], false, 0, 1⟩,
      ⟨⟨some 9, none, .prim (.allocm [.pl (.int .i64 0), .pl (.int .u64 0), .nils, .pl (.int .i64 0)])⟩, [], true, 0, 0⟩,
      ⟨⟨none, none, .prim (.store 4 (.tmp 9) (.tmp 19))⟩, [0, 1, 2, 3, 4, 5, 6, 7, 8, 9, 10], true, 0, 0⟩])
    (.seq (.seq (.draw [⟨⟨some 20, none, .prim (.mov (.tmp 0))⟩, [], false, 0, 0⟩,
      ⟨⟨some 21, none, .call (.func 24) [(.tmp 20)]⟩, [0], true, 0, 0⟩,
      ⟨⟨some 22, none, .prim (.mov (.tmp 21))⟩, [0, 1], false, 1, 1⟩,
      ⟨⟨some 23, (some (22, false)), .prim (.load 4 true (.tmp 9))⟩, [0, 1, 2], false, 1, 1⟩,
      ⟨⟨some 24, (some (22, false)), .call (.func 55) [(.tmp 23)]⟩, [0, 1, 2, 3], true, 0, 0⟩,
      ⟨⟨some 25, (some (22, false)), .prim (.un .not (.tmp 24))⟩, [0, 1, 2, 3, 4], false, 2, 2⟩,
      ⟨⟨some 26, none, .prim (.pick (.tmp 22) (.const (Go.Value.bool Bool.true)) (.tmp 25))⟩, [0, 1, 2, 3, 4, 5], false, 2, 2⟩,
      ⟨⟨some 27, none, .prim (.mov (.tmp 26))⟩, [0, 1, 2, 3, 4, 5, 6], false, 2, 2⟩,
      ⟨⟨some 28, (some (27, false)), .prim (.mov (.tmp 0))⟩, [0, 1, 2, 3, 4, 5, 6, 7], false, 2, 2⟩,
      ⟨⟨some 29, (some (27, false)), .prim (.nilc (.tmp 28))⟩, [0, 1, 2, 3, 4, 5, 6, 7, 8], false, 2, 2⟩,
      ⟨⟨some 30, (some (27, false)), .prim (.fadr 1 (.tmp 29))⟩, [0, 1, 2, 3, 4, 5, 6, 7, 8, 9], false, 2, 2⟩,
      ⟨⟨some 31, (some (27, false)), .prim (.load 1 false (.tmp 30))⟩, [0, 1, 2, 3, 4, 5, 6, 7, 8, 9, 10], false, 2, 2⟩,
      ⟨⟨some 32, (some (27, false)), .prim (.lenv (.tmp 31))⟩, [0, 1, 2, 3, 4, 5, 6, 7, 8, 9, 10, 11], false, 2, 2⟩,
      ⟨⟨some 33, (some (27, false)), .prim (.bin false .gtr (.tmp 32) (.const (Go.Value.int Go.IntKind.i64 0)))⟩, [0, 1, 2, 3, 4, 5, 6, 7, 8, 9, 10, 11, 12], false, 2, 2⟩,
      ⟨⟨some 34, (some (27, false)), .prim (.mov (.tmp 33))⟩, [0, 1, 2, 3, 4, 5, 6, 7, 8, 9, 10, 11, 12, 13], false, 2, 2⟩,
      ⟨⟨some 35, (some (34, true)), .prim (.mov (.tmp 1))⟩, [0, 1, 2, 3, 4, 5, 6, 7, 8, 9, 10, 11, 12, 13, 14], false, 2, 2⟩,
      ⟨⟨some 36, (some (34, true)), .prim (.mov (.tmp 0))⟩, [0, 1, 2, 3, 4, 5, 6, 7, 8, 9, 10, 11, 12, 13, 14], false, 2, 2⟩,
      ⟨⟨some 37, (some (34, true)), .prim (.nilc (.tmp 36))⟩, [0, 1, 2, 3, 4, 5, 6, 7, 8, 9, 10, 11, 12, 13, 14, 16], false, 2, 2⟩,
      ⟨⟨some 38, (some (34, true)), .prim (.fadr 1 (.tmp 37))⟩, [0, 1, 2, 3, 4, 5, 6, 7, 8, 9, 10, 11, 12, 13, 14, 16, 17], false, 2, 2⟩,
      ⟨⟨some 39, (some (34, true)), .prim (.load 1 false (.tmp 38))⟩, [0, 1, 2, 3, 4, 5, 6, 7, 8, 9, 10, 11, 12, 13, 14, 16, 17, 18], false, 2, 2⟩,
      ⟨⟨some 40, (some (34, true)), .prim (.mov (.tmp 0))⟩, [0, 1, 2, 3, 4, 5, 6, 7, 8, 9, 10, 11, 12, 13, 14], false, 2, 2⟩,
      ⟨⟨some 41, (some (34, true)), .prim (.nilc (.tmp 40))⟩, [0, 1, 2, 3, 4, 5, 6, 7, 8, 9, 10, 11, 12, 13, 14, 20], false, 2, 2⟩,
      ⟨⟨some 42, (some (34, true)), .prim (.fadr 1 (.tmp 41))⟩, [0, 1, 2, 3, 4, 5, 6, 7, 8, 9, 10, 11, 12, 13, 14, 20, 21], false, 2, 2⟩,
      ⟨⟨some 43, (some (34, true)), .prim (.load 1 false (.tmp 42))⟩, [0, 1, 2, 3, 4, 5, 6, 7, 8, 9, 10, 11, 12, 13, 14, 20, 21, 22], false, 2, 2⟩,
      ⟨⟨some 44, (some (34, true)), .prim (.lenv (.tmp 43))⟩, [0, 1, 2, 3, 4, 5, 6, 7, 8, 9, 10, 11, 12, 13, 14, 20, 21, 22, 23], false, 2, 2⟩,
      ⟨⟨some 45, (some (34, true)), .prim (.bin false .sub (.tmp 44) (.const (Go.Value.int Go.IntKind.i64 1)))⟩, [0, 1, 2, 3, 4, 5, 6, 7, 8, 9, 10, 11, 12, 13, 14, 20, 21, 22, 23, 24], false, 2, 2⟩,
      ⟨⟨some 46, (some (34, true)), .prim (.iadrs 4 (.tmp 39) (.tmp 45))⟩, [0, 1, 2, 3, 4, 5, 6, 7, 8, 9, 10, 11, 12, 13, 14, 16, 17, 18, 19, 20, 21, 22, 23, 24, 25], false, 2, 2⟩,
      ⟨⟨some 47, (some (34, true)), .prim (.fadr 1 (.tmp 46))⟩, [0, 1, 2, 3, 4, 5, 6, 7, 8, 9, 10, 11, 12, 13, 14, 16, 17, 18, 19, 20, 21, 22, 23, 24, 25, 26], false, 2, 2⟩,
      ⟨⟨some 48, (some (34, true)), .prim (.load 1 false (.tmp 47))⟩, [0, 1, 2, 3, 4, 5, 6, 7, 8, 9, 10, 11, 12, 13, 14, 16, 17, 18, 19, 20, 21, 22, 23, 24, 25, 26, 27], false, 2, 2⟩,
      ⟨⟨some 49, (some (34, true)), .prim (.bin false .lss (.tmp 35) (.tmp 48))⟩, [0, 1, 2, 3, 4, 5, 6, 7, 8, 9, 10, 11, 12, 13, 14, 15, 16, 17, 18, 19, 20, 21, 22, 23, 24, 25, 26, 27, 28], false, 2, 2⟩,
      ⟨⟨some 50, (some (27, false)), .prim (.pick (.tmp 34) (.tmp 49) (.const (Go.Value.bool Bool.false)))⟩, [0, 1, 2, 3, 4, 5, 6, 7, 8, 9, 10, 11, 12, 13, 14, 15, 16, 17, 18, 19, 20, 21, 22, 23, 24, 25, 26, 27, 28, 29], false, 2, 2⟩,
      ⟨⟨some 51, none, .prim (.pick (.tmp 27) (.const (Go.Value.bool Bool.true)) (.tmp 50))⟩, [0, 1, 2, 3, 4, 5, 6, 7, 8, 9, 10, 11, 12, 13, 14, 15, 16, 17, 18, 19, 20, 21, 22, 23, 24, 25, 26, 27, 28, 29, 30], false, 2, 2⟩])
    (.cond (.tmp 51)
    (.seq (.ops [⟨some 8, none, .prim (.mov (.const (Go.Value.bool Bool.false)))⟩])
    .ret)
    .skip))
    (.seq (.draw [⟨⟨some 52, none, .prim (.mov (.tmp 0))⟩, [], false, 0, 1⟩,
      ⟨⟨some 53, none, .prim (.mov (.tmp 0))⟩, [], false, 0, 0⟩,
      ⟨⟨some 54, none, .prim (.nilc (.tmp 53))⟩, [1], false, 0, 0⟩,
      ⟨⟨some 55, none, .prim (.fadr 1 (.tmp 54))⟩, [1, 2], false, 0, 0⟩,
      ⟨⟨some 56, none, .prim (.load 1 false (.tmp 55))⟩, [1, 2, 3], false, 0, 0⟩,
      ⟨⟨some 57, none, .prim (.load 4 true (.tmp 9))⟩, [], false, 0, 0⟩,
      ⟨⟨some 58, none, .prim (.bsl false 4 true 1 [.pl (.int .i64 0), .pl (.int .u64 0), .nils, .pl (.int .i64 0)] [(0, 4, (.tmp 57))])⟩, [5], false, 0, 0⟩,
      ⟨⟨some 59, none, .prim (.app 4 (.tmp 56) (.tmp 58))⟩, [1, 2, 3, 4, 5, 6], true, 0, 0⟩,
      ⟨⟨some 60, none, .prim (.nilc (.tmp 52))⟩, [0, 1, 2, 3, 4, 5, 6, 7], false, 1, 1⟩,
      ⟨⟨some 61, none, .prim (.fadr 1 (.tmp 60))⟩, [0, 1, 2, 3, 4, 5, 6, 7, 8], false, 1, 1⟩,
      ⟨⟨none, none, .prim (.store 1 (.tmp 61) (.tmp 59))⟩, [0, 1, 2, 3, 4, 5, 6, 7, 8, 9], true, 0, 0⟩])
    (.seq (.draw [⟨⟨some 62, none, .prim (.mov (.tmp 0))⟩, [], false, 0, 3⟩,
      ⟨⟨some 63, none, .prim (.mov (.tmp 0))⟩, [], false, 0, 1⟩,
      ⟨⟨some 64, none, .prim (.nilc (.tmp 63))⟩, [1], false, 0, 1⟩,
      ⟨⟨some 65, none, .prim (.fadr 2 (.tmp 64))⟩, [1, 2], false, 0, 1⟩,
      ⟨⟨some 66, none, .prim (.load 32 true (.tmp 65))⟩, [1, 2, 3], false, 0, 1⟩,
      ⟨⟨some 67, none, .prim (.load 4 true (.tmp 9))⟩, [], false, 0, 0⟩,
      ⟨⟨some 68, none, .call (.func 53) [(.tmp 67)]⟩, [5], true, 0, 0⟩,
      ⟨⟨some 69, none, .call (.func 56) [(.tmp 66), (.tmp 68)]⟩, [1, 2, 3, 4, 5, 6], true, 0, 0⟩,
      ⟨⟨some 70, none, .call (.func 36) [(.tmp 69)]⟩, [1, 2, 3, 4, 5, 6, 7], true, 0, 0⟩,
      ⟨⟨some 71, none, .prim (.nilc (.tmp 62))⟩, [0, 1, 2, 3, 4, 5, 6, 7, 8], false, 3, 3⟩,
      ⟨⟨some 72, none, .prim (.fadr 2 (.tmp 71))⟩, [0, 1, 2, 3, 4, 5, 6, 7, 8, 9], false, 3, 3⟩,
      ⟨⟨none, none, .prim (.store 32 (.tmp 72) (.tmp 70))⟩, [0, 1, 2, 3, 4, 5, 6, 7, 8, 9, 10], true, 0, 0⟩])
    (.seq (.ops [⟨some 8, none, .prim (.mov (.const (Go.Value.bool Bool.true)))⟩])
    .ret))))))
def o29 : List Tmp := []
def r29 : List RV := [.tmp 8]
theorem t29 : Text Tryz.prog 29 o29 c29 r29 73 := ⟨⟨Tryz.f29, _, by kernel_rfl, by kernel_rfl, rfl, by kernel_rfl, by kernel_rfl, rfl⟩, by kernel_rfl⟩

/-- (*sordine/pool.Pool).Take -/
def c30 : ACode :=
  (.seq (.ops [⟨some 2, none, .prim (.mov (.const (Go.Value.int Go.IntKind.i64 0)))⟩,
      ⟨some 3, none, .prim (.mov (.const (Go.Value.bool Bool.false)))⟩])
    (.seq (.seq (.draw [⟨⟨some 4, none, .prim (.mov (.tmp 0))⟩, [], false, 0, 0⟩,
      ⟨⟨some 5, none, .prim (.nilc (.tmp 4))⟩, [0], false, 0, 0⟩,
      ⟨⟨some 6, none, .prim (.fadr 2 (.tmp 5))⟩, [0, 1], false, 0, 0⟩,
      ⟨⟨some 7, none, .prim (.load 1 false (.tmp 6))⟩, [0, 1, 2], false, 0, 0⟩,
      ⟨⟨some 8, none, .prim (.lenv (.tmp 7))⟩, [0, 1, 2, 3], false, 0, 0⟩,
      ⟨⟨some 9, none, .prim (.mov (.tmp 0))⟩, [], false, 0, 0⟩,
      ⟨⟨some 10, none, .prim (.nilc (.tmp 9))⟩, [5], false, 0, 0⟩,
      ⟨⟨some 11, none, .prim (.fadr 0 (.tmp 10))⟩, [5, 6], false, 0, 0⟩,
      ⟨⟨some 12, none, .prim (.load 1 false (.tmp 11))⟩, [5, 6, 7], false, 0, 0⟩,
      ⟨⟨some 13, none, .prim (.bin false .geq (.tmp 8) (.tmp 12))⟩, [0, 1, 2, 3, 4, 5, 6, 7, 8], false, 0, 0⟩,
      ⟨⟨some 14, none, .prim (.mov (.tmp 13))⟩, [0, 1, 2, 3, 4, 5, 6, 7, 8, 9], false, 0, 0⟩,
      ⟨⟨some 15, (some (14, false)), .prim (.mov (.tmp 0))⟩, [0, 1, 2, 3, 4, 5, 6, 7, 8, 9, 10], false, 0, 0⟩,
      ⟨⟨some 16, (some (14, false)), .prim (.nilc (.tmp 15))⟩, [0, 1, 2, 3, 4, 5, 6, 7, 8, 9, 10, 11], false, 0, 0⟩,
      ⟨⟨some 17, (some (14, false)), .prim (.fadr 1 (.tmp 16))⟩, [0, 1, 2, 3, 4, 5, 6, 7, 8, 9, 10, 11, 12], false, 0, 0⟩,
      ⟨⟨some 18, (some (14, false)), .prim (.load 1 false (.tmp 17))⟩, [0, 1, 2, 3, 4, 5, 6, 7, 8, 9, 10, 11, 12, 13], false, 0, 0⟩,
      ⟨⟨some 19, (some (14, false)), .prim (.bin false .eql (.tmp 18) (.const (Go.Value.int Go.IntKind.i64 2147483647)))⟩, [0, 1, 2, 3, 4, 5, 6, 7, 8, 9, 10, 11, 12, 13, 14], false, 0, 0⟩,
      ⟨⟨some 20, none, .prim (.pick (.tmp 14) (.const (Go.Value.bool Bool.true)) (.tmp 19))⟩, [0, 1, 2, 3, 4, 5, 6, 7, 8, 9, 10, 11, 12, 13, 14, 15], false, 0, 0⟩])
    (.cond (.tmp 20)
    (.seq (.ops [⟨some 2, none, .prim (.mov (.const (Go.Value.int Go.IntKind.i64 0)))⟩,
      ⟨some 3, none, .prim (.mov (.const (Go.Value.bool Bool.false)))⟩])
    .ret)
    .skip))
    (.seq (.ops [⟨some 21, none, .prim (.mov (.tmp 0))⟩,
      ⟨some 22, none, .prim (.nilc (.tmp 21))⟩,
      ⟨some 23, none, .prim (.fadr 1 (.tmp 22))⟩,
      ⟨some 24, none, .prim (.load 1 false (.tmp 23))⟩,
      ⟨some 25, none, .prim (.bin false .add (.tmp 24) (.const (Go.Value.int Go.IntKind.i64 1)))⟩,
      ⟨some 26, none, .prim (.nilc (.tmp 21))⟩,
      ⟨some 27, none, .prim (.fadr 1 (.tmp 26))⟩,
      ⟨none, none, .prim (.store 1 (.tmp 27) (.tmp 25))⟩])
    (.seq (.draw [⟨⟨some 28, none, .prim (.mov (.tmp 0))⟩, [], false, 0, 1⟩,
      ⟨⟨some 29, none, .prim (.mov (.tmp 0))⟩, [], false, 0, 0⟩,
      ⟨⟨some 30, none, .prim (.nilc (.tmp 29))⟩, [1], false, 0, 0⟩,
      ⟨⟨some 31, none, .prim (.fadr 2 (.tmp 30))⟩, [1, 2], false, 0, 0⟩,
      ⟨⟨some 32, none, .prim (.load 1 false (.tmp 31))⟩, [1, 2, 3], false, 0, 0⟩,
      ⟨⟨some 33, none, .prim (.mov (.tmp 0))⟩, [], false, 0, 0⟩,
      ⟨⟨some 34, none, .prim (.nilc (.tmp 33))⟩, [5], false, 0, 0⟩,
      ⟨⟨some 35, none, .prim (.fadr 1 (.tmp 34))⟩, [5, 6], false, 0, 0⟩,
      ⟨⟨some 36, none, .prim (.load 1 false (.tmp 35))⟩, [5, 6, 7], false, 0, 0⟩,
      ⟨⟨some 37, none, .prim (.bsl false 1 false 1 [.pl (.int .i64 0)] [(0, 1, (.tmp 36))])⟩, [5, 6, 7, 8], false, 0, 0⟩,
      ⟨⟨some 38, none, .prim (.app 1 (.tmp 32) (.tmp 37))⟩, [1, 2, 3, 4, 5, 6, 7, 8, 9], true, 0, 0⟩,
      ⟨⟨some 39, none, .prim (.nilc (.tmp 28))⟩, [0, 1, 2, 3, 4, 5, 6, 7, 8, 9, 10], false, 1, 1⟩,
      ⟨⟨some 40, none, .prim (.fadr 2 (.tmp 39))⟩, [0, 1, 2, 3, 4, 5, 6, 7, 8, 9, 10, 11], false, 1, 1⟩,
      ⟨⟨none, none, .prim (.store 1 (.tmp 40) (.tmp 38))⟩, [0, 1, 2, 3, 4, 5, 6, 7, 8, 9, 10, 11, 12], true, 0, 0⟩])
    (.seq (.ops [⟨some 41, none, .prim (.mov (.tmp 0))⟩,
      ⟨some 42, none, .prim (.nilc (.tmp 41))⟩,
      ⟨some 43, none, .prim (.fadr 1 (.tmp 42))⟩,
      ⟨some 44, none, .prim (.load 1 false (.tmp 43))⟩,
      ⟨some 2, none, .prim (.mov (.tmp 44))⟩,
      ⟨some 3, none, .prim (.mov (.const (Go.Value.bool Bool.true)))⟩])
    .ret)))))
def o30 : List Tmp := []
def r30 : List RV := [.tmp 2, .tmp 3]
theorem t30 : Text Tryz.prog 30 o30 c30 r30 45 := ⟨⟨Tryz.f30, _, by kernel_rfl, by kernel_rfl, rfl, by kernel_rfl, by kernel_rfl, rfl⟩, by kernel_rfl⟩

/-- (*sordine/pool.Pool).Give -/
def c31 : ACode :=
  (.seq (.ops [⟨some 4, none, .prim (.mov (.const (Go.Value.bool Bool.false)))⟩])
    (.seq (.seq (.ops [⟨some 5, none, .prim (.mov (.tmp 0))⟩,
      ⟨some 6, none, .prim (.mov (.tmp 1))⟩,
      ⟨some 7, none, .call (.func 57) [(.tmp 5), (.tmp 6)]⟩,
      ⟨some 8, none, .prim (.un .not (.tmp 7))⟩])
    (.cond (.tmp 8)
    (.seq (.ops [⟨some 4, none, .prim (.mov (.const (Go.Value.bool Bool.false)))⟩])
    .ret)
    .skip))
    (.seq (.ops [⟨some 9, none, .prim (.mov (.tmp 0))⟩,
      ⟨some 10, none, .prim (.mov (.tmp 0))⟩,
      ⟨some 11, none, .prim (.nilc (.tmp 10))⟩,
      ⟨some 12, none, .prim (.fadr 2 (.tmp 11))⟩,
      ⟨some 13, none, .prim (.load 1 false (.tmp 12))⟩,
      ⟨some 14, none, .prim (.mov (.tmp 1))⟩,
      ⟨some 15, none, .call (.func 58) [(.tmp 13), (.tmp 14)]⟩,
      ⟨some 16, none, .prim (.nilc (.tmp 9))⟩,
      ⟨some 17, none, .prim (.fadr 2 (.tmp 16))⟩,
      ⟨none, none, .prim (.store 1 (.tmp 17) (.tmp 15))⟩])
    (.seq (.ops [⟨some 4, none, .prim (.mov (.const (Go.Value.bool Bool.true)))⟩])
    .ret))))
def o31 : List Tmp := []
def r31 : List RV := [.tmp 4]
theorem t31 : Text Tryz.prog 31 o31 c31 r31 18 := ⟨⟨Tryz.f31, _, by kernel_rfl, by kernel_rfl, rfl, by kernel_rfl, by kernel_rfl, rfl⟩, by kernel_rfl⟩

/-- (*sordine/token.Table).Drop -/
def c32 : ACode :=
  (.seq (.ops [⟨some 3, none, .prim (.boxr (.tmp 1))⟩,
      ⟨some 4, none, .prim (.mov (.const (Go.Value.int Go.IntKind.i64 0)))⟩])
    (.seq (.ops [⟨some 6, none, .prim (.mov (.tmp 0))⟩,
      ⟨some 7, none, .prim (.nilc (.tmp 6))⟩,
      ⟨some 8, none, .prim (.fadr 1 (.tmp 7))⟩,
      ⟨some 9, none, .prim (.load 1 false (.tmp 8))⟩,
      ⟨some 10, none, .prim (.lenv (.tmp 9))⟩,
      ⟨some 5, none, .prim (.mov (.tmp 10))⟩])
    (.seq (.ops [⟨some 11, none, .prim (.mov (.tmp 0))⟩,
      ⟨some 12, none, .prim (.mov (.tmp 0))⟩,
      ⟨some 13, none, .prim (.nilc (.tmp 12))⟩,
      ⟨some 14, none, .prim (.fadr 1 (.tmp 13))⟩,
      ⟨some 15, none, .prim (.load 1 false (.tmp 14))⟩,
      ⟨some 16, none, .prim (.mkfn 60 [] [(.tmp 3)])⟩,
      ⟨some 17, none, .call (.func 59) [(.tmp 15), (.tmp 16)]⟩,
      ⟨some 18, none, .prim (.nilc (.tmp 11))⟩,
      ⟨some 19, none, .prim (.fadr 1 (.tmp 18))⟩,
      ⟨none, none, .prim (.store 1 (.tmp 19) (.tmp 17))⟩])
    (.seq (.ops [⟨some 20, none, .prim (.mov (.tmp 5))⟩,
      ⟨some 21, none, .prim (.mov (.tmp 0))⟩,
      ⟨some 22, none, .prim (.nilc (.tmp 21))⟩,
      ⟨some 23, none, .prim (.fadr 1 (.tmp 22))⟩,
      ⟨some 24, none, .prim (.load 1 false (.tmp 23))⟩,
      ⟨some 25, none, .prim (.lenv (.tmp 24))⟩,
      ⟨some 26, none, .prim (.bin false .sub (.tmp 20) (.tmp 25))⟩,
      ⟨some 4, none, .prim (.mov (.tmp 26))⟩])
    .ret))))
def o32 : List Tmp := []
def r32 : List RV := [.tmp 4]
theorem t32 : Text Tryz.prog 32 o32 c32 r32 27 := ⟨⟨Tryz.f32, _, by kernel_rfl, by kernel_rfl, rfl, by kernel_rfl, by kernel_rfl, rfl⟩, by kernel_rfl⟩

/-- (*sordine/desk.Desk).known -/
def c33 : ACode :=
  (.seq (.ops [⟨some 4, none, .prim (.mov (.const (Go.Value.bool Bool.false)))⟩])
    (.seq (.ops [⟨some 5, none, .prim (.mov (.tmp 1))⟩,
      ⟨some 6, none, .prim (.bin false .eql (.tmp 5) (.const (Go.Value.int Go.IntKind.i64 0)))⟩,
      ⟨some 7, none, .prim (.mov (.tmp 6))⟩,
      ⟨some 8, (some (7, false)), .prim (.mov (.tmp 0))⟩,
      ⟨some 9, (some (7, false)), .prim (.nilc (.tmp 8))⟩,
      ⟨some 10, (some (7, false)), .prim (.fadr 2 (.tmp 9))⟩,
      ⟨some 11, (some (7, false)), .prim (.load 1 false (.tmp 10))⟩,
      ⟨some 12, (some (7, false)), .prim (.mov (.tmp 1))⟩,
      ⟨some 13, (some (7, false)), .call (.func 57) [(.tmp 11), (.tmp 12)]⟩,
      ⟨some 14, none, .prim (.pick (.tmp 7) (.const (Go.Value.bool Bool.true)) (.tmp 13))⟩,
      ⟨some 4, none, .prim (.mov (.tmp 14))⟩])
    .ret))
def o33 : List Tmp := []
def r33 : List RV := [.tmp 4]
theorem t33 : Text Tryz.prog 33 o33 c33 r33 15 := ⟨⟨Tryz.f33, _, by kernel_rfl, by kernel_rfl, rfl, by kernel_rfl, by kernel_rfl, rfl⟩, by kernel_rfl⟩

/-- (*sordine/token.Table).Revoke -/
def c34 : ACode :=
  (.seq (.ops [⟨some 6, none, .prim (.mov (.const (Go.Value.int Go.IntKind.i64 0)))⟩])
    (.seq (.ops [⟨some 8, none, .prim (.mov (.tmp 0))⟩,
      ⟨some 9, none, .prim (.mov (.tmp 2))⟩,
      ⟨some 10, none, .call (.func 20) [(.tmp 8), (.tmp 9)]⟩,
      ⟨some 7, none, .prim (.mov (.tmp 10))⟩])
    (.seq (.seq (.ops [⟨some 11, none, .prim (.mov (.tmp 7))⟩,
      ⟨some 12, none, .prim (.bin false .lss (.tmp 11) (.const (Go.Value.int Go.IntKind.i64 0)))⟩,
      ⟨some 13, none, .prim (.mov (.tmp 12))⟩,
      ⟨some 14, (some (13, false)), .prim (.mov (.tmp 0))⟩,
      ⟨some 15, (some (13, false)), .prim (.nilc (.tmp 14))⟩,
      ⟨some 16, (some (13, false)), .prim (.fadr 1 (.tmp 15))⟩,
      ⟨some 17, (some (13, false)), .prim (.load 1 false (.tmp 16))⟩,
      ⟨some 18, (some (13, false)), .prim (.mov (.tmp 7))⟩,
      ⟨some 19, (some (13, false)), .prim (.iadrs 2 (.tmp 17) (.tmp 18))⟩,
      ⟨some 20, (some (13, false)), .prim (.fadr 1 (.tmp 19))⟩,
      ⟨some 21, (some (13, false)), .prim (.load 1 false (.tmp 20))⟩,
      ⟨some 22, (some (13, false)), .prim (.mov (.tmp 1))⟩,
      ⟨some 23, (some (13, false)), .prim (.bin false .neq (.tmp 21) (.tmp 22))⟩,
      ⟨some 24, none, .prim (.pick (.tmp 13) (.const (Go.Value.bool Bool.true)) (.tmp 23))⟩])
    (.cond (.tmp 24)
    (.seq (.ops [⟨some 6, none, .prim (.mov (.const (Go.Value.int Go.IntKind.i64 5)))⟩])
    .ret)
    .skip))
    (.seq (.seq (.ops [⟨some 25, none, .prim (.mov (.tmp 1))⟩,
      ⟨some 26, none, .prim (.bin false .eql (.tmp 25) (.const (Go.Value.int Go.IntKind.i64 0)))⟩,
      ⟨some 27, none, .prim (.mov (.tmp 26))⟩,
      ⟨some 28, (some (27, true)), .prim (.mov (.tmp 0))⟩,
      ⟨some 29, (some (27, true)), .call (.func 21) [(.tmp 28), (.const (Go.Value.int Go.IntKind.i64 0))]⟩,
      ⟨some 30, (some (27, true)), .prim (.lenv (.tmp 29))⟩,
      ⟨some 31, (some (27, true)), .prim (.bin false .eql (.tmp 30) (.const (Go.Value.int Go.IntKind.i64 1)))⟩,
      ⟨some 32, none, .prim (.pick (.tmp 27) (.tmp 31) (.const (Go.Value.bool Bool.false)))⟩])
    (.cond (.tmp 32)
    (.seq (.ops [⟨some 6, none, .prim (.mov (.const (Go.Value.int Go.IntKind.i64 6)))⟩])
    .ret)
    .skip))
    (.seq (.ops [⟨some 33, none, .prim (.mov (.tmp 0))⟩,
      ⟨some 34, none, .prim (.mov (.tmp 0))⟩,
      ⟨some 35, none, .prim (.nilc (.tmp 34))⟩,
      ⟨some 36, none, .prim (.fadr 1 (.tmp 35))⟩,
      ⟨some 37, none, .prim (.load 1 false (.tmp 36))⟩,
      ⟨some 38, none, .prim (.mov (.tmp 7))⟩,
      ⟨some 39, none, .prim (.mov (.tmp 7))⟩,
      ⟨some 40, none, .prim (.bin false .add (.tmp 39) (.const (Go.Value.int Go.IntKind.i64 1)))⟩,
      ⟨some 41, none, .call (.func 61) [(.tmp 37), (.tmp 38), (.tmp 40)]⟩,
      ⟨some 42, none, .prim (.nilc (.tmp 33))⟩,
      ⟨some 43, none, .prim (.fadr 1 (.tmp 42))⟩,
      ⟨none, none, .prim (.store 1 (.tmp 43) (.tmp 41))⟩])
    (.seq (.ops [⟨some 6, none, .prim (.mov (.const (Go.Value.int Go.IntKind.i64 0)))⟩])
    .ret))))))
def o34 : List Tmp := []
def r34 : List RV := [.tmp 6]
theorem t34 : Text Tryz.prog 34 o34 c34 r34 44 := ⟨⟨Tryz.f34, _, by kernel_rfl, by kernel_rfl, rfl, by kernel_rfl, by kernel_rfl, rfl⟩, by kernel_rfl⟩

/-- (*sordine/chain.Chain).Len -/
def c35 : ACode :=
  (.seq (.ops [⟨some 2, none, .prim (.mov (.const (Go.Value.int Go.IntKind.i64 0)))⟩])
    (.seq (.ops [⟨some 3, none, .prim (.mov (.tmp 0))⟩,
      ⟨some 4, none, .prim (.nilc (.tmp 3))⟩,
      ⟨some 5, none, .prim (.fadr 1 (.tmp 4))⟩,
      ⟨some 6, none, .prim (.load 1 false (.tmp 5))⟩,
      ⟨some 7, none, .prim (.lenv (.tmp 6))⟩,
      ⟨some 2, none, .prim (.mov (.tmp 7))⟩])
    .ret))
def o35 : List Tmp := []
def r35 : List RV := [.tmp 2]
theorem t35 : Text Tryz.prog 35 o35 c35 r35 8 := ⟨⟨Tryz.f35, _, by kernel_rfl, by kernel_rfl, rfl, by kernel_rfl, by kernel_rfl, rfl⟩, by kernel_rfl⟩

/-- sordine/sha.Of -/
def c36 : ACode :=
  (.seq (.ops [⟨some 2, none, .prim (.allocm [.pl (.int .u8 0), .pl (.int .u8 0), .pl (.int .u8 0), .pl (.int .u8 0), .pl (.int .u8 0), .pl (.int .u8 0), .pl (.int .u8 0), .pl (.int .u8 0), .pl (.int .u8 0), .pl (.int .u8 0), .pl (.int .u8 0), .pl (.int .u8 0), .pl (.int .u8 0), .pl (.int .u8 0), .pl (.int .u8 0), .pl (.int .u8 0), .pl (.int .u8 0), .pl (.int .u8 0), .pl (.int .u8 0), .pl (.int .u8 0), .pl (.int .u8 0), .pl (.int .u8 0), .pl (.int .u8 0), .pl (.int .u8 0), .pl (.int .u8 0), .pl (.int .u8 0), .pl (.int .u8 0), .pl (.int .u8 0), .pl (.int .u8 0), .pl (.int .u8 0), .pl (.int .u8 0), .pl (.int .u8 0)])⟩])
    (.seq (.ops [⟨some 7, none, .prim (.build [.pl (.int .u32 0), .pl (.int .u32 0), .pl (.int .u32 0), .pl (.int .u32 0), .pl (.int .u32 0), .pl (.int .u32 0), .pl (.int .u32 0), .pl (.int .u32 0)] [(0, 1, (.const (Go.Value.int Go.IntKind.u32 1779033703))), (1, 1, (.const (Go.Value.int Go.IntKind.u32 3144134277))), (2, 1, (.const (Go.Value.int Go.IntKind.u32 1013904242))), (3, 1, (.const (Go.Value.int Go.IntKind.u32 2773480762))), (4, 1, (.const (Go.Value.int Go.IntKind.u32 1359893119))), (5, 1, (.const (Go.Value.int Go.IntKind.u32 2600822924))), (6, 1, (.const (Go.Value.int Go.IntKind.u32 528734635))), (7, 1, (.const (Go.Value.int Go.IntKind.u32 1541459225)))])⟩,
      ⟨some 3, none, .prim (.allocm [.pl (.int .u32 0), .pl (.int .u32 0), .pl (.int .u32 0), .pl (.int .u32 0), .pl (.int .u32 0), .pl (.int .u32 0), .pl (.int .u32 0), .pl (.int .u32 0)])⟩,
      ⟨none, none, .prim (.store 8 (.tmp 3) (.tmp 7))⟩])
    (.seq (.seq (.ops [⟨some 8, none, .prim (.mov (.tmp 0))⟩,
      ⟨some 9, none, .call (.func 62) [(.tmp 8)]⟩,
      ⟨some 4, none, .prim (.mov (.tmp 9))⟩])
    (.block 0 (.loop [0, 1, 5, 6, 7, 8, 9, 10, 11, 12, 13, 14, 15, 16, 17, 18, 19, 20, 21, 22, 23, 24, 25, 26, 27, 28, 29, 30, 31, 32, 33, 34, 35, 36, 37] (.seq (.seq (.ops [⟨some 10, none, .prim (.mov (.tmp 4))⟩,
      ⟨some 11, none, .prim (.lenv (.tmp 10))⟩,
      ⟨some 12, none, .prim (.bin false .gtr (.tmp 11) (.const (Go.Value.int Go.IntKind.i64 0)))⟩])
    (.cond (.tmp 12)
    .skip
    (.exit 0)))
    (.seq (.block 1 (.draw [⟨⟨some 15, none, .prim (.load 8 true (.tmp 3))⟩, [], false, 0, 0⟩,
      ⟨⟨some 16, none, .prim (.mov (.tmp 4))⟩, [], false, 0, 0⟩,
      ⟨⟨some 17, none, .prim (.slcv 1 (.tmp 16) none (some (.const (Go.Value.int Go.IntKind.i64 64))))⟩, [1], false, 0, 0⟩,
      ⟨⟨some 18, none, .prim (.arrp 64 (.tmp 17))⟩, [1, 2], false, 0, 0⟩,
      ⟨⟨some 19, none, .prim (.load 64 true (.tmp 18))⟩, [1, 2, 3], false, 0, 0⟩,
      ⟨⟨some 20, none, .call (.func 63) [(.tmp 15), (.tmp 19)]⟩, [0, 1, 2, 3, 4], true, 0, 0⟩,
      ⟨⟨none, none, .prim (.store 8 (.tmp 3) (.tmp 20))⟩, [0, 1, 2, 3, 4, 5], true, 0, 0⟩]))
    (.ops [⟨some 13, none, .prim (.mov (.tmp 4))⟩,
      ⟨some 14, none, .prim (.slcv 1 (.tmp 13) (some (.const (Go.Value.int Go.IntKind.i64 64))) none)⟩,
      ⟨some 4, none, .prim (.mov (.tmp 14))⟩]))))))
    (.seq (.ops [⟨some 5, none, .prim (.allocm [.pl (.int .u8 0), .pl (.int .u8 0), .pl (.int .u8 0), .pl (.int .u8 0), .pl (.int .u8 0), .pl (.int .u8 0), .pl (.int .u8 0), .pl (.int .u8 0), .pl (.int .u8 0), .pl (.int .u8 0), .pl (.int .u8 0), .pl (.int .u8 0), .pl (.int .u8 0), .pl (.int .u8 0), .pl (.int .u8 0), .pl (.int .u8 0), .pl (.int .u8 0), .pl (.int .u8 0), .pl (.int .u8 0), .pl (.int .u8 0), .pl (.int .u8 0), .pl (.int .u8 0), .pl (.int .u8 0), .pl (.int .u8 0), .pl (.int .u8 0), .pl (.int .u8 0), .pl (.int .u8 0), .pl (.int .u8 0), .pl (.int .u8 0), .pl (.int .u8 0), .pl (.int .u8 0), .pl (.int .u8 0)])⟩])
    (.seq (.seq (.ops [⟨some 21, none, .prim (.mov (.const (Go.Value.int Go.IntKind.i64 0)))⟩])
    (.block 2 (.loop [0, 1, 4, 6, 7, 8, 9, 10, 11, 12, 13, 14, 15, 16, 17, 18, 19, 20, 22, 23, 24, 25, 26, 27, 28, 29, 30, 31, 32, 33, 34, 35, 36, 37] (.seq (.ops [⟨some 22, none, .prim (.bin false .lss (.tmp 21) (.const (Go.Value.int Go.IntKind.i64 32)))⟩])
    (.seq (.cond (.tmp 22)
    .skip
    (.exit 2))
    (.seq (.block 3 (.seq (.ops [⟨some 23, none, .prim (.mov (.tmp 21))⟩,
      ⟨some 6, none, .prim (.mov (.tmp 23))⟩])
    (.ops [⟨some 24, none, .prim (.mov (.tmp 6))⟩,
      ⟨some 25, none, .prim (.mov (.tmp 6))⟩,
      ⟨some 26, none, .prim (.bin false .quo (.tmp 25) (.const (Go.Value.int Go.IntKind.i64 4)))⟩,
      ⟨some 27, none, .prim (.iadra 1 8 (.tmp 3) (.tmp 26))⟩,
      ⟨some 28, none, .prim (.load 1 false (.tmp 27))⟩,
      ⟨some 29, none, .prim (.mov (.tmp 6))⟩,
      ⟨some 30, none, .prim (.bin false .rem (.tmp 29) (.const (Go.Value.int Go.IntKind.i64 4)))⟩,
      ⟨some 31, none, .prim (.bin false .mul (.const (Go.Value.int Go.IntKind.i64 8)) (.tmp 30))⟩,
      ⟨some 32, none, .prim (.bin false .sub (.const (Go.Value.int Go.IntKind.i64 24)) (.tmp 31))⟩,
      ⟨some 33, none, .prim (.bin false .shr (.tmp 28) (.tmp 32))⟩,
      ⟨some 34, none, .prim (.convi .u8 (.tmp 33))⟩,
      ⟨some 35, none, .prim (.iadra 1 32 (.tmp 5) (.tmp 24))⟩,
      ⟨none, none, .prim (.store 1 (.tmp 35) (.tmp 34))⟩])))
    (.ops [⟨some 36, none, .prim (.bin false .add (.tmp 21) (.const (Go.Value.int Go.IntKind.i64 1)))⟩,
      ⟨some 21, none, .prim (.mov (.tmp 36))⟩])))))))
    (.seq (.ops [⟨some 37, none, .prim (.load 32 true (.tmp 5))⟩,
      ⟨none, none, .prim (.store 32 (.tmp 2) (.tmp 37))⟩])
    .ret))))))
def o36 : List Tmp := [2, 3, 5]
def r36 : List RV := [.cell 2 32 true]
theorem t36 : Text Tryz.prog 36 o36 c36 r36 38 := ⟨⟨Tryz.f36, _, by kernel_rfl, by kernel_rfl, rfl, by kernel_rfl, by kernel_rfl, rfl⟩, by kernel_rfl⟩

/-- sordine/chain.Genesis -/
def c37 : ACode :=
  (.seq (.ops [⟨some 2, none, .prim (.mov (.const (Go.Value.slice Option.none 0 0)))⟩])
    (.seq (.ops [⟨some 3, none, .prim (.bsl true 1 false 1 [.pl (.int .u8 0)] [(0, 1, (.const (Go.Value.int Go.IntKind.u8 0)))])⟩,
      ⟨some 4, none, .prim (.mov (.tmp 0))⟩,
      ⟨some 5, none, .prim (.convi .u64 (.tmp 4))⟩,
      ⟨some 6, none, .call (.func 51) [(.tmp 5)]⟩,
      ⟨some 7, none, .prim (.app 1 (.tmp 3) (.tmp 6))⟩,
      ⟨some 2, none, .prim (.mov (.tmp 7))⟩])
    (.ghost (.shut 2) .ret)))
def o37 : List Tmp := [3]
def r37 : List RV := [.tmp 2]
theorem t37 : Text Tryz.prog 37 o37 c37 r37 8 := ⟨⟨Tryz.f37, _, by kernel_rfl, by kernel_rfl, rfl, by kernel_rfl, by kernel_rfl, rfl⟩, by kernel_rfl⟩

/-- sordine/token.Equal -/
def c38 : ACode :=
  (.seq (.ops [⟨some 4, none, .prim (.mov (.const (Go.Value.bool Bool.false)))⟩])
    (.seq (.seq (.ops [⟨some 7, none, .prim (.mov (.tmp 0))⟩,
      ⟨some 8, none, .prim (.lens (.tmp 7))⟩,
      ⟨some 9, none, .prim (.mov (.tmp 1))⟩,
      ⟨some 10, none, .prim (.lens (.tmp 9))⟩,
      ⟨some 11, none, .prim (.bin false .neq (.tmp 8) (.tmp 10))⟩])
    (.cond (.tmp 11)
    (.seq (.ops [⟨some 4, none, .prim (.mov (.const (Go.Value.bool Bool.false)))⟩])
    .ret)
    .skip))
    (.seq (.ops [⟨some 5, none, .prim (.mov (.const (Go.Value.int Go.IntKind.u8 0)))⟩])
    (.seq (.seq (.ops [⟨some 12, none, .prim (.mov (.tmp 0))⟩,
      ⟨some 13, none, .prim (.lens (.tmp 12))⟩,
      ⟨some 14, none, .prim (.mov (.const (Go.Value.int Go.IntKind.i64 0)))⟩])
    (.block 0 (.loop [2, 3, 4, 6, 7, 8, 9, 10, 11, 12, 15, 16, 17, 18, 19, 20, 21, 22, 23, 24, 25, 26, 27, 28] (.seq (.ops [⟨some 15, none, .prim (.bin false .lss (.tmp 14) (.tmp 13))⟩])
    (.seq (.cond (.tmp 15)
    .skip
    (.exit 0))
    (.seq (.block 1 (.seq (.ops [⟨some 16, none, .prim (.mov (.tmp 14))⟩,
      ⟨some 6, none, .prim (.mov (.tmp 16))⟩])
    (.draw [⟨⟨some 17, none, .prim (.mov (.tmp 5))⟩, [], false, 0, 0⟩,
      ⟨⟨some 18, none, .prim (.mov (.tmp 0))⟩, [], false, 0, 0⟩,
      ⟨⟨some 19, none, .prim (.mov (.tmp 6))⟩, [], false, 0, 0⟩,
      ⟨⟨some 20, none, .prim (.idxs (.tmp 18) (.tmp 19))⟩, [1, 2], false, 0, 0⟩,
      ⟨⟨some 21, none, .prim (.mov (.tmp 1))⟩, [], false, 0, 0⟩,
      ⟨⟨some 22, none, .prim (.mov (.tmp 6))⟩, [], false, 0, 0⟩,
      ⟨⟨some 23, none, .prim (.idxs (.tmp 21) (.tmp 22))⟩, [4, 5], false, 0, 0⟩,
      ⟨⟨some 24, none, .prim (.bin false .xor (.tmp 20) (.tmp 23))⟩, [1, 2, 3, 4, 5, 6], false, 0, 0⟩,
      ⟨⟨some 25, none, .prim (.bin false .or (.tmp 17) (.tmp 24))⟩, [0, 1, 2, 3, 4, 5, 6, 7], false, 0, 0⟩,
      ⟨⟨some 5, none, .prim (.mov (.tmp 25))⟩, [0, 1, 2, 3, 4, 5, 6, 7, 8], false, 0, 0⟩])))
    (.ops [⟨some 26, none, .prim (.bin false .add (.tmp 14) (.const (Go.Value.int Go.IntKind.i64 1)))⟩,
      ⟨some 14, none, .prim (.mov (.tmp 26))⟩])))))))
    (.seq (.ops [⟨some 27, none, .prim (.mov (.tmp 5))⟩,
      ⟨some 28, none, .prim (.bin false .eql (.tmp 27) (.const (Go.Value.int Go.IntKind.u8 0)))⟩,
      ⟨some 4, none, .prim (.mov (.tmp 28))⟩])
    .ret)))))
def o38 : List Tmp := []
def r38 : List RV := [.tmp 4]
theorem t38 : Text Tryz.prog 38 o38 c38 r38 29 := ⟨⟨Tryz.f38, _, by kernel_rfl, by kernel_rfl, rfl, by kernel_rfl, by kernel_rfl, rfl⟩, by kernel_rfl⟩

/-- slices.Sort[[]string,string] -/
def c39 : ACode :=
  (.seq (.ops [⟨some 3, none, .prim (.mov (.tmp 0))⟩,
      ⟨some 4, none, .prim (.lenv (.tmp 3))⟩,
      ⟨some 2, none, .prim (.mov (.tmp 4))⟩])
    (.ops [⟨some 5, none, .prim (.mov (.tmp 0))⟩,
      ⟨some 6, none, .prim (.mov (.tmp 2))⟩,
      ⟨some 7, none, .prim (.mov (.tmp 2))⟩,
      ⟨some 8, none, .prim (.convi .u64 (.tmp 7))⟩,
      ⟨some 9, none, .call (.func 65) [(.tmp 8)]⟩,
      ⟨some 10, none, .call (.func 64) [(.tmp 5), (.const (Go.Value.int Go.IntKind.i64 0)), (.tmp 6), (.tmp 9)]⟩]))
def o39 : List Tmp := []
def r39 : List RV := []
theorem t39 : Text Tryz.prog 39 o39 c39 r39 11 := ⟨⟨Tryz.f39, _, by kernel_rfl, by kernel_rfl, rfl, by kernel_rfl, by kernel_rfl, rfl⟩, by kernel_rfl⟩

/-- sordine/sordinebook.Within -/
def c40 : ACode :=
  (.seq (.ops [⟨some 6, none, .prim (.mov (.const (Go.Value.int Go.IntKind.i64 0)))⟩])
    (.seq (.ops [⟨some 7, none, .prim (.mov (.tmp 0))⟩,
      ⟨some 8, none, .prim (.mov (.tmp 2))⟩,
      ⟨some 9, none, .prim (.mov (.tmp 1))⟩,
      ⟨some 10, none, .prim (.bin false .sub (.tmp 8) (.tmp 9))⟩,
      ⟨some 11, none, .prim (.bin false .add (.tmp 10) (.const (Go.Value.int Go.IntKind.i64 1)))⟩,
      ⟨some 12, none, .prim (.bin false .rem (.tmp 7) (.tmp 11))⟩,
      ⟨some 0, none, .prim (.mov (.tmp 12))⟩])
    (.seq (.seq (.ops [⟨some 13, none, .prim (.mov (.tmp 0))⟩,
      ⟨some 14, none, .prim (.bin false .lss (.tmp 13) (.const (Go.Value.int Go.IntKind.i64 0)))⟩])
    (.cond (.tmp 14)
    (.ops [⟨some 15, none, .prim (.mov (.tmp 0))⟩,
      ⟨some 16, none, .prim (.mov (.tmp 2))⟩,
      ⟨some 17, none, .prim (.bin false .add (.tmp 15) (.tmp 16))⟩,
      ⟨some 18, none, .prim (.mov (.tmp 1))⟩,
      ⟨some 19, none, .prim (.bin false .sub (.tmp 17) (.tmp 18))⟩,
      ⟨some 20, none, .prim (.bin false .add (.tmp 19) (.const (Go.Value.int Go.IntKind.i64 1)))⟩,
      ⟨some 0, none, .prim (.mov (.tmp 20))⟩])
    .skip))
    (.seq (.ops [⟨some 21, none, .prim (.mov (.tmp 1))⟩,
      ⟨some 22, none, .prim (.mov (.tmp 0))⟩,
      ⟨some 23, none, .prim (.bin false .add (.tmp 21) (.tmp 22))⟩,
      ⟨some 6, none, .prim (.mov (.tmp 23))⟩])
    .ret))))
def o40 : List Tmp := []
def r40 : List RV := [.tmp 6]
theorem t40 : Text Tryz.prog 40 o40 c40 r40 24 := ⟨⟨Tryz.f40, _, by kernel_rfl, by kernel_rfl, rfl, by kernel_rfl, by kernel_rfl, rfl⟩, by kernel_rfl⟩

/-- sordine/req.may -/
def c41 : ACode :=
  (.seq (.ops [⟨some 1, none, .prim (.boxr (.tmp 0))⟩,
      ⟨some 2, none, .prim (.mov (.const (Go.Value.bool Bool.false)))⟩])
    (.seq (.ops [⟨some 6, none, .prim (.fadr 1 (.tmp 1))⟩,
      ⟨some 7, none, .prim (.load 1 false (.tmp 6))⟩,
      ⟨some 8, none, .call (.func 42) [(.tmp 7)]⟩,
      ⟨some 5, none, .prim (.mov (.tmp 8))⟩,
      ⟨some 9, none, .prim (.extr 0 (.tmp 5))⟩,
      ⟨some 10, none, .prim (.extr 1 (.tmp 5))⟩,
      ⟨some 3, none, .prim (.mov (.tmp 9))⟩,
      ⟨some 4, none, .prim (.mov (.tmp 10))⟩])
    (.seq (.ops [⟨some 11, none, .prim (.mov (.tmp 4))⟩,
      ⟨some 12, none, .prim (.mov (.tmp 11))⟩,
      ⟨some 13, (some (12, true)), .prim (.load 19 true (.tmp 1))⟩,
      ⟨some 14, (some (12, true)), .prim (.mov (.tmp 3))⟩,
      ⟨some 15, (some (12, true)), .call (.func 66) [(.tmp 13), (.tmp 14)]⟩,
      ⟨some 16, none, .prim (.pick (.tmp 12) (.tmp 15) (.const (Go.Value.bool Bool.false)))⟩,
      ⟨some 17, none, .prim (.mov (.tmp 16))⟩,
      ⟨some 18, (some (17, true)), .prim (.load 19 true (.tmp 1))⟩,
      ⟨some 19, (some (17, true)), .prim (.mov (.tmp 3))⟩,
      ⟨some 20, (some (17, true)), .call (.func 67) [(.tmp 18), (.tmp 19)]⟩,
      ⟨some 21, none, .prim (.pick (.tmp 17) (.tmp 20) (.const (Go.Value.bool Bool.false)))⟩,
      ⟨some 2, none, .prim (.mov (.tmp 21))⟩])
    .ret)))
def o41 : List Tmp := []
def r41 : List RV := [.tmp 2]
theorem t41 : Text Tryz.prog 41 o41 c41 r41 22 := ⟨⟨Tryz.f41, _, by kernel_rfl, by kernel_rfl, rfl, by kernel_rfl, by kernel_rfl, rfl⟩, by kernel_rfl⟩

/-- sordine/req.fields -/
def c42 : ACode :=
  (.seq (.ops [⟨some 2, none, .prim (.mov (.const (Go.Value.int Go.IntKind.i64 0)))⟩,
      ⟨some 3, none, .prim (.mov (.const (Go.Value.bool Bool.false)))⟩])
    (.seq (.seq (.ops [⟨some 4, none, .prim (.mov (.tmp 0))⟩])
    (.block 0 (.seq (.seq (.ops [⟨some 6, none, .prim (.bin false .eql (.tmp 4) (.const (Go.Value.int Go.IntKind.i64 1)))⟩,
      ⟨some 5, none, .prim (.mov (.tmp 6))⟩])
    (.cond (.tmp 5)
    .skip
    (.seq (.ops [⟨some 7, none, .prim (.bin false .eql (.tmp 4) (.const (Go.Value.int Go.IntKind.i64 14)))⟩,
      ⟨some 5, none, .prim (.mov (.tmp 7))⟩])
    (.cond (.tmp 5)
    .skip
    (.seq (.ops [⟨some 8, none, .prim (.bin false .eql (.tmp 4) (.const (Go.Value.int Go.IntKind.i64 16)))⟩,
      ⟨some 5, none, .prim (.mov (.tmp 8))⟩])
    (.cond (.tmp 5)
    .skip
    (.ops [⟨some 9, none, .prim (.bin false .eql (.tmp 4) (.const (Go.Value.int Go.IntKind.i64 17)))⟩,
      ⟨some 5, none, .prim (.mov (.tmp 9))⟩])))))))
    (.cond (.tmp 5)
    (.seq (.ops [⟨some 2, none, .prim (.mov (.const (Go.Value.int Go.IntKind.i64 0)))⟩,
      ⟨some 3, none, .prim (.mov (.const (Go.Value.bool Bool.true)))⟩])
    .ret)
    (.seq (.seq (.ops [⟨some 11, none, .prim (.bin false .eql (.tmp 4) (.const (Go.Value.int Go.IntKind.i64 2)))⟩,
      ⟨some 10, none, .prim (.mov (.tmp 11))⟩])
    (.cond (.tmp 10)
    .skip
    (.seq (.ops [⟨some 12, none, .prim (.bin false .eql (.tmp 4) (.const (Go.Value.int Go.IntKind.i64 7)))⟩,
      ⟨some 10, none, .prim (.mov (.tmp 12))⟩])
    (.cond (.tmp 10)
    .skip
    (.seq (.ops [⟨some 13, none, .prim (.bin false .eql (.tmp 4) (.const (Go.Value.int Go.IntKind.i64 10)))⟩,
      ⟨some 10, none, .prim (.mov (.tmp 13))⟩])
    (.cond (.tmp 10)
    .skip
    (.seq (.ops [⟨some 14, none, .prim (.bin false .eql (.tmp 4) (.const (Go.Value.int Go.IntKind.i64 12)))⟩,
      ⟨some 10, none, .prim (.mov (.tmp 14))⟩])
    (.cond (.tmp 10)
    .skip
    (.ops [⟨some 15, none, .prim (.bin false .eql (.tmp 4) (.const (Go.Value.int Go.IntKind.i64 15)))⟩,
      ⟨some 10, none, .prim (.mov (.tmp 15))⟩])))))))))
    (.cond (.tmp 10)
    (.seq (.ops [⟨some 2, none, .prim (.mov (.const (Go.Value.int Go.IntKind.i64 1)))⟩,
      ⟨some 3, none, .prim (.mov (.const (Go.Value.bool Bool.true)))⟩])
    .ret)
    (.seq (.seq (.ops [⟨some 17, none, .prim (.bin false .eql (.tmp 4) (.const (Go.Value.int Go.IntKind.i64 3)))⟩,
      ⟨some 16, none, .prim (.mov (.tmp 17))⟩])
    (.cond (.tmp 16)
    .skip
    (.ops [⟨some 18, none, .prim (.bin false .eql (.tmp 4) (.const (Go.Value.int Go.IntKind.i64 4)))⟩,
      ⟨some 16, none, .prim (.mov (.tmp 18))⟩])))
    (.cond (.tmp 16)
    (.seq (.ops [⟨some 2, none, .prim (.mov (.const (Go.Value.int Go.IntKind.i64 3)))⟩,
      ⟨some 3, none, .prim (.mov (.const (Go.Value.bool Bool.true)))⟩])
    .ret)
    (.seq (.ops [⟨some 20, none, .prim (.bin false .eql (.tmp 4) (.const (Go.Value.int Go.IntKind.i64 5)))⟩,
      ⟨some 19, none, .prim (.mov (.tmp 20))⟩])
    (.cond (.tmp 19)
    (.seq (.ops [⟨some 2, none, .prim (.mov (.const (Go.Value.int Go.IntKind.i64 116)))⟩,
      ⟨some 3, none, .prim (.mov (.const (Go.Value.bool Bool.true)))⟩])
    .ret)
    (.seq (.ops [⟨some 22, none, .prim (.bin false .eql (.tmp 4) (.const (Go.Value.int Go.IntKind.i64 6)))⟩,
      ⟨some 21, none, .prim (.mov (.tmp 22))⟩])
    (.cond (.tmp 21)
    (.seq (.ops [⟨some 2, none, .prim (.mov (.const (Go.Value.int Go.IntKind.i64 117)))⟩,
      ⟨some 3, none, .prim (.mov (.const (Go.Value.bool Bool.true)))⟩])
    .ret)
    (.seq (.ops [⟨some 24, none, .prim (.bin false .eql (.tmp 4) (.const (Go.Value.int Go.IntKind.i64 8)))⟩,
      ⟨some 23, none, .prim (.mov (.tmp 24))⟩])
    (.cond (.tmp 23)
    (.seq (.ops [⟨some 2, none, .prim (.mov (.const (Go.Value.int Go.IntKind.i64 8)))⟩,
      ⟨some 3, none, .prim (.mov (.const (Go.Value.bool Bool.true)))⟩])
    .ret)
    (.seq (.ops [⟨some 26, none, .prim (.bin false .eql (.tmp 4) (.const (Go.Value.int Go.IntKind.i64 9)))⟩,
      ⟨some 25, none, .prim (.mov (.tmp 26))⟩])
    (.cond (.tmp 25)
    (.seq (.ops [⟨some 2, none, .prim (.mov (.const (Go.Value.int Go.IntKind.i64 128)))⟩,
      ⟨some 3, none, .prim (.mov (.const (Go.Value.bool Bool.true)))⟩])
    .ret)
    (.seq (.ops [⟨some 28, none, .prim (.bin false .eql (.tmp 4) (.const (Go.Value.int Go.IntKind.i64 11)))⟩,
      ⟨some 27, none, .prim (.mov (.tmp 28))⟩])
    (.cond (.tmp 27)
    (.seq (.ops [⟨some 2, none, .prim (.mov (.const (Go.Value.int Go.IntKind.i64 768)))⟩,
      ⟨some 3, none, .prim (.mov (.const (Go.Value.bool Bool.true)))⟩])
    .ret)
    (.seq (.ops [⟨some 30, none, .prim (.bin false .eql (.tmp 4) (.const (Go.Value.int Go.IntKind.i64 13)))⟩,
      ⟨some 29, none, .prim (.mov (.tmp 30))⟩])
    (.cond (.tmp 29)
    (.seq (.ops [⟨some 2, none, .prim (.mov (.const (Go.Value.int Go.IntKind.i64 16)))⟩,
      ⟨some 3, none, .prim (.mov (.const (Go.Value.bool Bool.true)))⟩])
    .ret)
    .skip))))))))))))))))))))
    (.seq (.ops [⟨some 2, none, .prim (.mov (.const (Go.Value.int Go.IntKind.i64 0)))⟩,
      ⟨some 3, none, .prim (.mov (.const (Go.Value.bool Bool.false)))⟩])
    .ret)))
def o42 : List Tmp := []
def r42 : List RV := [.tmp 2, .tmp 3]
theorem t42 : Text Tryz.prog 42 o42 c42 r42 31 := ⟨⟨Tryz.f42, _, by kernel_rfl, by kernel_rfl, rfl, by kernel_rfl, by kernel_rfl, rfl⟩, by kernel_rfl⟩

/-- sordine/req.Body$1 -/
def c43 : ACode :=
  (.seq (.ops [⟨some 6, none, .prim (.load 1 false (.tmp 2))⟩,
      ⟨some 7, none, .prim (.mov (.tmp 0))⟩,
      ⟨some 8, none, .prim (.bin false .and (.tmp 6) (.tmp 7))⟩,
      ⟨some 9, none, .prim (.bin false .gtr (.tmp 8) (.const (Go.Value.int Go.IntKind.i64 0)))⟩])
    (.cond (.tmp 9)
    (.draw [⟨⟨some 10, none, .prim (.load 1 false (.tmp 3))⟩, [], false, 0, 1⟩,
      ⟨⟨some 11, none, .prim (.mov (.tmp 1))⟩, [], false, 0, 0⟩,
      ⟨⟨some 12, none, .call (.func 44) [(.tmp 11)]⟩, [1], true, 0, 0⟩,
      ⟨⟨some 13, none, .prim (.app 1 (.tmp 10) (.tmp 12))⟩, [0, 1, 2], true, 0, 0⟩,
      ⟨⟨none, none, .prim (.store 1 (.tmp 3) (.tmp 13))⟩, [0, 1, 2, 3], true, 0, 0⟩])
    .skip))
def o43 : List Tmp := []
def r43 : List RV := []
theorem t43 : Text Tryz.prog 43 o43 c43 r43 14 := ⟨⟨Tryz.f43, _, by kernel_rfl, by kernel_rfl, rfl, by kernel_rfl, by kernel_rfl, rfl⟩, by kernel_rfl⟩

/-- slices.Concat[[]byte,byte] -/
def c44 : ACode :=
  (.seq (.ops [⟨some 2, none, .prim (.mov (.const (Go.Value.slice Option.none 0 0)))⟩])
    (.seq (.ops [⟨some 3, none, .prim (.mov (.const (Go.Value.int Go.IntKind.i64 0)))⟩])
    (.seq (.seq (.ops [⟨some 9, none, .prim (.mov (.tmp 0))⟩,
      ⟨some 10, none, .prim (.lenv (.tmp 9))⟩,
      ⟨some 11, none, .prim (.mov (.const (Go.Value.int Go.IntKind.i64 0)))⟩])
    (.block 0 (.loop [1, 2, 4, 5, 6, 7, 8, 12, 13, 14, 15, 16, 17, 18, 19, 20, 21, 22, 23, 24, 25, 26, 27, 28, 29, 30, 31, 32, 33, 34, 35] (.seq (.ops [⟨some 12, none, .prim (.bin false .lss (.tmp 11) (.tmp 10))⟩])
    (.seq (.cond (.tmp 12)
    .skip
    (.exit 0))
    (.seq (.block 1 (.seq (.ops [⟨some 13, none, .prim (.iadrs 1 (.tmp 9) (.tmp 11))⟩,
      ⟨some 14, none, .prim (.load 1 false (.tmp 13))⟩,
      ⟨some 5, none, .prim (.mov (.tmp 14))⟩])
    (.seq (.ops [⟨some 15, none, .prim (.mov (.tmp 3))⟩,
      ⟨some 16, none, .prim (.mov (.tmp 5))⟩,
      ⟨some 17, none, .prim (.lenv (.tmp 16))⟩,
      ⟨some 18, none, .prim (.bin false .add (.tmp 15) (.tmp 17))⟩,
      ⟨some 3, none, .prim (.mov (.tmp 18))⟩])
    (.seq (.ops [⟨some 19, none, .prim (.mov (.tmp 3))⟩,
      ⟨some 20, none, .prim (.bin false .lss (.tmp 19) (.const (Go.Value.int Go.IntKind.i64 0)))⟩])
    (.cond (.tmp 20)
    (.ops [⟨some 21, none, .prim (.bad)⟩,
      ⟨none, none, .prim (.bad)⟩])
    .skip)))))
    (.ops [⟨some 22, none, .prim (.bin false .add (.tmp 11) (.const (Go.Value.int Go.IntKind.i64 1)))⟩,
      ⟨some 11, none, .prim (.mov (.tmp 22))⟩])))))))
    (.seq (.ops [⟨some 23, none, .prim (.mov (.tmp 3))⟩,
      ⟨some 24, none, .call (.func 68) [(.const (Go.Value.slice Option.none 0 0)), (.tmp 23)]⟩,
      ⟨some 6, none, .prim (.mov (.tmp 24))⟩])
    (.seq (.seq (.ops [⟨some 25, none, .prim (.mov (.tmp 0))⟩,
      ⟨some 26, none, .prim (.lenv (.tmp 25))⟩,
      ⟨some 27, none, .prim (.mov (.const (Go.Value.int Go.IntKind.i64 0)))⟩])
    (.block 2 (.loop [0, 1, 2, 3, 4, 5, 7, 8, 9, 10, 11, 12, 13, 14, 15, 16, 17, 18, 19, 20, 21, 22, 23, 24, 28, 29, 30, 31, 32, 33, 34, 35] (.seq (.ops [⟨some 28, none, .prim (.bin false .lss (.tmp 27) (.tmp 26))⟩])
    (.seq (.cond (.tmp 28)
    .skip
    (.exit 2))
    (.seq (.block 3 (.seq (.ops [⟨some 29, none, .prim (.iadrs 1 (.tmp 25) (.tmp 27))⟩,
      ⟨some 30, none, .prim (.load 1 false (.tmp 29))⟩,
      ⟨some 8, none, .prim (.mov (.tmp 30))⟩])
    (.ops [⟨some 31, none, .prim (.mov (.tmp 6))⟩,
      ⟨some 32, none, .prim (.mov (.tmp 8))⟩,
      ⟨some 33, none, .prim (.app 1 (.tmp 31) (.tmp 32))⟩,
      ⟨some 6, none, .prim (.mov (.tmp 33))⟩])))
    (.ops [⟨some 34, none, .prim (.bin false .add (.tmp 27) (.const (Go.Value.int Go.IntKind.i64 1)))⟩,
      ⟨some 27, none, .prim (.mov (.tmp 34))⟩])))))))
    (.seq (.ops [⟨some 35, none, .prim (.mov (.tmp 6))⟩,
      ⟨some 2, none, .prim (.mov (.tmp 35))⟩])
    .ret))))))
def o44 : List Tmp := []
def r44 : List RV := [.tmp 2]
theorem t44 : Text Tryz.prog 44 o44 c44 r44 36 := ⟨⟨Tryz.f44, _, by kernel_rfl, by kernel_rfl, rfl, by kernel_rfl, by kernel_rfl, rfl⟩, by kernel_rfl⟩

/-- sordine/vint.Put -/
def c45 : ACode :=
  (.seq (.ops [⟨some 2, none, .prim (.mov (.const (Go.Value.slice Option.none 0 0)))⟩])
    (.seq (.ops [⟨some 3, none, .prim (.mov (.const (Go.Value.slice Option.none 0 0)))⟩])
    (.seq (.block 0 (.loop [1, 2, 4, 5, 6, 7, 8, 9, 10, 11, 12, 13, 14, 15, 16, 17, 18] (.seq (.seq (.ops [⟨some 4, none, .prim (.mov (.tmp 0))⟩,
      ⟨some 5, none, .prim (.bin false .geq (.tmp 4) (.const (Go.Value.int Go.IntKind.u64 128)))⟩])
    (.cond (.tmp 5)
    .skip
    (.exit 0)))
    (.block 1 (.seq (.ops [⟨some 6, none, .prim (.mov (.tmp 3))⟩,
      ⟨some 7, none, .prim (.mov (.tmp 0))⟩,
      ⟨some 8, none, .prim (.convi .u8 (.tmp 7))⟩,
      ⟨some 9, none, .prim (.bin false .or (.tmp 8) (.const (Go.Value.int Go.IntKind.u8 128)))⟩,
      ⟨some 10, none, .prim (.bsl false 1 false 1 [.pl (.int .u8 0)] [(0, 1, (.tmp 9))])⟩,
      ⟨some 11, none, .prim (.app 1 (.tmp 6) (.tmp 10))⟩,
      ⟨some 3, none, .prim (.mov (.tmp 11))⟩])
    (.ops [⟨some 12, none, .prim (.mov (.tmp 0))⟩,
      ⟨some 13, none, .prim (.bin false .shr (.tmp 12) (.const (Go.Value.int Go.IntKind.u64 7)))⟩,
      ⟨some 0, none, .prim (.mov (.tmp 13))⟩]))))))
    (.seq (.ops [⟨some 14, none, .prim (.mov (.tmp 3))⟩,
      ⟨some 15, none, .prim (.mov (.tmp 0))⟩,
      ⟨some 16, none, .prim (.convi .u8 (.tmp 15))⟩,
      ⟨some 17, none, .prim (.bsl false 1 false 1 [.pl (.int .u8 0)] [(0, 1, (.tmp 16))])⟩,
      ⟨some 18, none, .prim (.app 1 (.tmp 14) (.tmp 17))⟩,
      ⟨some 2, none, .prim (.mov (.tmp 18))⟩])
    .ret))))
def o45 : List Tmp := []
def r45 : List RV := [.tmp 2]
theorem t45 : Text Tryz.prog 45 o45 c45 r45 19 := ⟨⟨Tryz.f45, _, by kernel_rfl, by kernel_rfl, rfl, by kernel_rfl, by kernel_rfl, rfl⟩, by kernel_rfl⟩

/-- sordine/vint.PutText -/
def c46 : ACode :=
  (.seq (.ops [⟨some 2, none, .prim (.mov (.const (Go.Value.slice Option.none 0 0)))⟩])
    (.seq (.ops [⟨some 3, none, .prim (.mov (.tmp 0))⟩,
      ⟨some 4, none, .prim (.lens (.tmp 3))⟩,
      ⟨some 5, none, .prim (.convi .u64 (.tmp 4))⟩,
      ⟨some 6, none, .call (.func 45) [(.tmp 5)]⟩,
      ⟨some 7, none, .prim (.mov (.tmp 0))⟩,
      ⟨some 8, none, .prim (.app 1 (.tmp 6) (.tmp 7))⟩,
      ⟨some 2, none, .prim (.mov (.tmp 8))⟩])
    (.ghost (.shut 2) .ret)))
def o46 : List Tmp := []
def r46 : List RV := [.tmp 2]
theorem t46 : Text Tryz.prog 46 o46 c46 r46 9 := ⟨⟨Tryz.f46, _, by kernel_rfl, by kernel_rfl, rfl, by kernel_rfl, by kernel_rfl, rfl⟩, by kernel_rfl⟩

/-- sordine/match.Bytes -/
def c47 : ACode :=
  (.seq (.ops [⟨some 2, none, .prim (.mov (.const (Go.Value.slice Option.none 0 0)))⟩])
    (.seq (.seq (.ops [⟨some 6, none, .prim (.mov (.tmp 0))⟩,
      ⟨some 7, none, .call (.func 69) [(.tmp 6)]⟩,
      ⟨some 8, none, .prim (.un .not (.tmp 7))⟩])
    (.cond (.tmp 8)
    (.seq (.ops [⟨some 2, none, .prim (.mov (.const (Go.Value.slice Option.none 0 0)))⟩])
    (.ghost (.shut 2) .ret))
    .skip))
    (.seq (.ops [⟨some 9, none, .prim (.mov (.tmp 0))⟩,
      ⟨some 10, none, .prim (.lenv (.tmp 9))⟩,
      ⟨some 11, none, .prim (.convi .u64 (.tmp 10))⟩,
      ⟨some 12, none, .call (.func 45) [(.tmp 11)]⟩,
      ⟨some 3, none, .prim (.mov (.tmp 12))⟩])
    (.seq (.seq (.ops [⟨some 13, none, .prim (.mov (.tmp 0))⟩,
      ⟨some 14, none, .prim (.lenv (.tmp 13))⟩,
      ⟨some 15, none, .prim (.mov (.const (Go.Value.int Go.IntKind.i64 0)))⟩])
    (.block 0 (.loop [0, 1, 2, 4, 5, 6, 7, 8, 9, 10, 11, 12, 16, 17, 18, 19, 20, 21, 22, 23, 24, 25, 26, 27, 28, 29, 30, 31, 32, 33, 34, 35, 36] (.seq (.ops [⟨some 16, none, .prim (.bin false .lss (.tmp 15) (.tmp 14))⟩])
    (.seq (.cond (.tmp 16)
    .skip
    (.exit 0))
    (.seq (.block 1 (.seq (.ops [⟨some 17, none, .prim (.iadrs 3 (.tmp 13) (.tmp 15))⟩,
      ⟨some 18, none, .prim (.load 3 true (.tmp 17))⟩,
      ⟨some 5, none, .fresh 3 5 (.tmp 18)⟩])
    (.seq (.ops [⟨some 19, none, .prim (.mov (.tmp 3))⟩,
      ⟨some 20, none, .prim (.fadr 0 (.tmp 5))⟩,
      ⟨some 21, none, .prim (.load 1 false (.tmp 20))⟩,
      ⟨some 22, none, .prim (.convi .u8 (.tmp 21))⟩,
      ⟨some 23, none, .prim (.bsl false 1 false 1 [.pl (.int .u8 0)] [(0, 1, (.tmp 22))])⟩,
      ⟨some 24, none, .prim (.app 1 (.tmp 19) (.tmp 23))⟩,
      ⟨some 3, none, .prim (.mov (.tmp 24))⟩])
    (.seq (.ops [⟨some 25, none, .prim (.mov (.tmp 3))⟩,
      ⟨some 26, none, .prim (.fadr 1 (.tmp 5))⟩,
      ⟨some 27, none, .prim (.load 1 false (.tmp 26))⟩,
      ⟨some 28, none, .call (.func 46) [(.tmp 27)]⟩,
      ⟨some 29, none, .prim (.app 1 (.tmp 25) (.tmp 28))⟩,
      ⟨some 3, none, .prim (.mov (.tmp 29))⟩])
    (.ops [⟨some 30, none, .prim (.mov (.tmp 3))⟩,
      ⟨some 31, none, .prim (.fadr 2 (.tmp 5))⟩,
      ⟨some 32, none, .prim (.load 1 false (.tmp 31))⟩,
      ⟨some 33, none, .call (.func 46) [(.tmp 32)]⟩,
      ⟨some 34, none, .prim (.app 1 (.tmp 30) (.tmp 33))⟩,
      ⟨some 3, none, .prim (.mov (.tmp 34))⟩])))))
    (.ops [⟨some 35, none, .prim (.bin false .add (.tmp 15) (.const (Go.Value.int Go.IntKind.i64 1)))⟩,
      ⟨some 15, none, .prim (.mov (.tmp 35))⟩])))))))
    (.seq (.ops [⟨some 36, none, .prim (.mov (.tmp 3))⟩,
      ⟨some 2, none, .prim (.mov (.tmp 36))⟩])
    (.ghost (.shut 2) .ret))))))
def o47 : List Tmp := []
def r47 : List RV := [.tmp 2]
theorem t47 : Text Tryz.prog 47 o47 c47 r47 37 := ⟨⟨Tryz.f47, _, by kernel_rfl, by kernel_rfl, rfl, by kernel_rfl, by kernel_rfl, rfl⟩, by kernel_rfl⟩

/-- sordine/rule.PutBand -/
def c48 : ACode :=
  (.seq (.ops [⟨some 1, none, .prim (.boxr (.tmp 0))⟩,
      ⟨some 2, none, .prim (.mov (.const (Go.Value.slice Option.none 0 0)))⟩])
    (.seq (.seq (.ops [⟨some 3, none, .prim (.fadr 0 (.tmp 1))⟩,
      ⟨some 4, none, .prim (.load 1 false (.tmp 3))⟩])
    (.cond (.tmp 4)
    (.seq (.ops [⟨some 5, none, .prim (.bsl false 1 false 1 [.pl (.int .u8 0)] [(0, 1, (.const (Go.Value.int Go.IntKind.u8 1)))])⟩,
      ⟨some 2, none, .prim (.mov (.tmp 5))⟩])
    (.ghost (.shut 2) .ret))
    .skip))
    (.seq (.draw [⟨⟨some 6, none, .prim (.bsl false 1 false 1 [.pl (.int .u8 0)] [(0, 1, (.const (Go.Value.int Go.IntKind.u8 0)))])⟩, [], false, 0, 4⟩,
      ⟨⟨some 7, none, .prim (.fadr 1 (.tmp 1))⟩, [], false, 0, 0⟩,
      ⟨⟨some 8, none, .prim (.load 1 false (.tmp 7))⟩, [1], false, 0, 0⟩,
      ⟨⟨some 9, none, .call (.func 52) [(.tmp 8)]⟩, [1, 2], true, 0, 0⟩,
      ⟨⟨some 10, none, .call (.func 51) [(.tmp 9)]⟩, [1, 2, 3], true, 0, 0⟩,
      ⟨⟨some 11, none, .prim (.fadr 2 (.tmp 1))⟩, [], false, 0, 2⟩,
      ⟨⟨some 12, none, .prim (.load 1 false (.tmp 11))⟩, [5], false, 0, 2⟩,
      ⟨⟨some 13, none, .call (.func 52) [(.tmp 12)]⟩, [1, 2, 3, 4, 5, 6], true, 0, 0⟩,
      ⟨⟨some 14, none, .call (.func 51) [(.tmp 13)]⟩, [1, 2, 3, 4, 5, 6, 7], true, 0, 0⟩,
      ⟨⟨some 15, none, .prim (.bsl false 1 false 3 [.nils] [(0, 1, (.tmp 6)), (1, 1, (.tmp 10)), (2, 1, (.tmp 14))])⟩, [0, 1, 2, 3, 4, 5, 6, 7, 8], false, 4, 4⟩,
      ⟨⟨some 16, none, .call (.func 44) [(.tmp 15)]⟩, [0, 1, 2, 3, 4, 5, 6, 7, 8, 9], true, 0, 0⟩,
      ⟨⟨some 2, none, .prim (.mov (.tmp 16))⟩, [0, 1, 2, 3, 4, 5, 6, 7, 8, 9, 10], false, 5, 5⟩])
    (.ghost (.shut 2) .ret))))
def o48 : List Tmp := []
def r48 : List RV := [.tmp 2]
theorem t48 : Text Tryz.prog 48 o48 c48 r48 17 := ⟨⟨Tryz.f48, _, by kernel_rfl, by kernel_rfl, rfl, by kernel_rfl, by kernel_rfl, rfl⟩, by kernel_rfl⟩

/-- sordine/rule.Bytes -/
def c49 : ACode :=
  (.seq (.ops [⟨some 1, none, .prim (.boxr (.tmp 0))⟩,
      ⟨some 2, none, .prim (.mov (.const (Go.Value.slice Option.none 0 0)))⟩])
    (.seq (.seq (.ops [⟨some 6, none, .prim (.load 6 true (.tmp 1))⟩,
      ⟨some 7, none, .call (.func 70) [(.tmp 6)]⟩,
      ⟨some 8, none, .prim (.un .not (.tmp 7))⟩])
    (.cond (.tmp 8)
    (.seq (.ops [⟨some 2, none, .prim (.mov (.const (Go.Value.slice Option.none 0 0)))⟩])
    (.ghost (.shut 2) .ret))
    .skip))
    (.seq (.draw [⟨⟨some 9, none, .prim (.fadr 0 (.tmp 1))⟩, [], false, 0, 0⟩,
      ⟨⟨some 10, none, .prim (.load 1 false (.tmp 9))⟩, [0], false, 0, 0⟩,
      ⟨⟨some 11, none, .call (.func 47) [(.tmp 10)]⟩, [0, 1], true, 0, 0⟩,
      ⟨⟨some 12, none, .prim (.fadr 1 (.tmp 1))⟩, [], false, 0, 1⟩,
      ⟨⟨some 13, none, .prim (.load 1 false (.tmp 12))⟩, [3], false, 0, 1⟩,
      ⟨⟨some 14, none, .call (.func 47) [(.tmp 13)]⟩, [0, 1, 2, 3, 4], true, 0, 0⟩,
      ⟨⟨some 15, none, .prim (.fadr 2 (.tmp 1))⟩, [], false, 0, 2⟩,
      ⟨⟨some 16, none, .prim (.load 3 true (.tmp 15))⟩, [6], false, 0, 2⟩,
      ⟨⟨some 17, none, .call (.func 48) [(.tmp 16)]⟩, [0, 1, 2, 3, 4, 5, 6, 7], true, 0, 0⟩,
      ⟨⟨some 18, none, .prim (.fadr 5 (.tmp 1))⟩, [], false, 0, 3⟩,
      ⟨⟨some 19, none, .prim (.load 1 false (.tmp 18))⟩, [9], false, 0, 3⟩,
      ⟨⟨some 20, none, .prim (.lenv (.tmp 19))⟩, [9, 10], false, 0, 3⟩,
      ⟨⟨some 21, none, .prim (.convi .u64 (.tmp 20))⟩, [9, 10, 11], false, 0, 3⟩,
      ⟨⟨some 22, none, .call (.func 45) [(.tmp 21)]⟩, [0, 1, 2, 3, 4, 5, 6, 7, 8, 9, 10, 11, 12], true, 0, 0⟩,
      ⟨⟨some 23, none, .prim (.bsl false 1 false 4 [.nils] [(0, 1, (.tmp 11)), (1, 1, (.tmp 14)), (2, 1, (.tmp 17)), (3, 1, (.tmp 22))])⟩, [0, 1, 2, 3, 4, 5, 6, 7, 8, 9, 10, 11, 12, 13], false, 4, 4⟩,
      ⟨⟨some 24, none, .call (.func 44) [(.tmp 23)]⟩, [0, 1, 2, 3, 4, 5, 6, 7, 8, 9, 10, 11, 12, 13, 14], true, 0, 0⟩,
      ⟨⟨some 3, none, .prim (.mov (.tmp 24))⟩, [0, 1, 2, 3, 4, 5, 6, 7, 8, 9, 10, 11, 12, 13, 14, 15], false, 5, 5⟩])
    (.seq (.seq (.ops [⟨some 25, none, .prim (.fadr 5 (.tmp 1))⟩,
      ⟨some 26, none, .prim (.load 1 false (.tmp 25))⟩,
      ⟨some 27, none, .prim (.lenv (.tmp 26))⟩,
      ⟨some 28, none, .prim (.mov (.const (Go.Value.int Go.IntKind.i64 0)))⟩])
    (.block 0 (.loop [0, 1, 2, 4, 5, 6, 7, 8, 9, 10, 11, 12, 13, 14, 15, 16, 17, 18, 19, 20, 21, 22, 23, 24, 25, 29, 30, 31, 32, 33, 34, 35, 36, 37] (.seq (.ops [⟨some 29, none, .prim (.bin false .lss (.tmp 28) (.tmp 27))⟩])
    (.seq (.cond (.tmp 29)
    .skip
    (.exit 0))
    (.seq (.block 1 (.seq (.ops [⟨some 30, none, .prim (.iadrs 1 (.tmp 26) (.tmp 28))⟩,
      ⟨some 31, none, .prim (.load 1 false (.tmp 30))⟩,
      ⟨some 5, none, .prim (.mov (.tmp 31))⟩])
    (.ops [⟨some 32, none, .prim (.mov (.tmp 3))⟩,
      ⟨some 33, none, .prim (.mov (.tmp 5))⟩,
      ⟨some 34, none, .call (.func 46) [(.tmp 33)]⟩,
      ⟨some 35, none, .prim (.app 1 (.tmp 32) (.tmp 34))⟩,
      ⟨some 3, none, .prim (.mov (.tmp 35))⟩])))
    (.ops [⟨some 36, none, .prim (.bin false .add (.tmp 28) (.const (Go.Value.int Go.IntKind.i64 1)))⟩,
      ⟨some 28, none, .prim (.mov (.tmp 36))⟩])))))))
    (.seq (.ops [⟨some 37, none, .prim (.mov (.tmp 3))⟩,
      ⟨some 2, none, .prim (.mov (.tmp 37))⟩])
    (.ghost (.shut 2) .ret))))))
def o49 : List Tmp := []
def r49 : List RV := [.tmp 2]
theorem t49 : Text Tryz.prog 49 o49 c49 r49 38 := ⟨⟨Tryz.f49, _, by kernel_rfl, by kernel_rfl, rfl, by kernel_rfl, by kernel_rfl, rfl⟩, by kernel_rfl⟩

/-- sordine/labels.Bytes -/
def c50 : ACode :=
  (.seq (.ops [⟨some 2, none, .prim (.mov (.const (Go.Value.slice Option.none 0 0)))⟩])
    (.seq (.seq (.ops [⟨some 6, none, .prim (.mov (.tmp 0))⟩,
      ⟨some 7, none, .call (.func 71) [(.tmp 6)]⟩,
      ⟨some 8, none, .prim (.un .not (.tmp 7))⟩])
    (.cond (.tmp 8)
    (.seq (.ops [⟨some 2, none, .prim (.mov (.const (Go.Value.slice Option.none 0 0)))⟩])
    (.ghost (.shut 2) .ret))
    .skip))
    (.seq (.ops [⟨some 9, none, .prim (.mov (.tmp 0))⟩,
      ⟨some 10, none, .prim (.lenv (.tmp 9))⟩,
      ⟨some 11, none, .prim (.convi .u64 (.tmp 10))⟩,
      ⟨some 12, none, .call (.func 45) [(.tmp 11)]⟩,
      ⟨some 3, none, .prim (.mov (.tmp 12))⟩])
    (.seq (.seq (.ops [⟨some 13, none, .prim (.mov (.tmp 0))⟩,
      ⟨some 14, none, .prim (.lenv (.tmp 13))⟩,
      ⟨some 15, none, .prim (.mov (.const (Go.Value.int Go.IntKind.i64 0)))⟩])
    (.block 0 (.loop [0, 1, 2, 4, 5, 6, 7, 8, 9, 10, 11, 12, 16, 17, 18, 19, 20, 21, 22, 23, 24, 25, 26, 27, 28, 29, 30] (.seq (.ops [⟨some 16, none, .prim (.bin false .lss (.tmp 15) (.tmp 14))⟩])
    (.seq (.cond (.tmp 16)
    .skip
    (.exit 0))
    (.seq (.block 1 (.seq (.ops [⟨some 17, none, .prim (.iadrs 2 (.tmp 13) (.tmp 15))⟩,
      ⟨some 18, none, .prim (.load 2 true (.tmp 17))⟩,
      ⟨some 5, none, .fresh 2 5 (.tmp 18)⟩])
    (.seq (.ops [⟨some 19, none, .prim (.mov (.tmp 3))⟩,
      ⟨some 20, none, .prim (.fadr 0 (.tmp 5))⟩,
      ⟨some 21, none, .prim (.load 1 false (.tmp 20))⟩,
      ⟨some 22, none, .call (.func 46) [(.tmp 21)]⟩,
      ⟨some 23, none, .prim (.app 1 (.tmp 19) (.tmp 22))⟩,
      ⟨some 3, none, .prim (.mov (.tmp 23))⟩])
    (.ops [⟨some 24, none, .prim (.mov (.tmp 3))⟩,
      ⟨some 25, none, .prim (.fadr 1 (.tmp 5))⟩,
      ⟨some 26, none, .prim (.load 1 false (.tmp 25))⟩,
      ⟨some 27, none, .call (.func 46) [(.tmp 26)]⟩,
      ⟨some 28, none, .prim (.app 1 (.tmp 24) (.tmp 27))⟩,
      ⟨some 3, none, .prim (.mov (.tmp 28))⟩]))))
    (.ops [⟨some 29, none, .prim (.bin false .add (.tmp 15) (.const (Go.Value.int Go.IntKind.i64 1)))⟩,
      ⟨some 15, none, .prim (.mov (.tmp 29))⟩])))))))
    (.seq (.ops [⟨some 30, none, .prim (.mov (.tmp 3))⟩,
      ⟨some 2, none, .prim (.mov (.tmp 30))⟩])
    (.ghost (.shut 2) .ret))))))
def o50 : List Tmp := []
def r50 : List RV := [.tmp 2]
theorem t50 : Text Tryz.prog 50 o50 c50 r50 31 := ⟨⟨Tryz.f50, _, by kernel_rfl, by kernel_rfl, rfl, by kernel_rfl, by kernel_rfl, rfl⟩, by kernel_rfl⟩

/-- sordine/vint.PutWord -/
def c51 : ACode :=
  (.seq (.ops [⟨some 2, none, .prim (.mov (.const (Go.Value.slice Option.none 0 0)))⟩])
    (.seq (.ops [⟨some 5, none, .prim (.mks 1 false [.pl (.int .u8 0)] (.const (Go.Value.int Go.IntKind.i64 8)) (.const (Go.Value.int Go.IntKind.i64 8)))⟩,
      ⟨some 3, none, .prim (.mov (.tmp 5))⟩])
    (.seq (.seq (.ops [⟨some 6, none, .prim (.mov (.tmp 3))⟩,
      ⟨some 7, none, .prim (.lenv (.tmp 6))⟩,
      ⟨some 8, none, .prim (.mov (.const (Go.Value.int Go.IntKind.i64 0)))⟩])
    (.block 0 (.loop [1, 2, 4, 5, 6, 9, 10, 11, 12, 13, 14, 15, 16, 17, 18, 19, 20, 21] (.seq (.ops [⟨some 9, none, .prim (.bin false .lss (.tmp 8) (.tmp 7))⟩])
    (.seq (.cond (.tmp 9)
    .skip
    (.exit 0))
    (.seq (.block 1 (.seq (.ops [⟨some 10, none, .prim (.mov (.tmp 8))⟩,
      ⟨some 4, none, .prim (.mov (.tmp 10))⟩])
    (.ops [⟨some 11, none, .prim (.mov (.tmp 3))⟩,
      ⟨some 12, none, .prim (.mov (.tmp 4))⟩,
      ⟨some 13, none, .prim (.mov (.tmp 0))⟩,
      ⟨some 14, none, .prim (.mov (.tmp 4))⟩,
      ⟨some 15, none, .prim (.bin false .mul (.const (Go.Value.int Go.IntKind.i64 8)) (.tmp 14))⟩,
      ⟨some 16, none, .prim (.bin false .sub (.const (Go.Value.int Go.IntKind.i64 56)) (.tmp 15))⟩,
      ⟨some 17, none, .prim (.bin false .shr (.tmp 13) (.tmp 16))⟩,
      ⟨some 18, none, .prim (.convi .u8 (.tmp 17))⟩,
      ⟨some 19, none, .prim (.iadrs 1 (.tmp 11) (.tmp 12))⟩,
      ⟨none, none, .prim (.store 1 (.tmp 19) (.tmp 18))⟩])))
    (.ops [⟨some 20, none, .prim (.bin false .add (.tmp 8) (.const (Go.Value.int Go.IntKind.i64 1)))⟩,
      ⟨some 8, none, .prim (.mov (.tmp 20))⟩])))))))
    (.seq (.ops [⟨some 21, none, .prim (.mov (.tmp 3))⟩,
      ⟨some 2, none, .prim (.mov (.tmp 21))⟩])
    (.ghost (.shut 2) .ret)))))
def o51 : List Tmp := []
def r51 : List RV := [.tmp 2]
theorem t51 : Text Tryz.prog 51 o51 c51 r51 22 := ⟨⟨Tryz.f51, _, by kernel_rfl, by kernel_rfl, rfl, by kernel_rfl, by kernel_rfl, rfl⟩, by kernel_rfl⟩

/-- sordine/real.Bits -/
def c52 : ACode :=
  (.seq (.ops [⟨some 2, none, .prim (.mov (.const (Go.Value.int Go.IntKind.u64 0)))⟩])
    (.seq (.seq (.ops [⟨some 3, none, .prim (.mov (.tmp 0))⟩,
      ⟨some 4, none, .call (.func 72) [(.tmp 3)]⟩])
    (.cond (.tmp 4)
    (.seq (.ops [⟨some 2, none, .prim (.mov (.const (Go.Value.int Go.IntKind.u64 9221120237041090561)))⟩])
    .ret)
    .skip))
    (.seq (.ops [⟨some 5, none, .prim (.mov (.tmp 0))⟩,
      ⟨some 6, none, .call (.func 73) [(.tmp 5)]⟩,
      ⟨some 2, none, .prim (.mov (.tmp 6))⟩])
    .ret)))
def o52 : List Tmp := []
def r52 : List RV := [.tmp 2]
theorem t52 : Text Tryz.prog 52 o52 c52 r52 7 := ⟨⟨Tryz.f52, _, by kernel_rfl, by kernel_rfl, rfl, by kernel_rfl, by kernel_rfl, rfl⟩, by kernel_rfl⟩

/-- sordine/record.Bytes -/
def c53 : ACode :=
  (.seq (.ops [⟨some 1, none, .prim (.boxr (.tmp 0))⟩,
      ⟨some 2, none, .prim (.mov (.const (Go.Value.slice Option.none 0 0)))⟩])
    (.seq (.seq (.ops [⟨some 3, none, .prim (.load 4 true (.tmp 1))⟩,
      ⟨some 4, none, .call (.func 55) [(.tmp 3)]⟩,
      ⟨some 5, none, .prim (.un .not (.tmp 4))⟩])
    (.cond (.tmp 5)
    (.seq (.ops [⟨some 2, none, .prim (.mov (.const (Go.Value.slice Option.none 0 0)))⟩])
    (.ghost (.shut 2) .ret))
    .skip))
    (.seq (.draw [⟨⟨some 6, none, .prim (.fadr 0 (.tmp 1))⟩, [], false, 0, 0⟩,
      ⟨⟨some 7, none, .prim (.load 1 false (.tmp 6))⟩, [0], false, 0, 0⟩,
      ⟨⟨some 8, none, .prim (.convi .u64 (.tmp 7))⟩, [0, 1], false, 0, 0⟩,
      ⟨⟨some 9, none, .call (.func 45) [(.tmp 8)]⟩, [0, 1, 2], true, 0, 0⟩,
      ⟨⟨some 10, none, .prim (.fadr 1 (.tmp 1))⟩, [], false, 0, 1⟩,
      ⟨⟨some 11, none, .prim (.load 1 false (.tmp 10))⟩, [4], false, 0, 1⟩,
      ⟨⟨some 12, none, .call (.func 45) [(.tmp 11)]⟩, [0, 1, 2, 3, 4, 5], true, 0, 0⟩,
      ⟨⟨some 13, none, .prim (.fadr 2 (.tmp 1))⟩, [], false, 0, 2⟩,
      ⟨⟨some 14, none, .prim (.load 1 false (.tmp 13))⟩, [7], false, 0, 2⟩,
      ⟨⟨some 15, none, .prim (.b2s (.tmp 14))⟩, [7, 8], false, 0, 2⟩,
      ⟨⟨some 16, none, .call (.func 46) [(.tmp 15)]⟩, [0, 1, 2, 3, 4, 5, 6, 7, 8, 9], true, 0, 0⟩,
      ⟨⟨some 17, none, .prim (.fadr 3 (.tmp 1))⟩, [], false, 0, 3⟩,
      ⟨⟨some 18, none, .prim (.load 1 false (.tmp 17))⟩, [11], false, 0, 3⟩,
      ⟨⟨some 19, none, .prim (.convi .u8 (.tmp 18))⟩, [11, 12], false, 0, 3⟩,
      ⟨⟨some 20, none, .prim (.bsl false 1 false 1 [.pl (.int .u8 0)] [(0, 1, (.tmp 19))])⟩, [11, 12, 13], false, 0, 3⟩,
      ⟨⟨some 21, none, .prim (.bsl false 1 false 4 [.nils] [(0, 1, (.tmp 9)), (1, 1, (.tmp 12)), (2, 1, (.tmp 16)), (3, 1, (.tmp 20))])⟩, [0, 1, 2, 3, 4, 5, 6, 7, 8, 9, 10, 11, 12, 13, 14], false, 3, 3⟩,
      ⟨⟨some 22, none, .call (.func 44) [(.tmp 21)]⟩, [0, 1, 2, 3, 4, 5, 6, 7, 8, 9, 10, 11, 12, 13, 14, 15], true, 0, 0⟩,
      ⟨⟨some 2, none, .prim (.mov (.tmp 22))⟩, [0, 1, 2, 3, 4, 5, 6, 7, 8, 9, 10, 11, 12, 13, 14, 15, 16], false, 4, 4⟩])
    (.ghost (.shut 2) .ret))))
def o53 : List Tmp := []
def r53 : List RV := [.tmp 2]
theorem t53 : Text Tryz.prog 53 o53 c53 r53 23 := ⟨⟨Tryz.f53, _, by kernel_rfl, by kernel_rfl, rfl, by kernel_rfl, by kernel_rfl, rfl⟩, by kernel_rfl⟩

/-- slices.Clone[[]byte,byte] -/
def c54 : ACode :=
  (.seq (.ops [⟨some 2, none, .prim (.mov (.const (Go.Value.slice Option.none 0 0)))⟩])
    (.seq (.seq (.ops [⟨some 3, none, .prim (.mov (.tmp 0))⟩,
      ⟨some 4, none, .prim (.isnil false false (.tmp 3))⟩])
    (.cond (.tmp 4)
    (.seq (.ops [⟨some 2, none, .prim (.mov (.const (Go.Value.slice Option.none 0 0)))⟩])
    (.ghost (.shut 2) .ret))
    .skip))
    (.seq (.ops [⟨some 5, none, .prim (.bsl true 1 false 0 [.pl (.int .u8 0)] [])⟩,
      ⟨some 6, none, .prim (.mov (.tmp 0))⟩,
      ⟨some 7, none, .prim (.app 1 (.tmp 5) (.tmp 6))⟩,
      ⟨some 2, none, .prim (.mov (.tmp 7))⟩])
    (.ghost (.shut 2) .ret))))
def o54 : List Tmp := [5]
def r54 : List RV := [.tmp 2]
theorem t54 : Text Tryz.prog 54 o54 c54 r54 8 := ⟨⟨Tryz.f54, _, by kernel_rfl, by kernel_rfl, rfl, by kernel_rfl, by kernel_rfl, rfl⟩, by kernel_rfl⟩

/-- sordine/record.Is -/
def c55 : ACode :=
  (.seq (.ops [⟨some 1, none, .prim (.boxr (.tmp 0))⟩,
      ⟨some 2, none, .prim (.mov (.const (Go.Value.bool Bool.false)))⟩])
    (.seq (.seq (.ops [⟨some 5, none, .prim (.fadr 0 (.tmp 1))⟩,
      ⟨some 6, none, .prim (.load 1 false (.tmp 5))⟩,
      ⟨some 7, none, .prim (.bin false .lss (.tmp 6) (.const (Go.Value.int Go.IntKind.i64 0)))⟩,
      ⟨some 8, none, .prim (.mov (.tmp 7))⟩,
      ⟨some 9, (some (8, false)), .prim (.fadr 0 (.tmp 1))⟩,
      ⟨some 10, (some (8, false)), .prim (.load 1 false (.tmp 9))⟩,
      ⟨some 11, (some (8, false)), .prim (.bin false .gtr (.tmp 10) (.const (Go.Value.int Go.IntKind.i64 2147483647)))⟩,
      ⟨some 12, none, .prim (.pick (.tmp 8) (.const (Go.Value.bool Bool.true)) (.tmp 11))⟩,
      ⟨some 13, none, .prim (.mov (.tmp 12))⟩,
      ⟨some 14, (some (13, false)), .prim (.fadr 1 (.tmp 1))⟩,
      ⟨some 15, (some (13, false)), .prim (.load 1 false (.tmp 14))⟩,
      ⟨some 16, (some (13, false)), .prim (.bin false .gtr (.tmp 15) (.const (Go.Value.int Go.IntKind.u64 1099511627776)))⟩,
      ⟨some 17, none, .prim (.pick (.tmp 13) (.const (Go.Value.bool Bool.true)) (.tmp 16))⟩])
    (.cond (.tmp 17)
    (.seq (.ops [⟨some 2, none, .prim (.mov (.const (Go.Value.bool Bool.false)))⟩])
    .ret)
    .skip))
    (.seq (.ops [⟨some 19, none, .prim (.fadr 2 (.tmp 1))⟩,
      ⟨some 20, none, .prim (.load 1 false (.tmp 19))⟩,
      ⟨some 21, none, .call (.func 74) [(.tmp 20)]⟩,
      ⟨some 18, none, .prim (.mov (.tmp 21))⟩,
      ⟨some 22, none, .prim (.extr 0 (.tmp 18))⟩,
      ⟨some 23, none, .prim (.extr 1 (.tmp 18))⟩,
      ⟨some 3, none, .fresh 19 3 (.tmp 22)⟩,
      ⟨some 4, none, .prim (.mov (.tmp 23))⟩])
    (.seq (.ops [⟨some 24, none, .prim (.mov (.tmp 4))⟩,
      ⟨some 25, none, .prim (.mov (.tmp 24))⟩,
      ⟨some 26, (some (25, true)), .prim (.fadr 3 (.tmp 1))⟩,
      ⟨some 27, (some (25, true)), .prim (.load 1 false (.tmp 26))⟩,
      ⟨some 28, (some (25, true)), .prim (.bin false .eql (.tmp 27) (.const (Go.Value.int Go.IntKind.i64 0)))⟩,
      ⟨some 29, (some (25, true)), .prim (.mov (.tmp 28))⟩,
      ⟨some 30, (some (29, false)), .prim (.fadr 3 (.tmp 1))⟩,
      ⟨some 31, (some (29, false)), .prim (.load 1 false (.tmp 30))⟩,
      ⟨some 32, (some (29, false)), .prim (.bin false .geq (.tmp 31) (.const (Go.Value.int Go.IntKind.i64 4)))⟩,
      ⟨some 33, (some (29, false)), .prim (.mov (.tmp 32))⟩,
      ⟨some 34, (some (33, true)), .prim (.fadr 3 (.tmp 1))⟩,
      ⟨some 35, (some (33, true)), .prim (.load 1 false (.tmp 34))⟩,
      ⟨some 36, (some (33, true)), .prim (.bin false .leq (.tmp 35) (.const (Go.Value.int Go.IntKind.i64 10)))⟩,
      ⟨some 37, (some (29, false)), .prim (.pick (.tmp 33) (.tmp 36) (.const (Go.Value.bool Bool.false)))⟩,
      ⟨some 38, (some (25, true)), .prim (.pick (.tmp 29) (.const (Go.Value.bool Bool.true)) (.tmp 37))⟩,
      ⟨some 39, none, .prim (.pick (.tmp 25) (.tmp 38) (.const (Go.Value.bool Bool.false)))⟩,
      ⟨some 2, none, .prim (.mov (.tmp 39))⟩])
    .ret))))
def o55 : List Tmp := []
def r55 : List RV := [.tmp 2]
theorem t55 : Text Tryz.prog 55 o55 c55 r55 40 := ⟨⟨Tryz.f55, _, by kernel_rfl, by kernel_rfl, rfl, by kernel_rfl, by kernel_rfl, rfl⟩, by kernel_rfl⟩

/-- sordine/chain.Link -/
def c56 : ACode :=
  (.seq (.ops [⟨some 2, none, .prim (.boxr (.tmp 0))⟩,
      ⟨some 4, none, .prim (.mov (.const (Go.Value.slice Option.none 0 0)))⟩])
    (.seq (.ops [⟨some 5, none, .prim (.bsl false 1 false 1 [.pl (.int .u8 0)] [(0, 1, (.const (Go.Value.int Go.IntKind.u8 1)))])⟩,
      ⟨some 6, none, .prim (.slca 32 (.tmp 2))⟩,
      ⟨some 7, none, .prim (.mov (.tmp 1))⟩,
      ⟨some 8, none, .prim (.bsl false 1 false 3 [.nils] [(0, 1, (.tmp 5)), (1, 1, (.tmp 6)), (2, 1, (.tmp 7))])⟩,
      ⟨some 9, none, .call (.func 44) [(.tmp 8)]⟩,
      ⟨some 4, none, .prim (.mov (.tmp 9))⟩])
    (.ghost (.shut 4) .ret)))
def o56 : List Tmp := []
def r56 : List RV := [.tmp 4]
theorem t56 : Text Tryz.prog 56 o56 c56 r56 10 := ⟨⟨Tryz.f56, _, by kernel_rfl, by kernel_rfl, rfl, by kernel_rfl, by kernel_rfl, rfl⟩, by kernel_rfl⟩

/-- (*sordine/pool.Pool).Has -/
def c57 : ACode :=
  (.seq (.ops [⟨some 4, none, .prim (.mov (.const (Go.Value.bool Bool.false)))⟩])
    (.seq (.ops [⟨some 8, none, .prim (.mov (.tmp 0))⟩,
      ⟨some 9, none, .prim (.nilc (.tmp 8))⟩,
      ⟨some 10, none, .prim (.fadr 2 (.tmp 9))⟩,
      ⟨some 11, none, .prim (.load 1 false (.tmp 10))⟩,
      ⟨some 12, none, .prim (.mov (.tmp 1))⟩,
      ⟨some 13, none, .call (.func 75) [(.tmp 11), (.tmp 12)]⟩,
      ⟨some 7, none, .prim (.mov (.tmp 13))⟩,
      ⟨some 14, none, .prim (.extr 0 (.tmp 7))⟩,
      ⟨some 15, none, .prim (.extr 1 (.tmp 7))⟩,
      ⟨some 5, none, .prim (.mov (.tmp 14))⟩,
      ⟨some 6, none, .prim (.mov (.tmp 15))⟩])
    (.seq (.ops [⟨some 16, none, .prim (.mov (.tmp 6))⟩,
      ⟨some 4, none, .prim (.mov (.tmp 16))⟩])
    .ret)))
def o57 : List Tmp := []
def r57 : List RV := [.tmp 4]
theorem t57 : Text Tryz.prog 57 o57 c57 r57 17 := ⟨⟨Tryz.f57, _, by kernel_rfl, by kernel_rfl, rfl, by kernel_rfl, by kernel_rfl, rfl⟩, by kernel_rfl⟩

/-- sordine/rows.Cut -/
def c58 : ACode :=
  (.seq (.ops [⟨some 4, none, .prim (.mov (.const (Go.Value.slice Option.none 0 0)))⟩])
    (.seq (.ops [⟨some 5, none, .prim (.mov (.tmp 0))⟩,
      ⟨some 6, none, .prim (.mov (.tmp 1))⟩,
      ⟨some 7, none, .prim (.bsl false 1 false 1 [.pl (.int .i64 0)] [(0, 1, (.tmp 6))])⟩,
      ⟨some 8, none, .call (.func 76) [(.tmp 5), (.tmp 7)]⟩,
      ⟨some 4, none, .prim (.mov (.tmp 8))⟩])
    (.ghost (.shut 4) .ret)))
def o58 : List Tmp := []
def r58 : List RV := [.tmp 4]
theorem t58 : Text Tryz.prog 58 o58 c58 r58 9 := ⟨⟨Tryz.f58, _, by kernel_rfl, by kernel_rfl, rfl, by kernel_rfl, by kernel_rfl, rfl⟩, by kernel_rfl⟩

/-- slices.DeleteFunc[[]sordine/token.owned,sordine/token.owned] -/
def c59 : ACode :=
  (.seq (.ops [⟨some 4, none, .prim (.mov (.const (Go.Value.slice Option.none 0 0)))⟩])
    (.seq (.ops [⟨some 8, none, .prim (.mov (.tmp 0))⟩,
      ⟨some 9, none, .prim (.mov (.tmp 1))⟩,
      ⟨some 10, none, .call (.func 77) [(.tmp 8), (.tmp 9)]⟩,
      ⟨some 5, none, .prim (.mov (.tmp 10))⟩])
    (.seq (.seq (.ops [⟨some 11, none, .prim (.mov (.tmp 5))⟩,
      ⟨some 12, none, .prim (.bin false .eql (.tmp 11) (.const (Go.Value.int Go.IntKind.i64 (-1))))⟩])
    (.cond (.tmp 12)
    (.seq (.ops [⟨some 13, none, .prim (.mov (.tmp 0))⟩,
      ⟨some 4, none, .prim (.mov (.tmp 13))⟩])
    .ret)
    .skip))
    (.seq (.seq (.ops [⟨some 14, none, .prim (.mov (.tmp 5))⟩,
      ⟨some 15, none, .prim (.bin false .add (.tmp 14) (.const (Go.Value.int Go.IntKind.i64 1)))⟩,
      ⟨some 6, none, .prim (.mov (.tmp 15))⟩])
    (.block 0 (.loop [2, 3, 4, 7, 8, 9, 10, 11, 12, 13, 14, 15, 16, 17, 18, 19, 20, 21, 22, 23, 24, 25, 26, 27, 28, 29, 30, 31, 32, 33, 34, 35, 36, 37, 38, 39, 40, 41] (.seq (.seq (.ops [⟨some 16, none, .prim (.mov (.tmp 6))⟩,
      ⟨some 17, none, .prim (.mov (.tmp 0))⟩,
      ⟨some 18, none, .prim (.lenv (.tmp 17))⟩,
      ⟨some 19, none, .prim (.bin false .lss (.tmp 16) (.tmp 18))⟩])
    (.cond (.tmp 19)
    .skip
    (.exit 0)))
    (.seq (.block 1 (.seq (.ops [⟨some 22, none, .prim (.mov (.tmp 0))⟩,
      ⟨some 23, none, .prim (.mov (.tmp 6))⟩,
      ⟨some 24, none, .prim (.iadrs 2 (.tmp 22) (.tmp 23))⟩,
      ⟨some 25, none, .prim (.load 2 true (.tmp 24))⟩,
      ⟨some 7, none, .fresh 2 7 (.tmp 25)⟩])
    (.seq (.ops [⟨some 26, none, .prim (.mov (.tmp 1))⟩,
      ⟨some 27, none, .prim (.load 2 true (.tmp 7))⟩,
      ⟨some 28, none, .call (.tmp 26) [(.tmp 27)]⟩,
      ⟨some 29, none, .prim (.un .not (.tmp 28))⟩])
    (.cond (.tmp 29)
    (.seq (.ops [⟨some 30, none, .prim (.mov (.tmp 0))⟩,
      ⟨some 31, none, .prim (.mov (.tmp 5))⟩,
      ⟨some 32, none, .prim (.load 2 true (.tmp 7))⟩,
      ⟨some 33, none, .prim (.iadrs 2 (.tmp 30) (.tmp 31))⟩,
      ⟨none, none, .prim (.store 2 (.tmp 33) (.tmp 32))⟩])
    (.ops [⟨some 34, none, .prim (.mov (.tmp 5))⟩,
      ⟨some 35, none, .prim (.bin false .add (.tmp 34) (.const (Go.Value.int Go.IntKind.i64 1)))⟩,
      ⟨some 5, none, .prim (.mov (.tmp 35))⟩]))
    .skip))))
    (.ops [⟨some 20, none, .prim (.mov (.tmp 6))⟩,
      ⟨some 21, none, .prim (.bin false .add (.tmp 20) (.const (Go.Value.int Go.IntKind.i64 1)))⟩,
      ⟨some 6, none, .prim (.mov (.tmp 21))⟩]))))))
    (.seq (.ops [⟨some 36, none, .prim (.mov (.tmp 0))⟩,
      ⟨some 37, none, .prim (.mov (.tmp 5))⟩,
      ⟨some 38, none, .prim (.slcw 2 (.tmp 36) (.tmp 37))⟩,
      ⟨none, none, .prim (.clr 2 true [.pl (.string .empty), .pl (.int .i64 0)] (.tmp 38))⟩])
    (.seq (.ops [⟨some 39, none, .prim (.mov (.tmp 0))⟩,
      ⟨some 40, none, .prim (.mov (.tmp 5))⟩,
      ⟨some 41, none, .prim (.slco 2 (.tmp 39) none (some (.tmp 40)))⟩,
      ⟨some 4, none, .prim (.mov (.tmp 41))⟩])
    .ret))))))
def o59 : List Tmp := [38, 41]
def r59 : List RV := [.tmp 4]
theorem t59 : Text Tryz.prog 59 o59 c59 r59 42 := ⟨⟨Tryz.f59, _, by kernel_rfl, by kernel_rfl, rfl, by kernel_rfl, by kernel_rfl, rfl⟩, by kernel_rfl⟩

/-- (*sordine/token.Table).Drop$1 -/
def c60 : ACode :=
  (.seq (.ops [⟨some 2, none, .prim (.boxr (.tmp 0))⟩,
      ⟨some 3, none, .prim (.mov (.const (Go.Value.bool Bool.false)))⟩])
    (.seq (.ops [⟨some 4, none, .prim (.fadr 1 (.tmp 2))⟩,
      ⟨some 5, none, .prim (.load 1 false (.tmp 4))⟩,
      ⟨some 6, none, .prim (.load 1 false (.tmp 1))⟩,
      ⟨some 7, none, .prim (.bin false .eql (.tmp 5) (.tmp 6))⟩,
      ⟨some 3, none, .prim (.mov (.tmp 7))⟩])
    .ret))
def o60 : List Tmp := []
def r60 : List RV := [.tmp 3]
theorem t60 : Text Tryz.prog 60 o60 c60 r60 8 := ⟨⟨Tryz.f60, _, by kernel_rfl, by kernel_rfl, rfl, by kernel_rfl, by kernel_rfl, rfl⟩, by kernel_rfl⟩

/-- slices.Delete[[]sordine/token.owned,sordine/token.owned] -/
def c61 : ACode :=
  (.seq (.ops [⟨some 6, none, .prim (.mov (.const (Go.Value.slice Option.none 0 0)))⟩])
    (.seq (.ops [⟨some 8, none, .prim (.mov (.tmp 0))⟩,
      ⟨some 9, none, .prim (.mov (.tmp 1))⟩,
      ⟨some 10, none, .prim (.mov (.tmp 2))⟩,
      ⟨some 11, none, .prim (.mov (.tmp 0))⟩,
      ⟨some 12, none, .prim (.lenv (.tmp 11))⟩,
      ⟨some 13, none, .prim (.bad)⟩])
    (.seq (.seq (.ops [⟨some 14, none, .prim (.mov (.tmp 1))⟩,
      ⟨some 15, none, .prim (.mov (.tmp 2))⟩,
      ⟨some 16, none, .prim (.bin false .eql (.tmp 14) (.tmp 15))⟩])
    (.cond (.tmp 16)
    (.seq (.ops [⟨some 17, none, .prim (.mov (.tmp 0))⟩,
      ⟨some 6, none, .prim (.mov (.tmp 17))⟩])
    .ret)
    .skip))
    (.seq (.ops [⟨some 18, none, .prim (.mov (.tmp 0))⟩,
      ⟨some 19, none, .prim (.lenv (.tmp 18))⟩,
      ⟨some 7, none, .prim (.mov (.tmp 19))⟩])
    (.seq (.draw [⟨⟨some 20, none, .prim (.mov (.tmp 0))⟩, [], false, 0, 0⟩,
      ⟨⟨some 21, none, .prim (.mov (.tmp 1))⟩, [], false, 0, 0⟩,
      ⟨⟨some 22, none, .prim (.slcv 2 (.tmp 20) none (some (.tmp 21)))⟩, [0, 1], false, 0, 0⟩,
      ⟨⟨some 23, none, .prim (.mov (.tmp 0))⟩, [], false, 0, 0⟩,
      ⟨⟨some 24, none, .prim (.mov (.tmp 2))⟩, [], false, 0, 0⟩,
      ⟨⟨some 25, none, .prim (.slcv 2 (.tmp 23) (some (.tmp 24)) none)⟩, [3, 4], false, 0, 0⟩,
      ⟨⟨some 26, none, .prim (.app 2 (.tmp 22) (.tmp 25))⟩, [0, 1, 2, 3, 4, 5], true, 0, 0⟩,
      ⟨⟨some 0, none, .prim (.mov (.tmp 26))⟩, [0, 1, 2, 3, 4, 5, 6], false, 1, 1⟩])
    (.seq (.ops [⟨some 27, none, .prim (.mov (.tmp 0))⟩,
      ⟨some 28, none, .prim (.mov (.tmp 0))⟩,
      ⟨some 29, none, .prim (.lenv (.tmp 28))⟩,
      ⟨some 30, none, .prim (.mov (.tmp 7))⟩,
      ⟨some 31, none, .prim (.slcv 2 (.tmp 27) (some (.tmp 29)) (some (.tmp 30)))⟩,
      ⟨none, none, .prim (.clr 2 true [.pl (.string .empty), .pl (.int .i64 0)] (.tmp 31))⟩])
    (.seq (.ops [⟨some 32, none, .prim (.mov (.tmp 0))⟩,
      ⟨some 6, none, .prim (.mov (.tmp 32))⟩])
    .ret)))))))
def o61 : List Tmp := []
def r61 : List RV := [.tmp 6]
theorem t61 : Text Tryz.prog 61 o61 c61 r61 33 := ⟨⟨Tryz.f61, _, by kernel_rfl, by kernel_rfl, rfl, by kernel_rfl, by kernel_rfl, rfl⟩, by kernel_rfl⟩

/-- sordine/sha.Pad -/
def c62 : ACode :=
  (.seq (.ops [⟨some 2, none, .prim (.mov (.const (Go.Value.slice Option.none 0 0)))⟩])
    (.seq (.ops [⟨some 7, none, .prim (.mov (.tmp 0))⟩,
      ⟨some 8, none, .prim (.lenv (.tmp 7))⟩,
      ⟨some 9, none, .prim (.bin false .add (.tmp 8) (.const (Go.Value.int Go.IntKind.i64 1)))⟩,
      ⟨some 3, none, .prim (.mov (.tmp 9))⟩])
    (.seq (.block 0 (.loop [1, 2, 4, 5, 6, 7, 8, 9, 10, 11, 12, 13, 14, 15, 16, 17, 18, 19, 20, 21, 22, 23, 24, 25, 26, 27, 28, 29, 30, 31, 32, 33, 34, 35, 36, 37, 38, 39, 40, 41, 42, 43, 44] (.seq (.seq (.ops [⟨some 10, none, .prim (.mov (.tmp 3))⟩,
      ⟨some 11, none, .prim (.bin false .rem (.tmp 10) (.const (Go.Value.int Go.IntKind.i64 64)))⟩,
      ⟨some 12, none, .prim (.bin false .neq (.tmp 11) (.const (Go.Value.int Go.IntKind.i64 56)))⟩])
    (.cond (.tmp 12)
    .skip
    (.exit 0)))
    (.block 1 (.ops [⟨some 13, none, .prim (.mov (.tmp 3))⟩,
      ⟨some 14, none, .prim (.bin false .add (.tmp 13) (.const (Go.Value.int Go.IntKind.i64 1)))⟩,
      ⟨some 3, none, .prim (.mov (.tmp 14))⟩])))))
    (.seq (.ops [⟨some 15, none, .prim (.mov (.tmp 3))⟩,
      ⟨some 16, none, .prim (.bin false .add (.tmp 15) (.const (Go.Value.int Go.IntKind.i64 8)))⟩,
      ⟨some 17, none, .prim (.mks 1 false [.pl (.int .u8 0)] (.tmp 16) (.tmp 16))⟩,
      ⟨some 4, none, .prim (.mov (.tmp 17))⟩])
    (.seq (.ops [⟨some 18, none, .prim (.mov (.tmp 4))⟩,
      ⟨some 19, none, .prim (.mov (.tmp 0))⟩,
      ⟨some 20, none, .prim (.copy (.tmp 18) (.tmp 19))⟩])
    (.seq (.ops [⟨some 21, none, .prim (.mov (.tmp 4))⟩,
      ⟨some 22, none, .prim (.mov (.tmp 0))⟩,
      ⟨some 23, none, .prim (.lenv (.tmp 22))⟩,
      ⟨some 24, none, .prim (.iadrs 1 (.tmp 21) (.tmp 23))⟩,
      ⟨none, none, .prim (.store 1 (.tmp 24) (.const (Go.Value.int Go.IntKind.u8 128)))⟩])
    (.seq (.ops [⟨some 25, none, .prim (.mov (.tmp 0))⟩,
      ⟨some 26, none, .prim (.lenv (.tmp 25))⟩,
      ⟨some 27, none, .prim (.convi .u64 (.tmp 26))⟩,
      ⟨some 28, none, .prim (.bin false .mul (.tmp 27) (.const (Go.Value.int Go.IntKind.u64 8)))⟩,
      ⟨some 5, none, .prim (.mov (.tmp 28))⟩])
    (.seq (.seq (.ops [⟨some 29, none, .prim (.mov (.const (Go.Value.int Go.IntKind.i64 0)))⟩])
    (.block 2 (.loop [0, 1, 2, 6, 7, 8, 9, 10, 11, 12, 13, 14, 15, 16, 17, 18, 19, 20, 21, 22, 23, 24, 25, 26, 27, 28, 30, 31, 32, 33, 34, 35, 36, 37, 38, 39, 40, 41, 42, 43, 44] (.seq (.ops [⟨some 30, none, .prim (.bin false .lss (.tmp 29) (.const (Go.Value.int Go.IntKind.i64 8)))⟩])
    (.seq (.cond (.tmp 30)
    .skip
    (.exit 2))
    (.seq (.block 3 (.seq (.ops [⟨some 31, none, .prim (.mov (.tmp 29))⟩,
      ⟨some 6, none, .prim (.mov (.tmp 31))⟩])
    (.ops [⟨some 32, none, .prim (.mov (.tmp 4))⟩,
      ⟨some 33, none, .prim (.mov (.tmp 3))⟩,
      ⟨some 34, none, .prim (.mov (.tmp 6))⟩,
      ⟨some 35, none, .prim (.bin false .add (.tmp 33) (.tmp 34))⟩,
      ⟨some 36, none, .prim (.mov (.tmp 5))⟩,
      ⟨some 37, none, .prim (.mov (.tmp 6))⟩,
      ⟨some 38, none, .prim (.bin false .mul (.const (Go.Value.int Go.IntKind.i64 8)) (.tmp 37))⟩,
      ⟨some 39, none, .prim (.bin false .sub (.const (Go.Value.int Go.IntKind.i64 56)) (.tmp 38))⟩,
      ⟨some 40, none, .prim (.bin false .shr (.tmp 36) (.tmp 39))⟩,
      ⟨some 41, none, .prim (.convi .u8 (.tmp 40))⟩,
      ⟨some 42, none, .prim (.iadrs 1 (.tmp 32) (.tmp 35))⟩,
      ⟨none, none, .prim (.store 1 (.tmp 42) (.tmp 41))⟩])))
    (.ops [⟨some 43, none, .prim (.bin false .add (.tmp 29) (.const (Go.Value.int Go.IntKind.i64 1)))⟩,
      ⟨some 29, none, .prim (.mov (.tmp 43))⟩])))))))
    (.seq (.ops [⟨some 44, none, .prim (.mov (.tmp 4))⟩,
      ⟨some 2, none, .prim (.mov (.tmp 44))⟩])
    (.ghost (.shut 2) .ret))))))))))
def o62 : List Tmp := []
def r62 : List RV := [.tmp 2]
theorem t62 : Text Tryz.prog 62 o62 c62 r62 45 := ⟨⟨Tryz.f62, _, by kernel_rfl, by kernel_rfl, rfl, by kernel_rfl, by kernel_rfl, rfl⟩, by kernel_rfl⟩

/-- sordine/sha.Round -/
def c63 : ACode :=
  (.seq (.ops [⟨some 2, none, .prim (.boxr (.tmp 0))⟩,
      ⟨some 3, none, .prim (.boxr (.tmp 1))⟩,
      ⟨some 4, none, .prim (.allocm [.pl (.int .u32 0), .pl (.int .u32 0), .pl (.int .u32 0), .pl (.int .u32 0), .pl (.int .u32 0), .pl (.int .u32 0), .pl (.int .u32 0), .pl (.int .u32 0)])⟩])
    (.seq (.ops [⟨some 18, none, .prim (.load 64 true (.tmp 3))⟩,
      ⟨some 19, none, .call (.func 78) [(.tmp 18)]⟩,
      ⟨some 5, none, .fresh 64 5 (.tmp 19)⟩])
    (.seq (.ops [⟨some 20, none, .prim (.load 8 true (.tmp 2))⟩,
      ⟨some 6, none, .prim (.allocm [.pl (.int .u32 0), .pl (.int .u32 0), .pl (.int .u32 0), .pl (.int .u32 0), .pl (.int .u32 0), .pl (.int .u32 0), .pl (.int .u32 0), .pl (.int .u32 0)])⟩,
      ⟨none, none, .prim (.store 8 (.tmp 6) (.tmp 20))⟩])
    (.seq (.seq (.ops [⟨some 21, none, .prim (.mov (.const (Go.Value.int Go.IntKind.i64 0)))⟩])
    (.block 0 (.loop [0, 1, 3, 7, 8, 9, 10, 11, 12, 13, 14, 15, 16, 17, 18, 19, 20, 22, 23, 24, 25, 26, 27, 28, 29, 30, 31, 32, 33, 34, 35, 36, 37, 38, 39, 40, 41, 42, 43, 44, 45, 46, 47, 48, 49, 50, 51, 52, 53, 54, 55, 56, 57, 58, 59, 60, 61, 62, 63, 64, 65, 66, 67, 68, 69, 70, 71, 72, 73, 74, 75, 76, 77, 78, 79, 80, 81, 82, 83, 84, 85, 86, 87, 88, 89, 90, 91, 92, 93, 94, 95, 96, 97, 98, 99, 100, 101, 102, 103, 104, 105, 106, 107, 108, 109, 110, 111, 112, 113] (.seq (.ops [⟨some 22, none, .prim (.bin false .lss (.tmp 21) (.const (Go.Value.int Go.IntKind.i64 64)))⟩])
    (.seq (.cond (.tmp 22)
    .skip
    (.exit 0))
    (.seq (.block 1 (.seq (.ops [⟨some 23, none, .prim (.mov (.tmp 21))⟩,
      ⟨some 7, none, .prim (.mov (.tmp 23))⟩])
    (.seq (.draw [⟨⟨some 24, none, .prim (.iadra 1 8 (.tmp 6) (.const (Go.Value.int Go.IntKind.i64 0)))⟩, [], false, 0, 0⟩,
      ⟨⟨some 25, none, .prim (.load 1 false (.tmp 24))⟩, [0], false, 0, 0⟩,
      ⟨⟨some 26, none, .prim (.iadra 1 8 (.tmp 6) (.const (Go.Value.int Go.IntKind.i64 1)))⟩, [], false, 0, 0⟩,
      ⟨⟨some 27, none, .prim (.load 1 false (.tmp 26))⟩, [2], false, 0, 0⟩,
      ⟨⟨some 28, none, .prim (.iadra 1 8 (.tmp 6) (.const (Go.Value.int Go.IntKind.i64 2)))⟩, [], false, 0, 0⟩,
      ⟨⟨some 29, none, .prim (.load 1 false (.tmp 28))⟩, [4], false, 0, 0⟩,
      ⟨⟨some 30, none, .prim (.iadra 1 8 (.tmp 6) (.const (Go.Value.int Go.IntKind.i64 4)))⟩, [], false, 0, 0⟩,
      ⟨⟨some 31, none, .prim (.load 1 false (.tmp 30))⟩, [6], false, 0, 0⟩,
      ⟨⟨some 32, none, .prim (.iadra 1 8 (.tmp 6) (.const (Go.Value.int Go.IntKind.i64 5)))⟩, [], false, 0, 0⟩,
      ⟨⟨some 33, none, .prim (.load 1 false (.tmp 32))⟩, [8], false, 0, 0⟩,
      ⟨⟨some 34, none, .prim (.iadra 1 8 (.tmp 6) (.const (Go.Value.int Go.IntKind.i64 6)))⟩, [], false, 0, 0⟩,
      ⟨⟨some 35, none, .prim (.load 1 false (.tmp 34))⟩, [10], false, 0, 0⟩,
      ⟨⟨some 8, none, .prim (.mov (.tmp 25))⟩, [0, 1], false, 0, 0⟩,
      ⟨⟨some 9, none, .prim (.mov (.tmp 27))⟩, [0, 1, 2, 3, 12], false, 0, 0⟩,
      ⟨⟨some 10, none, .prim (.mov (.tmp 29))⟩, [0, 1, 2, 3, 4, 5, 12, 13], false, 0, 0⟩,
      ⟨⟨some 11, none, .prim (.mov (.tmp 31))⟩, [0, 1, 2, 3, 4, 5, 6, 7, 12, 13, 14], false, 0, 0⟩,
      ⟨⟨some 12, none, .prim (.mov (.tmp 33))⟩, [0, 1, 2, 3, 4, 5, 6, 7, 8, 9, 12, 13, 14, 15], false, 0, 0⟩,
      ⟨⟨some 13, none, .prim (.mov (.tmp 35))⟩, [0, 1, 2, 3, 4, 5, 6, 7, 8, 9, 10, 11, 12, 13, 14, 15, 16], false, 0, 0⟩])
    (.seq (.ops [⟨some 36, none, .prim (.mov (.tmp 11))⟩,
      ⟨some 37, none, .call (.func 79) [(.tmp 36), (.const (Go.Value.int Go.IntKind.i64 (-6)))]⟩,
      ⟨some 38, none, .prim (.mov (.tmp 11))⟩,
      ⟨some 39, none, .call (.func 79) [(.tmp 38), (.const (Go.Value.int Go.IntKind.i64 (-11)))]⟩,
      ⟨some 40, none, .prim (.bin false .xor (.tmp 37) (.tmp 39))⟩,
      ⟨some 41, none, .prim (.mov (.tmp 11))⟩,
      ⟨some 42, none, .call (.func 79) [(.tmp 41), (.const (Go.Value.int Go.IntKind.i64 (-25)))]⟩,
      ⟨some 43, none, .prim (.bin false .xor (.tmp 40) (.tmp 42))⟩,
      ⟨some 14, none, .prim (.mov (.tmp 43))⟩])
    (.seq (.draw [⟨⟨some 44, none, .prim (.iadra 1 8 (.tmp 6) (.const (Go.Value.int Go.IntKind.i64 7)))⟩, [], false, 0, 0⟩,
      ⟨⟨some 45, none, .prim (.load 1 false (.tmp 44))⟩, [0], false, 0, 0⟩,
      ⟨⟨some 46, none, .prim (.mov (.tmp 14))⟩, [], false, 0, 0⟩,
      ⟨⟨some 47, none, .prim (.bin false .add (.tmp 45) (.tmp 46))⟩, [0, 1, 2], false, 0, 0⟩,
      ⟨⟨some 48, none, .prim (.mov (.tmp 11))⟩, [], false, 0, 0⟩,
      ⟨⟨some 49, none, .prim (.mov (.tmp 12))⟩, [], false, 0, 0⟩,
      ⟨⟨some 50, none, .prim (.bin false .and (.tmp 48) (.tmp 49))⟩, [4, 5], false, 0, 0⟩,
      ⟨⟨some 51, none, .prim (.mov (.tmp 11))⟩, [], false, 0, 0⟩,
      ⟨⟨some 52, none, .prim (.un .xor (.tmp 51))⟩, [7], false, 0, 0⟩,
      ⟨⟨some 53, none, .prim (.mov (.tmp 13))⟩, [], false, 0, 0⟩,
      ⟨⟨some 54, none, .prim (.bin false .and (.tmp 52) (.tmp 53))⟩, [7, 8, 9], false, 0, 0⟩,
      ⟨⟨some 55, none, .prim (.bin false .xor (.tmp 50) (.tmp 54))⟩, [4, 5, 6, 7, 8, 9, 10], false, 0, 0⟩,
      ⟨⟨some 56, none, .prim (.bin false .add (.tmp 47) (.tmp 55))⟩, [0, 1, 2, 3, 4, 5, 6, 7, 8, 9, 10, 11], false, 0, 0⟩,
      ⟨⟨some 57, none, .prim (.mov (.tmp 7))⟩, [], false, 0, 0⟩,
      ⟨⟨some 58, none, .prim (.giadr 0 1 64 (.tmp 57))⟩, [13], false, 0, 0⟩,
      ⟨⟨some 59, none, .prim (.load 1 false (.tmp 58))⟩, [13, 14], false, 0, 0⟩,
      ⟨⟨some 60, none, .prim (.bin false .add (.tmp 56) (.tmp 59))⟩, [0, 1, 2, 3, 4, 5, 6, 7, 8, 9, 10, 11, 12, 13, 14, 15], false, 0, 0⟩,
      ⟨⟨some 61, none, .prim (.mov (.tmp 7))⟩, [], false, 0, 0⟩,
      ⟨⟨some 62, none, .prim (.iadra 1 64 (.tmp 5) (.tmp 61))⟩, [17], false, 0, 0⟩,
      ⟨⟨some 63, none, .prim (.load 1 false (.tmp 62))⟩, [17, 18], false, 0, 0⟩,
      ⟨⟨some 64, none, .prim (.bin false .add (.tmp 60) (.tmp 63))⟩, [0, 1, 2, 3, 4, 5, 6, 7, 8, 9, 10, 11, 12, 13, 14, 15, 16, 17, 18, 19], false, 0, 0⟩,
      ⟨⟨some 15, none, .prim (.mov (.tmp 64))⟩, [0, 1, 2, 3, 4, 5, 6, 7, 8, 9, 10, 11, 12, 13, 14, 15, 16, 17, 18, 19, 20], false, 0, 0⟩])
    (.seq (.ops [⟨some 65, none, .prim (.mov (.tmp 8))⟩,
      ⟨some 66, none, .call (.func 79) [(.tmp 65), (.const (Go.Value.int Go.IntKind.i64 (-2)))]⟩,
      ⟨some 67, none, .prim (.mov (.tmp 8))⟩,
      ⟨some 68, none, .call (.func 79) [(.tmp 67), (.const (Go.Value.int Go.IntKind.i64 (-13)))]⟩,
      ⟨some 69, none, .prim (.bin false .xor (.tmp 66) (.tmp 68))⟩,
      ⟨some 70, none, .prim (.mov (.tmp 8))⟩,
      ⟨some 71, none, .call (.func 79) [(.tmp 70), (.const (Go.Value.int Go.IntKind.i64 (-22)))]⟩,
      ⟨some 72, none, .prim (.bin false .xor (.tmp 69) (.tmp 71))⟩,
      ⟨some 14, none, .prim (.mov (.tmp 72))⟩])
    (.seq (.ops [⟨some 73, none, .prim (.mov (.tmp 14))⟩,
      ⟨some 74, none, .prim (.mov (.tmp 8))⟩,
      ⟨some 75, none, .prim (.mov (.tmp 9))⟩,
      ⟨some 76, none, .prim (.bin false .and (.tmp 74) (.tmp 75))⟩,
      ⟨some 77, none, .prim (.mov (.tmp 8))⟩,
      ⟨some 78, none, .prim (.mov (.tmp 10))⟩,
      ⟨some 79, none, .prim (.bin false .and (.tmp 77) (.tmp 78))⟩,
      ⟨some 80, none, .prim (.bin false .xor (.tmp 76) (.tmp 79))⟩,
      ⟨some 81, none, .prim (.mov (.tmp 9))⟩,
      ⟨some 82, none, .prim (.mov (.tmp 10))⟩,
      ⟨some 83, none, .prim (.bin false .and (.tmp 81) (.tmp 82))⟩,
      ⟨some 84, none, .prim (.bin false .xor (.tmp 80) (.tmp 83))⟩,
      ⟨some 85, none, .prim (.bin false .add (.tmp 73) (.tmp 84))⟩,
      ⟨some 16, none, .prim (.mov (.tmp 85))⟩])
    (.ops [⟨some 86, none, .prim (.mov (.tmp 15))⟩,
      ⟨some 87, none, .prim (.mov (.tmp 16))⟩,
      ⟨some 88, none, .prim (.bin false .add (.tmp 86) (.tmp 87))⟩,
      ⟨some 89, none, .prim (.mov (.tmp 8))⟩,
      ⟨some 90, none, .prim (.mov (.tmp 9))⟩,
      ⟨some 91, none, .prim (.mov (.tmp 10))⟩,
      ⟨some 92, none, .prim (.iadra 1 8 (.tmp 6) (.const (Go.Value.int Go.IntKind.i64 3)))⟩,
      ⟨some 93, none, .prim (.load 1 false (.tmp 92))⟩,
      ⟨some 94, none, .prim (.mov (.tmp 15))⟩,
      ⟨some 95, none, .prim (.bin false .add (.tmp 93) (.tmp 94))⟩,
      ⟨some 96, none, .prim (.mov (.tmp 11))⟩,
      ⟨some 97, none, .prim (.mov (.tmp 12))⟩,
      ⟨some 98, none, .prim (.mov (.tmp 13))⟩,
      ⟨some 99, none, .prim (.build [.pl (.int .u32 0), .pl (.int .u32 0), .pl (.int .u32 0), .pl (.int .u32 0), .pl (.int .u32 0), .pl (.int .u32 0), .pl (.int .u32 0), .pl (.int .u32 0)] [(0, 1, (.tmp 88)), (1, 1, (.tmp 89)), (2, 1, (.tmp 90)), (3, 1, (.tmp 91)), (4, 1, (.tmp 95)), (5, 1, (.tmp 96)), (6, 1, (.tmp 97)), (7, 1, (.tmp 98))])⟩,
      ⟨none, none, .prim (.store 8 (.tmp 6) (.tmp 99))⟩]))))))))
    (.ops [⟨some 100, none, .prim (.bin false .add (.tmp 21) (.const (Go.Value.int Go.IntKind.i64 1)))⟩,
      ⟨some 21, none, .prim (.mov (.tmp 100))⟩])))))))
    (.seq (.seq (.ops [⟨some 101, none, .prim (.mov (.const (Go.Value.int Go.IntKind.i64 0)))⟩])
    (.block 2 (.loop [0, 1, 3, 5, 7, 8, 9, 10, 11, 12, 13, 14, 15, 16, 17, 18, 19, 20, 21, 22, 23, 24, 25, 26, 27, 28, 29, 30, 31, 32, 33, 34, 35, 36, 37, 38, 39, 40, 41, 42, 43, 44, 45, 46, 47, 48, 49, 50, 51, 52, 53, 54, 55, 56, 57, 58, 59, 60, 61, 62, 63, 64, 65, 66, 67, 68, 69, 70, 71, 72, 73, 74, 75, 76, 77, 78, 79, 80, 81, 82, 83, 84, 85, 86, 87, 88, 89, 90, 91, 92, 93, 94, 95, 96, 97, 98, 99, 100, 102, 103, 104, 105, 106, 107, 108, 109, 110, 111, 112, 113] (.seq (.ops [⟨some 102, none, .prim (.bin false .lss (.tmp 101) (.const (Go.Value.int Go.IntKind.i64 8)))⟩])
    (.seq (.cond (.tmp 102)
    .skip
    (.exit 2))
    (.seq (.block 3 (.seq (.ops [⟨some 103, none, .prim (.mov (.tmp 101))⟩,
      ⟨some 17, none, .prim (.mov (.tmp 103))⟩])
    (.draw [⟨⟨some 104, none, .prim (.mov (.tmp 17))⟩, [], false, 0, 0⟩,
      ⟨⟨some 105, none, .prim (.iadra 1 8 (.tmp 6) (.tmp 104))⟩, [0], false, 0, 0⟩,
      ⟨⟨some 106, none, .prim (.load 1 false (.tmp 105))⟩, [0, 1], false, 0, 0⟩,
      ⟨⟨some 107, none, .prim (.mov (.tmp 17))⟩, [], false, 0, 0⟩,
      ⟨⟨some 108, none, .prim (.iadra 1 8 (.tmp 2) (.tmp 107))⟩, [3], false, 0, 0⟩,
      ⟨⟨some 109, none, .prim (.load 1 false (.tmp 108))⟩, [3, 4], false, 0, 0⟩,
      ⟨⟨some 110, none, .prim (.bin false .add (.tmp 106) (.tmp 109))⟩, [0, 1, 2, 3, 4, 5], false, 0, 0⟩,
      ⟨⟨some 111, none, .prim (.iadra 1 8 (.tmp 6) (.tmp 104))⟩, [0, 1, 2, 3, 4, 5, 6], false, 0, 0⟩,
      ⟨⟨none, none, .prim (.store 1 (.tmp 111) (.tmp 110))⟩, [0, 1, 2, 3, 4, 5, 6, 7], true, 0, 0⟩])))
    (.ops [⟨some 112, none, .prim (.bin false .add (.tmp 101) (.const (Go.Value.int Go.IntKind.i64 1)))⟩,
      ⟨some 101, none, .prim (.mov (.tmp 112))⟩])))))))
    (.seq (.ops [⟨some 113, none, .prim (.load 8 true (.tmp 6))⟩,
      ⟨none, none, .prim (.store 8 (.tmp 4) (.tmp 113))⟩])
    .ret))))))
def o63 : List Tmp := [4, 6]
def r63 : List RV := [.cell 4 8 true]
theorem t63 : Text Tryz.prog 63 o63 c63 r63 114 := ⟨⟨Tryz.f63, _, by kernel_rfl, by kernel_rfl, rfl, by kernel_rfl, by kernel_rfl, rfl⟩, by kernel_rfl⟩

/-- slices.pdqsortOrdered[string] -/
def c64 : ACode :=
  (.seq (.ops [⟨some 8, none, .prim (.mov (.const (Go.Value.bool Bool.true)))⟩])
    (.seq (.ops [⟨some 9, none, .prim (.mov (.const (Go.Value.bool Bool.true)))⟩])
    (.block 0 (.loop [4, 5, 6, 7, 10, 11, 12, 13, 14, 15, 16, 17, 18, 19, 20, 21, 22, 23, 24, 25, 26, 27, 28, 29, 30, 31, 32, 33, 34, 35, 36, 37, 38, 39, 40, 41, 42, 43, 44, 45, 46, 47, 48, 49, 50, 51, 52, 53, 54, 55, 56, 57, 58, 59, 60, 61, 62, 63, 64, 65, 66, 67, 68, 69, 70, 71, 72, 73, 74, 75, 76, 77, 78, 79, 80, 81, 82, 83, 84, 85, 86, 87, 88, 89, 90, 91, 92, 93, 94, 95, 96, 97, 98, 99, 100, 101, 102, 103, 104, 105, 106, 107, 108, 109, 110, 111, 112, 113, 114, 115, 116, 117, 118, 119, 120, 121, 122, 123, 124, 125, 126, 127, 128, 129, 130, 131, 132, 133] (.block 1 (.seq (.ops [⟨some 19, none, .prim (.mov (.tmp 2))⟩,
      ⟨some 20, none, .prim (.mov (.tmp 1))⟩,
      ⟨some 21, none, .prim (.bin false .sub (.tmp 19) (.tmp 20))⟩,
      ⟨some 10, none, .prim (.mov (.tmp 21))⟩])
    (.seq (.seq (.ops [⟨some 22, none, .prim (.mov (.tmp 10))⟩,
      ⟨some 23, none, .prim (.bin false .leq (.tmp 22) (.const (Go.Value.int Go.IntKind.i64 12)))⟩])
    (.cond (.tmp 23)
    (.seq (.ops [⟨some 24, none, .prim (.mov (.tmp 0))⟩,
      ⟨some 25, none, .prim (.mov (.tmp 1))⟩,
      ⟨some 26, none, .prim (.mov (.tmp 2))⟩,
      ⟨some 27, none, .call (.func 80) [(.tmp 24), (.tmp 25), (.tmp 26)]⟩])
    .ret)
    .skip))
    (.seq (.seq (.ops [⟨some 28, none, .prim (.mov (.tmp 3))⟩,
      ⟨some 29, none, .prim (.bin false .eql (.tmp 28) (.const (Go.Value.int Go.IntKind.i64 0)))⟩])
    (.cond (.tmp 29)
    (.seq (.ops [⟨some 30, none, .prim (.mov (.tmp 0))⟩,
      ⟨some 31, none, .prim (.mov (.tmp 1))⟩,
      ⟨some 32, none, .prim (.mov (.tmp 2))⟩,
      ⟨some 33, none, .call (.func 81) [(.tmp 30), (.tmp 31), (.tmp 32)]⟩])
    .ret)
    .skip))
    (.seq (.seq (.ops [⟨some 34, none, .prim (.mov (.tmp 8))⟩,
      ⟨some 35, none, .prim (.un .not (.tmp 34))⟩])
    (.cond (.tmp 35)
    (.seq (.ops [⟨some 36, none, .prim (.mov (.tmp 0))⟩,
      ⟨some 37, none, .prim (.mov (.tmp 1))⟩,
      ⟨some 38, none, .prim (.mov (.tmp 2))⟩,
      ⟨some 39, none, .call (.func 82) [(.tmp 36), (.tmp 37), (.tmp 38)]⟩])
    (.ops [⟨some 40, none, .prim (.mov (.tmp 3))⟩,
      ⟨some 41, none, .prim (.bin false .sub (.tmp 40) (.const (Go.Value.int Go.IntKind.i64 1)))⟩,
      ⟨some 3, none, .prim (.mov (.tmp 41))⟩]))
    .skip))
    (.seq (.ops [⟨some 43, none, .prim (.mov (.tmp 0))⟩,
      ⟨some 44, none, .prim (.mov (.tmp 1))⟩,
      ⟨some 45, none, .prim (.mov (.tmp 2))⟩,
      ⟨some 46, none, .call (.func 83) [(.tmp 43), (.tmp 44), (.tmp 45)]⟩,
      ⟨some 42, none, .prim (.mov (.tmp 46))⟩,
      ⟨some 47, none, .prim (.extr 0 (.tmp 42))⟩,
      ⟨some 48, none, .prim (.extr 1 (.tmp 42))⟩,
      ⟨some 11, none, .prim (.mov (.tmp 47))⟩,
      ⟨some 12, none, .prim (.mov (.tmp 48))⟩])
    (.seq (.seq (.ops [⟨some 49, none, .prim (.mov (.tmp 12))⟩,
      ⟨some 50, none, .prim (.bin false .eql (.tmp 49) (.const (Go.Value.int Go.IntKind.i64 2)))⟩])
    (.cond (.tmp 50)
    (.seq (.ops [⟨some 51, none, .prim (.mov (.tmp 0))⟩,
      ⟨some 52, none, .prim (.mov (.tmp 1))⟩,
      ⟨some 53, none, .prim (.mov (.tmp 2))⟩,
      ⟨some 54, none, .call (.func 84) [(.tmp 51), (.tmp 52), (.tmp 53)]⟩])
    (.seq (.ops [⟨some 55, none, .prim (.mov (.tmp 2))⟩,
      ⟨some 56, none, .prim (.bin false .sub (.tmp 55) (.const (Go.Value.int Go.IntKind.i64 1)))⟩,
      ⟨some 57, none, .prim (.mov (.tmp 11))⟩,
      ⟨some 58, none, .prim (.mov (.tmp 1))⟩,
      ⟨some 59, none, .prim (.bin false .sub (.tmp 57) (.tmp 58))⟩,
      ⟨some 60, none, .prim (.bin false .sub (.tmp 56) (.tmp 59))⟩,
      ⟨some 11, none, .prim (.mov (.tmp 60))⟩])
    (.ops [⟨some 12, none, .prim (.mov (.const (Go.Value.int Go.IntKind.i64 1)))⟩])))
    .skip))
    (.seq (.seq (.ops [⟨some 61, none, .prim (.mov (.tmp 8))⟩,
      ⟨some 62, none, .prim (.mov (.tmp 61))⟩,
      ⟨some 63, (some (62, true)), .prim (.mov (.tmp 9))⟩,
      ⟨some 64, none, .prim (.pick (.tmp 62) (.tmp 63) (.const (Go.Value.bool Bool.false)))⟩,
      ⟨some 65, none, .prim (.mov (.tmp 64))⟩,
      ⟨some 66, (some (65, true)), .prim (.mov (.tmp 12))⟩,
      ⟨some 67, (some (65, true)), .prim (.bin false .eql (.tmp 66) (.const (Go.Value.int Go.IntKind.i64 1)))⟩,
      ⟨some 68, none, .prim (.pick (.tmp 65) (.tmp 67) (.const (Go.Value.bool Bool.false)))⟩])
    (.cond (.tmp 68)
    (.seq (.ops [⟨some 69, none, .prim (.mov (.tmp 0))⟩,
      ⟨some 70, none, .prim (.mov (.tmp 1))⟩,
      ⟨some 71, none, .prim (.mov (.tmp 2))⟩,
      ⟨some 72, none, .call (.func 85) [(.tmp 69), (.tmp 70), (.tmp 71)]⟩])
    (.cond (.tmp 72)
    .ret
    .skip))
    .skip))
    (.seq (.seq (.draw [⟨⟨some 73, none, .prim (.mov (.tmp 1))⟩, [], false, 0, 0⟩,
      ⟨⟨some 74, none, .prim (.bin false .gtr (.tmp 73) (.const (Go.Value.int Go.IntKind.i64 0)))⟩, [0], false, 0, 0⟩,
      ⟨⟨some 75, none, .prim (.mov (.tmp 74))⟩, [0, 1], false, 0, 0⟩,
      ⟨⟨some 76, (some (75, true)), .prim (.mov (.tmp 0))⟩, [0, 1, 2], false, 0, 0⟩,
      ⟨⟨some 77, (some (75, true)), .prim (.mov (.tmp 1))⟩, [0, 1, 2], false, 0, 0⟩,
      ⟨⟨some 78, (some (75, true)), .prim (.bin false .sub (.tmp 77) (.const (Go.Value.int Go.IntKind.i64 1)))⟩, [0, 1, 2, 4], false, 0, 0⟩,
      ⟨⟨some 79, (some (75, true)), .prim (.iadrs 1 (.tmp 76) (.tmp 78))⟩, [0, 1, 2, 3, 4, 5], false, 0, 0⟩,
      ⟨⟨some 80, (some (75, true)), .prim (.load 1 false (.tmp 79))⟩, [0, 1, 2, 3, 4, 5, 6], false, 0, 0⟩,
      ⟨⟨some 81, (some (75, true)), .prim (.mov (.tmp 0))⟩, [0, 1, 2], false, 0, 0⟩,
      ⟨⟨some 82, (some (75, true)), .prim (.mov (.tmp 11))⟩, [0, 1, 2], false, 0, 0⟩,
      ⟨⟨some 83, (some (75, true)), .prim (.iadrs 1 (.tmp 81) (.tmp 82))⟩, [0, 1, 2, 8, 9], false, 0, 0⟩,
      ⟨⟨some 84, (some (75, true)), .prim (.load 1 false (.tmp 83))⟩, [0, 1, 2, 8, 9, 10], false, 0, 0⟩,
      ⟨⟨some 85, (some (75, true)), .call (.func 86) [(.tmp 80), (.tmp 84)]⟩, [0, 1, 2, 3, 4, 5, 6, 7, 8, 9, 10, 11], true, 0, 0⟩,
      ⟨⟨some 86, (some (75, true)), .prim (.un .not (.tmp 85))⟩, [0, 1, 2, 3, 4, 5, 6, 7, 8, 9, 10, 11, 12], false, 1, 1⟩,
      ⟨⟨some 87, none, .prim (.pick (.tmp 75) (.tmp 86) (.const (Go.Value.bool Bool.false)))⟩, [0, 1, 2, 3, 4, 5, 6, 7, 8, 9, 10, 11, 12, 13], false, 1, 1⟩])
    (.cond (.tmp 87)
    (.seq (.ops [⟨some 88, none, .prim (.mov (.tmp 0))⟩,
      ⟨some 89, none, .prim (.mov (.tmp 1))⟩,
      ⟨some 90, none, .prim (.mov (.tmp 2))⟩,
      ⟨some 91, none, .prim (.mov (.tmp 11))⟩,
      ⟨some 92, none, .call (.func 87) [(.tmp 88), (.tmp 89), (.tmp 90), (.tmp 91)]⟩,
      ⟨some 13, none, .prim (.mov (.tmp 92))⟩])
    (.seq (.ops [⟨some 93, none, .prim (.mov (.tmp 13))⟩,
      ⟨some 1, none, .prim (.mov (.tmp 93))⟩])
    (.exit 1)))
    .skip))
    (.seq (.ops [⟨some 95, none, .prim (.mov (.tmp 0))⟩,
      ⟨some 96, none, .prim (.mov (.tmp 1))⟩,
      ⟨some 97, none, .prim (.mov (.tmp 2))⟩,
      ⟨some 98, none, .prim (.mov (.tmp 11))⟩,
      ⟨some 99, none, .call (.func 88) [(.tmp 95), (.tmp 96), (.tmp 97), (.tmp 98)]⟩,
      ⟨some 94, none, .prim (.mov (.tmp 99))⟩,
      ⟨some 100, none, .prim (.extr 0 (.tmp 94))⟩,
      ⟨some 101, none, .prim (.extr 1 (.tmp 94))⟩,
      ⟨some 14, none, .prim (.mov (.tmp 100))⟩,
      ⟨some 15, none, .prim (.mov (.tmp 101))⟩])
    (.seq (.ops [⟨some 102, none, .prim (.mov (.tmp 15))⟩,
      ⟨some 9, none, .prim (.mov (.tmp 102))⟩])
    (.seq (.ops [⟨some 103, none, .prim (.mov (.tmp 14))⟩,
      ⟨some 104, none, .prim (.mov (.tmp 1))⟩,
      ⟨some 105, none, .prim (.bin false .sub (.tmp 103) (.tmp 104))⟩,
      ⟨some 106, none, .prim (.mov (.tmp 2))⟩,
      ⟨some 107, none, .prim (.mov (.tmp 14))⟩,
      ⟨some 108, none, .prim (.bin false .sub (.tmp 106) (.tmp 107))⟩,
      ⟨some 16, none, .prim (.mov (.tmp 105))⟩,
      ⟨some 17, none, .prim (.mov (.tmp 108))⟩])
    (.seq (.ops [⟨some 109, none, .prim (.mov (.tmp 10))⟩,
      ⟨some 110, none, .prim (.bin false .quo (.tmp 109) (.const (Go.Value.int Go.IntKind.i64 8)))⟩,
      ⟨some 18, none, .prim (.mov (.tmp 110))⟩])
    (.seq (.ops [⟨some 111, none, .prim (.mov (.tmp 16))⟩,
      ⟨some 112, none, .prim (.mov (.tmp 17))⟩,
      ⟨some 113, none, .prim (.bin false .lss (.tmp 111) (.tmp 112))⟩])
    (.cond (.tmp 113)
    (.seq (.ops [⟨some 114, none, .prim (.mov (.tmp 16))⟩,
      ⟨some 115, none, .prim (.mov (.tmp 18))⟩,
      ⟨some 116, none, .prim (.bin false .geq (.tmp 114) (.tmp 115))⟩,
      ⟨some 8, none, .prim (.mov (.tmp 116))⟩])
    (.seq (.ops [⟨some 117, none, .prim (.mov (.tmp 0))⟩,
      ⟨some 118, none, .prim (.mov (.tmp 1))⟩,
      ⟨some 119, none, .prim (.mov (.tmp 14))⟩,
      ⟨some 120, none, .prim (.mov (.tmp 3))⟩,
      ⟨some 121, none, .call (.func 64) [(.tmp 117), (.tmp 118), (.tmp 119), (.tmp 120)]⟩])
    (.ops [⟨some 122, none, .prim (.mov (.tmp 14))⟩,
      ⟨some 123, none, .prim (.bin false .add (.tmp 122) (.const (Go.Value.int Go.IntKind.i64 1)))⟩,
      ⟨some 1, none, .prim (.mov (.tmp 123))⟩])))
    (.seq (.ops [⟨some 124, none, .prim (.mov (.tmp 17))⟩,
      ⟨some 125, none, .prim (.mov (.tmp 18))⟩,
      ⟨some 126, none, .prim (.bin false .geq (.tmp 124) (.tmp 125))⟩,
      ⟨some 8, none, .prim (.mov (.tmp 126))⟩])
    (.seq (.ops [⟨some 127, none, .prim (.mov (.tmp 0))⟩,
      ⟨some 128, none, .prim (.mov (.tmp 14))⟩,
      ⟨some 129, none, .prim (.bin false .add (.tmp 128) (.const (Go.Value.int Go.IntKind.i64 1)))⟩,
      ⟨some 130, none, .prim (.mov (.tmp 2))⟩,
      ⟨some 131, none, .prim (.mov (.tmp 3))⟩,
      ⟨some 132, none, .call (.func 64) [(.tmp 127), (.tmp 129), (.tmp 130), (.tmp 131)]⟩])
    (.ops [⟨some 133, none, .prim (.mov (.tmp 14))⟩,
      ⟨some 2, none, .prim (.mov (.tmp 133))⟩]))))))))))))))))))))))
def o64 : List Tmp := []
def r64 : List RV := []
theorem t64 : Text Tryz.prog 64 o64 c64 r64 134 := ⟨⟨Tryz.f64, _, by kernel_rfl, by kernel_rfl, rfl, by kernel_rfl, by kernel_rfl, rfl⟩, by kernel_rfl⟩

/-- math/bits.Len -/
def c65 : ACode :=
  (.seq (.ops [⟨some 2, none, .prim (.mov (.const (Go.Value.int Go.IntKind.i64 0)))⟩])
    (.seq (.cond (.const (Go.Value.bool Bool.false))
    (.seq (.ops [⟨some 3, none, .prim (.mov (.tmp 0))⟩,
      ⟨some 4, none, .prim (.convi .u32 (.tmp 3))⟩,
      ⟨some 5, none, .call (.func 89) [(.tmp 4)]⟩,
      ⟨some 2, none, .prim (.mov (.tmp 5))⟩])
    .ret)
    .skip)
    (.seq (.ops [⟨some 6, none, .prim (.mov (.tmp 0))⟩,
      ⟨some 7, none, .call (.func 90) [(.tmp 6)]⟩,
      ⟨some 2, none, .prim (.mov (.tmp 7))⟩])
    .ret)))
def o65 : List Tmp := []
def r65 : List RV := [.tmp 2]
theorem t65 : Text Tryz.prog 65 o65 c65 r65 8 := ⟨⟨Tryz.f65, _, by kernel_rfl, by kernel_rfl, rfl, by kernel_rfl, by kernel_rfl, rfl⟩, by kernel_rfl⟩

/-- sordine/req.zero -/
def c66 : ACode :=
  (.seq (.ops [⟨some 2, none, .prim (.boxr (.tmp 0))⟩,
      ⟨some 4, none, .prim (.mov (.const (Go.Value.bool Bool.false)))⟩])
    (.seq (.ops [⟨some 5, none, .prim (.mov (.tmp 1))⟩,
      ⟨some 6, none, .prim (.bin false .and (.tmp 5) (.const (Go.Value.int Go.IntKind.i64 1)))⟩,
      ⟨some 7, none, .prim (.bin false .gtr (.tmp 6) (.const (Go.Value.int Go.IntKind.i64 0)))⟩,
      ⟨some 8, none, .prim (.mov (.tmp 7))⟩,
      ⟨some 9, (some (8, false)), .prim (.fadr 2 (.tmp 2))⟩,
      ⟨some 10, (some (8, false)), .prim (.load 1 false (.tmp 9))⟩,
      ⟨some 11, (some (8, false)), .prim (.bin false .eql (.tmp 10) (.const (Go.Value.int Go.IntKind.i64 0)))⟩,
      ⟨some 12, none, .prim (.pick (.tmp 8) (.const (Go.Value.bool Bool.true)) (.tmp 11))⟩,
      ⟨some 13, none, .prim (.mov (.tmp 12))⟩,
      ⟨some 14, (some (13, true)), .prim (.mov (.tmp 1))⟩,
      ⟨some 15, (some (13, true)), .prim (.bin false .and (.tmp 14) (.const (Go.Value.int Go.IntKind.i64 2)))⟩,
      ⟨some 16, (some (13, true)), .prim (.bin false .gtr (.tmp 15) (.const (Go.Value.int Go.IntKind.i64 0)))⟩,
      ⟨some 17, (some (13, true)), .prim (.mov (.tmp 16))⟩,
      ⟨some 18, (some (17, false)), .prim (.fadr 3 (.tmp 2))⟩,
      ⟨some 19, (some (17, false)), .prim (.load 1 false (.tmp 18))⟩,
      ⟨some 20, (some (17, false)), .prim (.bin false .eql (.tmp 19) (.const (Go.Value.string (ByteArray.mk #[]))))⟩,
      ⟨some 21, (some (13, true)), .prim (.pick (.tmp 17) (.const (Go.Value.bool Bool.true)) (.tmp 20))⟩,
      ⟨some 22, none, .prim (.pick (.tmp 13) (.tmp 21) (.const (Go.Value.bool Bool.false)))⟩,
      ⟨some 23, none, .prim (.mov (.tmp 22))⟩,
      ⟨some 24, (some (23, true)), .prim (.mov (.tmp 1))⟩,
      ⟨some 25, (some (23, true)), .prim (.bin false .and (.tmp 24) (.const (Go.Value.int Go.IntKind.i64 4)))⟩,
      ⟨some 26, (some (23, true)), .prim (.bin false .gtr (.tmp 25) (.const (Go.Value.int Go.IntKind.i64 0)))⟩,
      ⟨some 27, (some (23, true)), .prim (.mov (.tmp 26))⟩,
      ⟨some 28, (some (27, false)), .prim (.fadr 4 (.tmp 2))⟩,
      ⟨some 29, (some (27, false)), .prim (.load 1 false (.tmp 28))⟩,
      ⟨some 30, (some (27, false)), .prim (.bin false .eql (.tmp 29) (.const (Go.Value.int Go.IntKind.u64 0)))⟩,
      ⟨some 31, (some (27, false)), .prim (.mov (.tmp 30))⟩,
      ⟨some 32, (some (31, true)), .prim (.fadr 5 (.tmp 2))⟩,
      ⟨some 33, (some (31, true)), .prim (.load 1 false (.tmp 32))⟩,
      ⟨some 34, (some (31, true)), .prim (.bin false .eql (.tmp 33) (.const (Go.Value.int Go.IntKind.u64 0)))⟩,
      ⟨some 35, (some (27, false)), .prim (.pick (.tmp 31) (.tmp 34) (.const (Go.Value.bool Bool.false)))⟩,
      ⟨some 36, (some (23, true)), .prim (.pick (.tmp 27) (.const (Go.Value.bool Bool.true)) (.tmp 35))⟩,
      ⟨some 37, none, .prim (.pick (.tmp 23) (.tmp 36) (.const (Go.Value.bool Bool.false)))⟩,
      ⟨some 38, none, .prim (.mov (.tmp 37))⟩,
      ⟨some 39, (some (38, true)), .prim (.mov (.tmp 1))⟩,
      ⟨some 40, (some (38, true)), .prim (.bin false .and (.tmp 39) (.const (Go.Value.int Go.IntKind.i64 8)))⟩,
      ⟨some 41, (some (38, true)), .prim (.bin false .gtr (.tmp 40) (.const (Go.Value.int Go.IntKind.i64 0)))⟩,
      ⟨some 42, (some (38, true)), .prim (.mov (.tmp 41))⟩,
      ⟨some 43, (some (42, false)), .prim (.fadr 6 (.tmp 2))⟩,
      ⟨some 44, (some (42, false)), .prim (.load 1 false (.tmp 43))⟩,
      ⟨some 45, (some (42, false)), .prim (.bin false .eql (.tmp 44) (.const (Go.Value.int Go.IntKind.i64 0)))⟩,
      ⟨some 46, (some (38, true)), .prim (.pick (.tmp 42) (.const (Go.Value.bool Bool.true)) (.tmp 45))⟩,
      ⟨some 47, none, .prim (.pick (.tmp 38) (.tmp 46) (.const (Go.Value.bool Bool.false)))⟩,
      ⟨some 48, none, .prim (.mov (.tmp 47))⟩,
      ⟨some 49, (some (48, true)), .prim (.mov (.tmp 1))⟩,
      ⟨some 50, (some (48, true)), .prim (.bin false .and (.tmp 49) (.const (Go.Value.int Go.IntKind.i64 16)))⟩,
      ⟨some 51, (some (48, true)), .prim (.bin false .gtr (.tmp 50) (.const (Go.Value.int Go.IntKind.i64 0)))⟩,
      ⟨some 52, (some (48, true)), .prim (.mov (.tmp 51))⟩,
      ⟨some 53, (some (52, false)), .prim (.fadr 7 (.tmp 2))⟩,
      ⟨some 54, (some (52, false)), .prim (.load 1 false (.tmp 53))⟩,
      ⟨some 55, (some (52, false)), .prim (.lenv (.tmp 54))⟩,
      ⟨some 56, (some (52, false)), .prim (.bin false .eql (.tmp 55) (.const (Go.Value.int Go.IntKind.i64 0)))⟩,
      ⟨some 57, (some (48, true)), .prim (.pick (.tmp 52) (.const (Go.Value.bool Bool.true)) (.tmp 56))⟩,
      ⟨some 58, none, .prim (.pick (.tmp 48) (.tmp 57) (.const (Go.Value.bool Bool.false)))⟩,
      ⟨some 59, none, .prim (.mov (.tmp 58))⟩,
      ⟨some 60, (some (59, true)), .prim (.mov (.tmp 1))⟩,
      ⟨some 61, (some (59, true)), .prim (.bin false .and (.tmp 60) (.const (Go.Value.int Go.IntKind.i64 64)))⟩,
      ⟨some 62, (some (59, true)), .prim (.bin false .gtr (.tmp 61) (.const (Go.Value.int Go.IntKind.i64 0)))⟩,
      ⟨some 63, (some (59, true)), .prim (.mov (.tmp 62))⟩,
      ⟨some 64, (some (63, false)), .prim (.fadr 8 (.tmp 2))⟩,
      ⟨some 65, (some (63, false)), .prim (.load 3 true (.tmp 64))⟩,
      ⟨some 66, (some (63, false)), .call (.func 91) [(.tmp 65)]⟩,
      ⟨some 67, (some (59, true)), .prim (.pick (.tmp 63) (.const (Go.Value.bool Bool.true)) (.tmp 66))⟩,
      ⟨some 68, none, .prim (.pick (.tmp 59) (.tmp 67) (.const (Go.Value.bool Bool.false)))⟩,
      ⟨some 69, none, .prim (.mov (.tmp 68))⟩,
      ⟨some 70, (some (69, true)), .prim (.mov (.tmp 1))⟩,
      ⟨some 71, (some (69, true)), .prim (.bin false .and (.tmp 70) (.const (Go.Value.int Go.IntKind.i64 128)))⟩,
      ⟨some 72, (some (69, true)), .prim (.bin false .gtr (.tmp 71) (.const (Go.Value.int Go.IntKind.i64 0)))⟩,
      ⟨some 73, (some (69, true)), .prim (.mov (.tmp 72))⟩,
      ⟨some 74, (some (73, false)), .prim (.fadr 11 (.tmp 2))⟩,
      ⟨some 75, (some (73, false)), .prim (.load 6 true (.tmp 74))⟩,
      ⟨some 76, (some (73, false)), .call (.func 92) [(.tmp 75)]⟩,
      ⟨some 77, (some (69, true)), .prim (.pick (.tmp 73) (.const (Go.Value.bool Bool.true)) (.tmp 76))⟩,
      ⟨some 78, none, .prim (.pick (.tmp 69) (.tmp 77) (.const (Go.Value.bool Bool.false)))⟩,
      ⟨some 79, none, .prim (.mov (.tmp 78))⟩,
      ⟨some 80, (some (79, true)), .prim (.mov (.tmp 1))⟩,
      ⟨some 81, (some (79, true)), .prim (.bin false .and (.tmp 80) (.const (Go.Value.int Go.IntKind.i64 256)))⟩,
      ⟨some 82, (some (79, true)), .prim (.bin false .gtr (.tmp 81) (.const (Go.Value.int Go.IntKind.i64 0)))⟩,
      ⟨some 83, (some (79, true)), .prim (.mov (.tmp 82))⟩,
      ⟨some 84, (some (83, false)), .prim (.fadr 17 (.tmp 2))⟩,
      ⟨some 85, (some (83, false)), .prim (.load 1 false (.tmp 84))⟩,
      ⟨some 86, (some (83, false)), .prim (.lenv (.tmp 85))⟩,
      ⟨some 87, (some (83, false)), .prim (.bin false .eql (.tmp 86) (.const (Go.Value.int Go.IntKind.i64 0)))⟩,
      ⟨some 88, (some (79, true)), .prim (.pick (.tmp 83) (.const (Go.Value.bool Bool.true)) (.tmp 87))⟩,
      ⟨some 89, none, .prim (.pick (.tmp 79) (.tmp 88) (.const (Go.Value.bool Bool.false)))⟩,
      ⟨some 90, none, .prim (.mov (.tmp 89))⟩,
      ⟨some 91, (some (90, true)), .prim (.mov (.tmp 1))⟩,
      ⟨some 92, (some (90, true)), .prim (.bin false .and (.tmp 91) (.const (Go.Value.int Go.IntKind.i64 512)))⟩,
      ⟨some 93, (some (90, true)), .prim (.bin false .gtr (.tmp 92) (.const (Go.Value.int Go.IntKind.i64 0)))⟩,
      ⟨some 94, (some (90, true)), .prim (.mov (.tmp 93))⟩,
      ⟨some 95, (some (94, false)), .prim (.fadr 18 (.tmp 2))⟩,
      ⟨some 96, (some (94, false)), .prim (.load 1 false (.tmp 95))⟩,
      ⟨some 97, (some (94, false)), .call (.func 93) [(.tmp 96)]⟩,
      ⟨some 98, (some (90, true)), .prim (.pick (.tmp 94) (.const (Go.Value.bool Bool.true)) (.tmp 97))⟩,
      ⟨some 99, none, .prim (.pick (.tmp 90) (.tmp 98) (.const (Go.Value.bool Bool.false)))⟩,
      ⟨some 4, none, .prim (.mov (.tmp 99))⟩])
    .ret))
def o66 : List Tmp := []
def r66 : List RV := [.tmp 4]
theorem t66 : Text Tryz.prog 66 o66 c66 r66 100 := ⟨⟨Tryz.f66, _, by kernel_rfl, by kernel_rfl, rfl, by kernel_rfl, by kernel_rfl, rfl⟩, by kernel_rfl⟩

/-- sordine/req.right -/
def c67 : ACode :=
  (.seq (.ops [⟨some 2, none, .prim (.boxr (.tmp 0))⟩,
      ⟨some 4, none, .prim (.mov (.const (Go.Value.bool Bool.false)))⟩])
    (.seq (.ops [⟨some 5, none, .prim (.fadr 2 (.tmp 2))⟩,
      ⟨some 6, none, .prim (.load 1 false (.tmp 5))⟩,
      ⟨some 7, none, .prim (.bin false .geq (.tmp 6) (.const (Go.Value.int Go.IntKind.i64 0)))⟩,
      ⟨some 8, none, .prim (.mov (.tmp 7))⟩,
      ⟨some 9, (some (8, true)), .prim (.fadr 2 (.tmp 2))⟩,
      ⟨some 10, (some (8, true)), .prim (.load 1 false (.tmp 9))⟩,
      ⟨some 11, (some (8, true)), .prim (.bin false .leq (.tmp 10) (.const (Go.Value.int Go.IntKind.i64 2147483647)))⟩,
      ⟨some 12, none, .prim (.pick (.tmp 8) (.tmp 11) (.const (Go.Value.bool Bool.false)))⟩,
      ⟨some 13, none, .prim (.mov (.tmp 12))⟩,
      ⟨some 14, (some (13, true)), .prim (.mov (.tmp 1))⟩,
      ⟨some 15, (some (13, true)), .prim (.bin false .and (.tmp 14) (.const (Go.Value.int Go.IntKind.i64 2)))⟩,
      ⟨some 16, (some (13, true)), .prim (.bin false .eql (.tmp 15) (.const (Go.Value.int Go.IntKind.i64 0)))⟩,
      ⟨some 17, (some (13, true)), .prim (.mov (.tmp 16))⟩,
      ⟨some 18, (some (17, false)), .prim (.fadr 3 (.tmp 2))⟩,
      ⟨some 19, (some (17, false)), .prim (.load 1 false (.tmp 18))⟩,
      ⟨some 20, (some (17, false)), .call (.func 19) [(.tmp 19)]⟩,
      ⟨some 21, (some (13, true)), .prim (.pick (.tmp 17) (.const (Go.Value.bool Bool.true)) (.tmp 20))⟩,
      ⟨some 22, none, .prim (.pick (.tmp 13) (.tmp 21) (.const (Go.Value.bool Bool.false)))⟩,
      ⟨some 23, none, .prim (.mov (.tmp 22))⟩,
      ⟨some 24, (some (23, true)), .prim (.fadr 4 (.tmp 2))⟩,
      ⟨some 25, (some (23, true)), .prim (.load 1 false (.tmp 24))⟩,
      ⟨some 26, (some (23, true)), .prim (.bin false .leq (.tmp 25) (.const (Go.Value.int Go.IntKind.u64 1099511627776)))⟩,
      ⟨some 27, none, .prim (.pick (.tmp 23) (.tmp 26) (.const (Go.Value.bool Bool.false)))⟩,
      ⟨some 28, none, .prim (.mov (.tmp 27))⟩,
      ⟨some 29, (some (28, true)), .prim (.fadr 5 (.tmp 2))⟩,
      ⟨some 30, (some (28, true)), .prim (.load 1 false (.tmp 29))⟩,
      ⟨some 31, (some (28, true)), .prim (.bin false .leq (.tmp 30) (.const (Go.Value.int Go.IntKind.u64 1099511627776)))⟩,
      ⟨some 32, none, .prim (.pick (.tmp 28) (.tmp 31) (.const (Go.Value.bool Bool.false)))⟩,
      ⟨some 33, none, .prim (.mov (.tmp 32))⟩,
      ⟨some 34, (some (33, true)), .prim (.fadr 6 (.tmp 2))⟩,
      ⟨some 35, (some (33, true)), .prim (.load 1 false (.tmp 34))⟩,
      ⟨some 36, (some (33, true)), .prim (.bin false .geq (.tmp 35) (.const (Go.Value.int Go.IntKind.i64 0)))⟩,
      ⟨some 37, none, .prim (.pick (.tmp 33) (.tmp 36) (.const (Go.Value.bool Bool.false)))⟩,
      ⟨some 38, none, .prim (.mov (.tmp 37))⟩,
      ⟨some 39, (some (38, true)), .prim (.fadr 6 (.tmp 2))⟩,
      ⟨some 40, (some (38, true)), .prim (.load 1 false (.tmp 39))⟩,
      ⟨some 41, (some (38, true)), .prim (.bin false .leq (.tmp 40) (.const (Go.Value.int Go.IntKind.i64 3)))⟩,
      ⟨some 42, none, .prim (.pick (.tmp 38) (.tmp 41) (.const (Go.Value.bool Bool.false)))⟩,
      ⟨some 43, none, .prim (.mov (.tmp 42))⟩,
      ⟨some 44, (some (43, true)), .prim (.fadr 7 (.tmp 2))⟩,
      ⟨some 45, (some (43, true)), .prim (.load 1 false (.tmp 44))⟩,
      ⟨some 46, (some (43, true)), .call (.func 69) [(.tmp 45)]⟩,
      ⟨some 47, none, .prim (.pick (.tmp 43) (.tmp 46) (.const (Go.Value.bool Bool.false)))⟩,
      ⟨some 48, none, .prim (.mov (.tmp 47))⟩,
      ⟨some 49, (some (48, true)), .prim (.mov (.tmp 1))⟩,
      ⟨some 50, (some (48, true)), .prim (.bin false .and (.tmp 49) (.const (Go.Value.int Go.IntKind.i64 32)))⟩,
      ⟨some 51, (some (48, true)), .prim (.bin false .eql (.tmp 50) (.const (Go.Value.int Go.IntKind.i64 0)))⟩,
      ⟨some 52, (some (48, true)), .prim (.mov (.tmp 51))⟩,
      ⟨some 53, (some (52, false)), .prim (.fadr 7 (.tmp 2))⟩,
      ⟨some 54, (some (52, false)), .prim (.load 1 false (.tmp 53))⟩,
      ⟨some 55, (some (52, false)), .prim (.lenv (.tmp 54))⟩,
      ⟨some 56, (some (52, false)), .prim (.bin false .gtr (.tmp 55) (.const (Go.Value.int Go.IntKind.i64 0)))⟩,
      ⟨some 57, (some (48, true)), .prim (.pick (.tmp 52) (.const (Go.Value.bool Bool.true)) (.tmp 56))⟩,
      ⟨some 58, none, .prim (.pick (.tmp 48) (.tmp 57) (.const (Go.Value.bool Bool.false)))⟩,
      ⟨some 59, none, .prim (.mov (.tmp 58))⟩,
      ⟨some 60, (some (59, true)), .prim (.mov (.tmp 1))⟩,
      ⟨some 61, (some (59, true)), .prim (.bin false .and (.tmp 60) (.const (Go.Value.int Go.IntKind.i64 64)))⟩,
      ⟨some 62, (some (59, true)), .prim (.bin false .eql (.tmp 61) (.const (Go.Value.int Go.IntKind.i64 0)))⟩,
      ⟨some 63, (some (59, true)), .prim (.mov (.tmp 62))⟩,
      ⟨some 64, (some (63, false)), .prim (.fadr 8 (.tmp 2))⟩,
      ⟨some 65, (some (63, false)), .prim (.load 3 true (.tmp 64))⟩,
      ⟨some 66, (some (63, false)), .call (.func 94) [(.tmp 65)]⟩,
      ⟨some 67, (some (59, true)), .prim (.pick (.tmp 63) (.const (Go.Value.bool Bool.true)) (.tmp 66))⟩,
      ⟨some 68, none, .prim (.pick (.tmp 59) (.tmp 67) (.const (Go.Value.bool Bool.false)))⟩,
      ⟨some 69, none, .prim (.mov (.tmp 68))⟩,
      ⟨some 70, (some (69, true)), .prim (.mov (.tmp 1))⟩,
      ⟨some 71, (some (69, true)), .prim (.bin false .and (.tmp 70) (.const (Go.Value.int Go.IntKind.i64 128)))⟩,
      ⟨some 72, (some (69, true)), .prim (.bin false .eql (.tmp 71) (.const (Go.Value.int Go.IntKind.i64 0)))⟩,
      ⟨some 73, (some (69, true)), .prim (.mov (.tmp 72))⟩,
      ⟨some 74, (some (73, false)), .prim (.fadr 11 (.tmp 2))⟩,
      ⟨some 75, (some (73, false)), .prim (.load 6 true (.tmp 74))⟩,
      ⟨some 76, (some (73, false)), .call (.func 70) [(.tmp 75)]⟩,
      ⟨some 77, (some (69, true)), .prim (.pick (.tmp 73) (.const (Go.Value.bool Bool.true)) (.tmp 76))⟩,
      ⟨some 78, none, .prim (.pick (.tmp 69) (.tmp 77) (.const (Go.Value.bool Bool.false)))⟩,
      ⟨some 79, none, .prim (.mov (.tmp 78))⟩,
      ⟨some 80, (some (79, true)), .prim (.mov (.tmp 1))⟩,
      ⟨some 81, (some (79, true)), .prim (.bin false .and (.tmp 80) (.const (Go.Value.int Go.IntKind.i64 256)))⟩,
      ⟨some 82, (some (79, true)), .prim (.bin false .eql (.tmp 81) (.const (Go.Value.int Go.IntKind.i64 0)))⟩,
      ⟨some 83, (some (79, true)), .prim (.mov (.tmp 82))⟩,
      ⟨some 84, (some (83, false)), .prim (.fadr 17 (.tmp 2))⟩,
      ⟨some 85, (some (83, false)), .prim (.load 1 false (.tmp 84))⟩,
      ⟨some 86, (some (83, false)), .call (.func 71) [(.tmp 85)]⟩,
      ⟨some 87, (some (79, true)), .prim (.pick (.tmp 83) (.const (Go.Value.bool Bool.true)) (.tmp 86))⟩,
      ⟨some 88, none, .prim (.pick (.tmp 79) (.tmp 87) (.const (Go.Value.bool Bool.false)))⟩,
      ⟨some 4, none, .prim (.mov (.tmp 88))⟩])
    .ret))
def o67 : List Tmp := []
def r67 : List RV := [.tmp 4]
theorem t67 : Text Tryz.prog 67 o67 c67 r67 89 := ⟨⟨Tryz.f67, _, by kernel_rfl, by kernel_rfl, rfl, by kernel_rfl, by kernel_rfl, rfl⟩, by kernel_rfl⟩

/-- slices.Grow[[]byte,byte] -/
def c68 : ACode :=
  (.seq (.ops [⟨some 4, none, .prim (.mov (.const (Go.Value.slice Option.none 0 0)))⟩])
    (.seq (.seq (.ops [⟨some 5, none, .prim (.mov (.tmp 1))⟩,
      ⟨some 6, none, .prim (.bin false .lss (.tmp 5) (.const (Go.Value.int Go.IntKind.i64 0)))⟩])
    (.cond (.tmp 6)
    (.ops [⟨some 7, none, .prim (.bad)⟩,
      ⟨none, none, .prim (.bad)⟩])
    .skip))
    (.seq (.seq (.ops [⟨some 8, none, .prim (.mov (.tmp 1))⟩,
      ⟨some 9, none, .prim (.mov (.tmp 0))⟩,
      ⟨some 10, none, .prim (.capn (.tmp 9))⟩,
      ⟨some 11, none, .prim (.mov (.tmp 0))⟩,
      ⟨some 12, none, .prim (.lenv (.tmp 11))⟩,
      ⟨some 13, none, .prim (.bin false .sub (.tmp 10) (.tmp 12))⟩,
      ⟨some 14, none, .prim (.bin false .sub (.tmp 8) (.tmp 13))⟩,
      ⟨some 1, none, .prim (.mov (.tmp 14))⟩])
    (.seq (.ops [⟨some 15, none, .prim (.mov (.tmp 1))⟩,
      ⟨some 16, none, .prim (.bin false .gtr (.tmp 15) (.const (Go.Value.int Go.IntKind.i64 0)))⟩])
    (.cond (.tmp 16)
    (.ops [⟨some 17, none, .prim (.mov (.tmp 0))⟩,
      ⟨some 18, none, .prim (.mov (.tmp 0))⟩,
      ⟨some 19, none, .prim (.capn (.tmp 18))⟩,
      ⟨some 20, none, .prim (.slco 1 (.tmp 17) none (some (.tmp 19)))⟩,
      ⟨some 21, none, .prim (.mov (.tmp 1))⟩,
      ⟨some 22, none, .prim (.appz 1 false [.pl (.int .u8 0)] (.tmp 20) (.tmp 21))⟩,
      ⟨some 23, none, .prim (.mov (.tmp 0))⟩,
      ⟨some 24, none, .prim (.lenv (.tmp 23))⟩,
      ⟨some 25, none, .prim (.slco 1 (.tmp 22) none (some (.tmp 24)))⟩,
      ⟨some 0, none, .prim (.mov (.tmp 25))⟩])
    .skip)))
    (.seq (.ops [⟨some 26, none, .prim (.mov (.tmp 0))⟩,
      ⟨some 4, none, .prim (.mov (.tmp 26))⟩])
    .ret))))
def o68 : List Tmp := [20, 25]
def r68 : List RV := [.tmp 4]
theorem t68 : Text Tryz.prog 68 o68 c68 r68 27 := ⟨⟨Tryz.f68, _, by kernel_rfl, by kernel_rfl, rfl, by kernel_rfl, by kernel_rfl, rfl⟩, by kernel_rfl⟩

/-- sordine/match.List -/
def c69 : ACode :=
  (.seq (.ops [⟨some 2, none, .prim (.mov (.const (Go.Value.bool Bool.false)))⟩])
    (.seq (.seq (.ops [⟨some 5, none, .prim (.mov (.tmp 0))⟩,
      ⟨some 6, none, .prim (.lenv (.tmp 5))⟩,
      ⟨some 7, none, .prim (.bin false .gtr (.tmp 6) (.const (Go.Value.int Go.IntKind.i64 5)))⟩])
    (.cond (.tmp 7)
    (.seq (.ops [⟨some 2, none, .prim (.mov (.const (Go.Value.bool Bool.false)))⟩])
    .ret)
    .skip))
    (.seq (.seq (.ops [⟨some 8, none, .prim (.mov (.tmp 0))⟩,
      ⟨some 9, none, .prim (.lenv (.tmp 8))⟩,
      ⟨some 10, none, .prim (.mov (.const (Go.Value.int Go.IntKind.i64 0)))⟩])
    (.block 0 (.loop [1, 2, 3, 4, 5, 6, 7, 11, 12, 13, 14, 15, 16, 17, 18, 19, 20, 21, 22, 23, 24, 25, 26, 27, 28, 29, 30, 31, 32] (.seq (.ops [⟨some 11, none, .prim (.bin false .lss (.tmp 10) (.tmp 9))⟩])
    (.seq (.cond (.tmp 11)
    .skip
    (.exit 0))
    (.seq (.block 1 (.seq (.ops [⟨some 12, none, .prim (.mov (.tmp 10))⟩,
      ⟨some 13, none, .prim (.iadrs 3 (.tmp 8) (.tmp 10))⟩,
      ⟨some 14, none, .prim (.load 3 true (.tmp 13))⟩,
      ⟨some 4, none, .prim (.allocm [.pl (.int .i64 0), .pl (.string .empty), .pl (.string .empty)])⟩,
      ⟨some 3, none, .prim (.mov (.tmp 12))⟩,
      ⟨none, none, .prim (.store 3 (.tmp 4) (.tmp 14))⟩])
    (.seq (.draw [⟨⟨some 15, none, .prim (.load 3 true (.tmp 4))⟩, [], false, 0, 0⟩,
      ⟨⟨some 16, none, .call (.func 95) [(.tmp 15)]⟩, [0], true, 0, 0⟩,
      ⟨⟨some 17, none, .prim (.un .not (.tmp 16))⟩, [0, 1], false, 1, 1⟩,
      ⟨⟨some 18, none, .prim (.mov (.tmp 17))⟩, [0, 1, 2], false, 1, 1⟩,
      ⟨⟨some 19, (some (18, false)), .prim (.mov (.tmp 3))⟩, [0, 1, 2, 3], false, 1, 1⟩,
      ⟨⟨some 20, (some (18, false)), .prim (.bin false .gtr (.tmp 19) (.const (Go.Value.int Go.IntKind.i64 0)))⟩, [0, 1, 2, 3, 4], false, 1, 1⟩,
      ⟨⟨some 21, (some (18, false)), .prim (.mov (.tmp 20))⟩, [0, 1, 2, 3, 4, 5], false, 1, 1⟩,
      ⟨⟨some 22, (some (21, true)), .prim (.mov (.tmp 0))⟩, [0, 1, 2, 3, 4, 5, 6], false, 1, 1⟩,
      ⟨⟨some 23, (some (21, true)), .prim (.mov (.tmp 3))⟩, [0, 1, 2, 3, 4, 5, 6], false, 1, 1⟩,
      ⟨⟨some 24, (some (21, true)), .prim (.bin false .sub (.tmp 23) (.const (Go.Value.int Go.IntKind.i64 1)))⟩, [0, 1, 2, 3, 4, 5, 6, 8], false, 1, 1⟩,
      ⟨⟨some 25, (some (21, true)), .prim (.iadrs 3 (.tmp 22) (.tmp 24))⟩, [0, 1, 2, 3, 4, 5, 6, 7, 8, 9], false, 1, 1⟩,
      ⟨⟨some 26, (some (21, true)), .prim (.load 3 true (.tmp 25))⟩, [0, 1, 2, 3, 4, 5, 6, 7, 8, 9, 10], false, 1, 1⟩,
      ⟨⟨some 27, (some (21, true)), .prim (.load 3 true (.tmp 4))⟩, [0, 1, 2, 3, 4, 5, 6], false, 1, 1⟩,
      ⟨⟨some 28, (some (21, true)), .call (.func 96) [(.tmp 26), (.tmp 27)]⟩, [0, 1, 2, 3, 4, 5, 6, 7, 8, 9, 10, 11, 12], true, 0, 0⟩,
      ⟨⟨some 29, (some (21, true)), .prim (.bin false .geq (.tmp 28) (.const (Go.Value.int Go.IntKind.i64 0)))⟩, [0, 1, 2, 3, 4, 5, 6, 7, 8, 9, 10, 11, 12, 13], false, 2, 2⟩,
      ⟨⟨some 30, (some (18, false)), .prim (.pick (.tmp 21) (.tmp 29) (.const (Go.Value.bool Bool.false)))⟩, [0, 1, 2, 3, 4, 5, 6, 7, 8, 9, 10, 11, 12, 13, 14], false, 2, 2⟩,
      ⟨⟨some 31, none, .prim (.pick (.tmp 18) (.const (Go.Value.bool Bool.true)) (.tmp 30))⟩, [0, 1, 2, 3, 4, 5, 6, 7, 8, 9, 10, 11, 12, 13, 14, 15], false, 2, 2⟩])
    (.cond (.tmp 31)
    (.seq (.ops [⟨some 2, none, .prim (.mov (.const (Go.Value.bool Bool.false)))⟩])
    .ret)
    .skip))))
    (.ops [⟨some 32, none, .prim (.bin false .add (.tmp 10) (.const (Go.Value.int Go.IntKind.i64 1)))⟩,
      ⟨some 10, none, .prim (.mov (.tmp 32))⟩])))))))
    (.seq (.ops [⟨some 2, none, .prim (.mov (.const (Go.Value.bool Bool.true)))⟩])
    .ret))))
def o69 : List Tmp := [4]
def r69 : List RV := [.tmp 2]
theorem t69 : Text Tryz.prog 69 o69 c69 r69 33 := ⟨⟨Tryz.f69, _, by kernel_rfl, by kernel_rfl, rfl, by kernel_rfl, by kernel_rfl, rfl⟩, by kernel_rfl⟩

/-- sordine/rule.Is -/
def c70 : ACode :=
  (.seq (.ops [⟨some 1, none, .prim (.boxr (.tmp 0))⟩,
      ⟨some 2, none, .prim (.mov (.const (Go.Value.bool Bool.false)))⟩])
    (.seq (.seq (.ops [⟨some 5, none, .prim (.fadr 0 (.tmp 1))⟩,
      ⟨some 6, none, .prim (.load 1 false (.tmp 5))⟩,
      ⟨some 7, none, .prim (.lenv (.tmp 6))⟩,
      ⟨some 8, none, .prim (.bin false .eql (.tmp 7) (.const (Go.Value.int Go.IntKind.i64 0)))⟩,
      ⟨some 9, none, .prim (.mov (.tmp 8))⟩,
      ⟨some 10, (some (9, false)), .prim (.fadr 1 (.tmp 1))⟩,
      ⟨some 11, (some (9, false)), .prim (.load 1 false (.tmp 10))⟩,
      ⟨some 12, (some (9, false)), .prim (.lenv (.tmp 11))⟩,
      ⟨some 13, (some (9, false)), .prim (.bin false .eql (.tmp 12) (.const (Go.Value.int Go.IntKind.i64 0)))⟩,
      ⟨some 14, none, .prim (.pick (.tmp 9) (.const (Go.Value.bool Bool.true)) (.tmp 13))⟩,
      ⟨some 15, none, .prim (.mov (.tmp 14))⟩,
      ⟨some 16, (some (15, false)), .prim (.fadr 0 (.tmp 1))⟩,
      ⟨some 17, (some (15, false)), .prim (.load 1 false (.tmp 16))⟩,
      ⟨some 18, (some (15, false)), .call (.func 69) [(.tmp 17)]⟩,
      ⟨some 19, (some (15, false)), .prim (.un .not (.tmp 18))⟩,
      ⟨some 20, none, .prim (.pick (.tmp 15) (.const (Go.Value.bool Bool.true)) (.tmp 19))⟩,
      ⟨some 21, none, .prim (.mov (.tmp 20))⟩,
      ⟨some 22, (some (21, false)), .prim (.fadr 1 (.tmp 1))⟩,
      ⟨some 23, (some (21, false)), .prim (.load 1 false (.tmp 22))⟩,
      ⟨some 24, (some (21, false)), .call (.func 69) [(.tmp 23)]⟩,
      ⟨some 25, (some (21, false)), .prim (.un .not (.tmp 24))⟩,
      ⟨some 26, none, .prim (.pick (.tmp 21) (.const (Go.Value.bool Bool.true)) (.tmp 25))⟩,
      ⟨some 27, none, .prim (.mov (.tmp 26))⟩,
      ⟨some 28, (some (27, false)), .prim (.fadr 2 (.tmp 1))⟩,
      ⟨some 29, (some (27, false)), .prim (.load 3 true (.tmp 28))⟩,
      ⟨some 30, (some (27, false)), .call (.func 94) [(.tmp 29)]⟩,
      ⟨some 31, (some (27, false)), .prim (.un .not (.tmp 30))⟩,
      ⟨some 32, none, .prim (.pick (.tmp 27) (.const (Go.Value.bool Bool.true)) (.tmp 31))⟩,
      ⟨some 33, none, .prim (.mov (.tmp 32))⟩,
      ⟨some 34, (some (33, false)), .prim (.fadr 5 (.tmp 1))⟩,
      ⟨some 35, (some (33, false)), .prim (.load 1 false (.tmp 34))⟩,
      ⟨some 36, (some (33, false)), .prim (.lenv (.tmp 35))⟩,
      ⟨some 37, (some (33, false)), .prim (.bin false .gtr (.tmp 36) (.const (Go.Value.int Go.IntKind.i64 4)))⟩,
      ⟨some 38, none, .prim (.pick (.tmp 33) (.const (Go.Value.bool Bool.true)) (.tmp 37))⟩])
    (.cond (.tmp 38)
    (.seq (.ops [⟨some 2, none, .prim (.mov (.const (Go.Value.bool Bool.false)))⟩])
    .ret)
    .skip))
    (.seq (.seq (.ops [⟨some 39, none, .prim (.fadr 5 (.tmp 1))⟩,
      ⟨some 40, none, .prim (.load 1 false (.tmp 39))⟩,
      ⟨some 41, none, .prim (.lenv (.tmp 40))⟩,
      ⟨some 42, none, .prim (.mov (.const (Go.Value.int Go.IntKind.i64 0)))⟩])
    (.block 0 (.loop [0, 2, 3, 4, 5, 6, 7, 8, 9, 10, 11, 12, 13, 14, 15, 16, 17, 18, 19, 20, 21, 22, 23, 24, 25, 26, 27, 28, 29, 30, 31, 32, 33, 34, 35, 36, 37, 38, 39, 43, 44, 45, 46, 47, 48, 49, 50, 51, 52, 53, 54, 55, 56, 57, 58, 59, 60, 61, 62, 63, 64] (.seq (.ops [⟨some 43, none, .prim (.bin false .lss (.tmp 42) (.tmp 41))⟩])
    (.seq (.cond (.tmp 43)
    .skip
    (.exit 0))
    (.seq (.block 1 (.seq (.ops [⟨some 44, none, .prim (.mov (.tmp 42))⟩,
      ⟨some 45, none, .prim (.iadrs 1 (.tmp 40) (.tmp 42))⟩,
      ⟨some 46, none, .prim (.load 1 false (.tmp 45))⟩,
      ⟨some 3, none, .prim (.mov (.tmp 44))⟩,
      ⟨some 4, none, .prim (.mov (.tmp 46))⟩])
    (.seq (.ops [⟨some 47, none, .prim (.mov (.tmp 4))⟩,
      ⟨some 48, none, .call (.func 97) [(.tmp 47)]⟩,
      ⟨some 49, none, .prim (.un .not (.tmp 48))⟩,
      ⟨some 50, none, .prim (.mov (.tmp 49))⟩,
      ⟨some 51, (some (50, false)), .prim (.mov (.tmp 3))⟩,
      ⟨some 52, (some (50, false)), .prim (.bin false .gtr (.tmp 51) (.const (Go.Value.int Go.IntKind.i64 0)))⟩,
      ⟨some 53, (some (50, false)), .prim (.mov (.tmp 52))⟩,
      ⟨some 54, (some (53, true)), .prim (.mov (.tmp 4))⟩,
      ⟨some 55, (some (53, true)), .prim (.fadr 5 (.tmp 1))⟩,
      ⟨some 56, (some (53, true)), .prim (.load 1 false (.tmp 55))⟩,
      ⟨some 57, (some (53, true)), .prim (.mov (.tmp 3))⟩,
      ⟨some 58, (some (53, true)), .prim (.bin false .sub (.tmp 57) (.const (Go.Value.int Go.IntKind.i64 1)))⟩,
      ⟨some 59, (some (53, true)), .prim (.iadrs 1 (.tmp 56) (.tmp 58))⟩,
      ⟨some 60, (some (53, true)), .prim (.load 1 false (.tmp 59))⟩,
      ⟨some 61, (some (53, true)), .prim (.bin false .leq (.tmp 54) (.tmp 60))⟩,
      ⟨some 62, (some (50, false)), .prim (.pick (.tmp 53) (.tmp 61) (.const (Go.Value.bool Bool.false)))⟩,
      ⟨some 63, none, .prim (.pick (.tmp 50) (.const (Go.Value.bool Bool.true)) (.tmp 62))⟩])
    (.cond (.tmp 63)
    (.seq (.ops [⟨some 2, none, .prim (.mov (.const (Go.Value.bool Bool.false)))⟩])
    .ret)
    .skip))))
    (.ops [⟨some 64, none, .prim (.bin false .add (.tmp 42) (.const (Go.Value.int Go.IntKind.i64 1)))⟩,
      ⟨some 42, none, .prim (.mov (.tmp 64))⟩])))))))
    (.seq (.ops [⟨some 2, none, .prim (.mov (.const (Go.Value.bool Bool.true)))⟩])
    .ret))))
def o70 : List Tmp := []
def r70 : List RV := [.tmp 2]
theorem t70 : Text Tryz.prog 70 o70 c70 r70 65 := ⟨⟨Tryz.f70, _, by kernel_rfl, by kernel_rfl, rfl, by kernel_rfl, by kernel_rfl, rfl⟩, by kernel_rfl⟩

/-- sordine/labels.Is -/
def c71 : ACode :=
  (.seq (.ops [⟨some 2, none, .prim (.mov (.const (Go.Value.bool Bool.false)))⟩])
    (.seq (.seq (.ops [⟨some 5, none, .prim (.mov (.tmp 0))⟩,
      ⟨some 6, none, .prim (.lenv (.tmp 5))⟩,
      ⟨some 7, none, .prim (.bin false .lss (.tmp 6) (.const (Go.Value.int Go.IntKind.i64 1)))⟩,
      ⟨some 8, none, .prim (.mov (.tmp 7))⟩,
      ⟨some 9, (some (8, false)), .prim (.mov (.tmp 0))⟩,
      ⟨some 10, (some (8, false)), .prim (.lenv (.tmp 9))⟩,
      ⟨some 11, (some (8, false)), .prim (.bin false .gtr (.tmp 10) (.const (Go.Value.int Go.IntKind.i64 6)))⟩,
      ⟨some 12, none, .prim (.pick (.tmp 8) (.const (Go.Value.bool Bool.true)) (.tmp 11))⟩])
    (.cond (.tmp 12)
    (.seq (.ops [⟨some 2, none, .prim (.mov (.const (Go.Value.bool Bool.false)))⟩])
    .ret)
    .skip))
    (.seq (.seq (.ops [⟨some 13, none, .prim (.mov (.tmp 0))⟩,
      ⟨some 14, none, .prim (.lenv (.tmp 13))⟩,
      ⟨some 15, none, .prim (.mov (.const (Go.Value.int Go.IntKind.i64 0)))⟩])
    (.block 0 (.loop [1, 2, 3, 4, 5, 6, 7, 8, 9, 10, 11, 12, 16, 17, 18, 19, 20, 21, 22, 23, 24, 25, 26, 27, 28, 29, 30, 31, 32, 33, 34, 35, 36, 37, 38, 39, 40, 41, 42, 43, 44, 45] (.seq (.ops [⟨some 16, none, .prim (.bin false .lss (.tmp 15) (.tmp 14))⟩])
    (.seq (.cond (.tmp 16)
    .skip
    (.exit 0))
    (.seq (.block 1 (.seq (.ops [⟨some 17, none, .prim (.mov (.tmp 15))⟩,
      ⟨some 18, none, .prim (.iadrs 2 (.tmp 13) (.tmp 15))⟩,
      ⟨some 19, none, .prim (.load 2 true (.tmp 18))⟩,
      ⟨some 4, none, .prim (.allocm [.pl (.string .empty), .pl (.string .empty)])⟩,
      ⟨some 3, none, .prim (.mov (.tmp 17))⟩,
      ⟨none, none, .prim (.store 2 (.tmp 4) (.tmp 19))⟩])
    (.seq (.draw [⟨⟨some 20, none, .prim (.fadr 0 (.tmp 4))⟩, [], false, 0, 0⟩,
      ⟨⟨some 21, none, .prim (.load 1 false (.tmp 20))⟩, [0], false, 0, 0⟩,
      ⟨⟨some 22, none, .call (.func 97) [(.tmp 21)]⟩, [0, 1], true, 0, 0⟩,
      ⟨⟨some 23, none, .prim (.un .not (.tmp 22))⟩, [0, 1, 2], false, 1, 1⟩,
      ⟨⟨some 24, none, .prim (.mov (.tmp 23))⟩, [0, 1, 2, 3], false, 1, 1⟩,
      ⟨⟨some 25, (some (24, false)), .prim (.fadr 1 (.tmp 4))⟩, [0, 1, 2, 3, 4], false, 1, 1⟩,
      ⟨⟨some 26, (some (24, false)), .prim (.load 1 false (.tmp 25))⟩, [0, 1, 2, 3, 4, 5], false, 1, 1⟩,
      ⟨⟨some 27, (some (24, false)), .call (.func 98) [(.tmp 26)]⟩, [0, 1, 2, 3, 4, 5, 6], true, 0, 0⟩,
      ⟨⟨some 28, (some (24, false)), .prim (.un .not (.tmp 27))⟩, [0, 1, 2, 3, 4, 5, 6, 7], false, 2, 2⟩,
      ⟨⟨some 29, none, .prim (.pick (.tmp 24) (.const (Go.Value.bool Bool.true)) (.tmp 28))⟩, [0, 1, 2, 3, 4, 5, 6, 7, 8], false, 2, 2⟩,
      ⟨⟨some 30, none, .prim (.mov (.tmp 29))⟩, [0, 1, 2, 3, 4, 5, 6, 7, 8, 9], false, 2, 2⟩,
      ⟨⟨some 31, (some (30, false)), .prim (.mov (.tmp 3))⟩, [0, 1, 2, 3, 4, 5, 6, 7, 8, 9, 10], false, 2, 2⟩,
      ⟨⟨some 32, (some (30, false)), .prim (.bin false .gtr (.tmp 31) (.const (Go.Value.int Go.IntKind.i64 0)))⟩, [0, 1, 2, 3, 4, 5, 6, 7, 8, 9, 10, 11], false, 2, 2⟩,
      ⟨⟨some 33, (some (30, false)), .prim (.mov (.tmp 32))⟩, [0, 1, 2, 3, 4, 5, 6, 7, 8, 9, 10, 11, 12], false, 2, 2⟩,
      ⟨⟨some 34, (some (33, true)), .prim (.fadr 0 (.tmp 4))⟩, [0, 1, 2, 3, 4, 5, 6, 7, 8, 9, 10, 11, 12, 13], false, 2, 2⟩,
      ⟨⟨some 35, (some (33, true)), .prim (.load 1 false (.tmp 34))⟩, [0, 1, 2, 3, 4, 5, 6, 7, 8, 9, 10, 11, 12, 13, 14], false, 2, 2⟩,
      ⟨⟨some 36, (some (33, true)), .prim (.mov (.tmp 0))⟩, [0, 1, 2, 3, 4, 5, 6, 7, 8, 9, 10, 11, 12, 13], false, 2, 2⟩,
      ⟨⟨some 37, (some (33, true)), .prim (.mov (.tmp 3))⟩, [0, 1, 2, 3, 4, 5, 6, 7, 8, 9, 10, 11, 12, 13], false, 2, 2⟩,
      ⟨⟨some 38, (some (33, true)), .prim (.bin false .sub (.tmp 37) (.const (Go.Value.int Go.IntKind.i64 1)))⟩, [0, 1, 2, 3, 4, 5, 6, 7, 8, 9, 10, 11, 12, 13, 17], false, 2, 2⟩,
      ⟨⟨some 39, (some (33, true)), .prim (.iadrs 2 (.tmp 36) (.tmp 38))⟩, [0, 1, 2, 3, 4, 5, 6, 7, 8, 9, 10, 11, 12, 13, 16, 17, 18], false, 2, 2⟩,
      ⟨⟨some 40, (some (33, true)), .prim (.fadr 0 (.tmp 39))⟩, [0, 1, 2, 3, 4, 5, 6, 7, 8, 9, 10, 11, 12, 13, 16, 17, 18, 19], false, 2, 2⟩,
      ⟨⟨some 41, (some (33, true)), .prim (.load 1 false (.tmp 40))⟩, [0, 1, 2, 3, 4, 5, 6, 7, 8, 9, 10, 11, 12, 13, 16, 17, 18, 19, 20], false, 2, 2⟩,
      ⟨⟨some 42, (some (33, true)), .prim (.bin false .leq (.tmp 35) (.tmp 41))⟩, [0, 1, 2, 3, 4, 5, 6, 7, 8, 9, 10, 11, 12, 13, 14, 15, 16, 17, 18, 19, 20, 21], false, 2, 2⟩,
      ⟨⟨some 43, (some (30, false)), .prim (.pick (.tmp 33) (.tmp 42) (.const (Go.Value.bool Bool.false)))⟩, [0, 1, 2, 3, 4, 5, 6, 7, 8, 9, 10, 11, 12, 13, 14, 15, 16, 17, 18, 19, 20, 21, 22], false, 2, 2⟩,
      ⟨⟨some 44, none, .prim (.pick (.tmp 30) (.const (Go.Value.bool Bool.true)) (.tmp 43))⟩, [0, 1, 2, 3, 4, 5, 6, 7, 8, 9, 10, 11, 12, 13, 14, 15, 16, 17, 18, 19, 20, 21, 22, 23], false, 2, 2⟩])
    (.cond (.tmp 44)
    (.seq (.ops [⟨some 2, none, .prim (.mov (.const (Go.Value.bool Bool.false)))⟩])
    .ret)
    .skip))))
    (.ops [⟨some 45, none, .prim (.bin false .add (.tmp 15) (.const (Go.Value.int Go.IntKind.i64 1)))⟩,
      ⟨some 15, none, .prim (.mov (.tmp 45))⟩])))))))
    (.seq (.ops [⟨some 2, none, .prim (.mov (.const (Go.Value.bool Bool.true)))⟩])
    .ret))))
def o71 : List Tmp := [4]
def r71 : List RV := [.tmp 2]
theorem t71 : Text Tryz.prog 71 o71 c71 r71 46 := ⟨⟨Tryz.f71, _, by kernel_rfl, by kernel_rfl, rfl, by kernel_rfl, by kernel_rfl, rfl⟩, by kernel_rfl⟩

/-- sordine/real.no -/
def c72 : ACode :=
  (.seq (.ops [⟨some 2, none, .prim (.mov (.const (Go.Value.bool Bool.false)))⟩])
    (.seq (.ops [⟨some 3, none, .prim (.mov (.tmp 0))⟩,
      ⟨some 4, none, .prim (.mov (.tmp 0))⟩,
      ⟨some 5, none, .prim (.bin false .neq (.tmp 3) (.tmp 4))⟩,
      ⟨some 2, none, .prim (.mov (.tmp 5))⟩])
    .ret))
def o72 : List Tmp := []
def r72 : List RV := [.tmp 2]
theorem t72 : Text Tryz.prog 72 o72 c72 r72 6 := ⟨⟨Tryz.f72, _, by kernel_rfl, by kernel_rfl, rfl, by kernel_rfl, by kernel_rfl, rfl⟩, by kernel_rfl⟩

/-- sordine/req.ReadBody -/
def c74 : ACode :=
  (.seq (.ops [⟨some 2, none, .prim (.allocm [.pl (.string .empty), .pl (.int .i64 0), .pl (.int .i64 0), .pl (.string .empty), .pl (.int .u64 0), .pl (.int .u64 0), .pl (.int .i64 0), .nils, .pl (.bool false), .pl (.float .f64 0), .pl (.float .f64 0), .nils, .nils, .pl (.bool false), .pl (.float .f64 0), .pl (.float .f64 0), .nils, .nils, .pl (.float .f64 0)])⟩,
      ⟨some 3, none, .prim (.mov (.const (Go.Value.bool Bool.false)))⟩])
    (.seq (.ops [⟨some 5, none, .prim (.mov (.tmp 0))⟩,
      ⟨some 6, none, .call (.func 99) [(.tmp 5)]⟩,
      ⟨some 4, none, .prim (.mov (.tmp 6))⟩])
    (.seq (.ops [⟨some 7, none, .prim (.mov (.tmp 4))⟩,
      ⟨some 8, none, .call (.func 101) [(.tmp 7)]⟩,
      ⟨some 9, none, .prim (.mov (.tmp 4))⟩,
      ⟨some 10, none, .prim (.mov (.tmp 0))⟩,
      ⟨some 11, none, .call (.func 100) [(.tmp 8), (.tmp 9), (.tmp 10)]⟩,
      ⟨some 12, none, .prim (.extr 0 (.tmp 11))⟩,
      ⟨some 13, none, .prim (.extr 1 (.tmp 11))⟩,
      ⟨none, none, .prim (.store 19 (.tmp 2) (.tmp 12))⟩,
      ⟨some 3, none, .prim (.mov (.tmp 13))⟩])
    .ret)))
def o74 : List Tmp := [2]
def r74 : List RV := [.cell 2 19 true, .tmp 3]
theorem t74 : Text Tryz.prog 74 o74 c74 r74 14 := ⟨⟨Tryz.f74, _, by kernel_rfl, by kernel_rfl, rfl, by kernel_rfl, by kernel_rfl, rfl⟩, by kernel_rfl⟩

/-- slices.BinarySearch[[]int,int] -/
def c75 : ACode :=
  (.seq (.ops [⟨some 4, none, .prim (.mov (.const (Go.Value.int Go.IntKind.i64 0)))⟩,
      ⟨some 5, none, .prim (.mov (.const (Go.Value.bool Bool.false)))⟩])
    (.seq (.ops [⟨some 10, none, .prim (.mov (.tmp 0))⟩,
      ⟨some 11, none, .prim (.lenv (.tmp 10))⟩,
      ⟨some 6, none, .prim (.mov (.tmp 11))⟩])
    (.seq (.ops [⟨some 12, none, .prim (.mov (.tmp 6))⟩,
      ⟨some 7, none, .prim (.mov (.const (Go.Value.int Go.IntKind.i64 0)))⟩,
      ⟨some 8, none, .prim (.mov (.tmp 12))⟩])
    (.seq (.block 0 (.loop [2, 3, 4, 5, 9, 10, 11, 12, 13, 14, 15, 16, 17, 18, 19, 20, 21, 22, 23, 24, 25, 26, 27, 28, 29, 30, 31, 32, 33, 34, 35, 36, 37, 38, 39, 40, 41, 42, 43, 44, 45, 46, 47, 48, 49, 50, 51, 52, 53] (.seq (.seq (.ops [⟨some 13, none, .prim (.mov (.tmp 7))⟩,
      ⟨some 14, none, .prim (.mov (.tmp 8))⟩,
      ⟨some 15, none, .prim (.bin false .lss (.tmp 13) (.tmp 14))⟩])
    (.cond (.tmp 15)
    .skip
    (.exit 0)))
    (.block 1 (.seq (.ops [⟨some 16, none, .prim (.mov (.tmp 7))⟩,
      ⟨some 17, none, .prim (.mov (.tmp 8))⟩,
      ⟨some 18, none, .prim (.bin false .add (.tmp 16) (.tmp 17))⟩,
      ⟨some 19, none, .prim (.convi .u64 (.tmp 18))⟩,
      ⟨some 20, none, .prim (.bin false .shr (.tmp 19) (.const (Go.Value.int Go.IntKind.u64 1)))⟩,
      ⟨some 21, none, .prim (.convi .i64 (.tmp 20))⟩,
      ⟨some 9, none, .prim (.mov (.tmp 21))⟩])
    (.seq (.ops [⟨some 22, none, .prim (.mov (.tmp 0))⟩,
      ⟨some 23, none, .prim (.mov (.tmp 9))⟩,
      ⟨some 24, none, .prim (.iadrs 1 (.tmp 22) (.tmp 23))⟩,
      ⟨some 25, none, .prim (.load 1 false (.tmp 24))⟩,
      ⟨some 26, none, .prim (.mov (.tmp 1))⟩,
      ⟨some 27, none, .call (.func 102) [(.tmp 25), (.tmp 26)]⟩])
    (.cond (.tmp 27)
    (.ops [⟨some 28, none, .prim (.mov (.tmp 9))⟩,
      ⟨some 29, none, .prim (.bin false .add (.tmp 28) (.const (Go.Value.int Go.IntKind.i64 1)))⟩,
      ⟨some 7, none, .prim (.mov (.tmp 29))⟩])
    (.ops [⟨some 30, none, .prim (.mov (.tmp 9))⟩,
      ⟨some 8, none, .prim (.mov (.tmp 30))⟩]))))))))
    (.seq (.ops [⟨some 31, none, .prim (.mov (.tmp 7))⟩,
      ⟨some 32, none, .prim (.mov (.tmp 7))⟩,
      ⟨some 33, none, .prim (.mov (.tmp 6))⟩,
      ⟨some 34, none, .prim (.bin false .lss (.tmp 32) (.tmp 33))⟩,
      ⟨some 35, none, .prim (.mov (.tmp 34))⟩,
      ⟨some 36, (some (35, true)), .prim (.mov (.tmp 0))⟩,
      ⟨some 37, (some (35, true)), .prim (.mov (.tmp 7))⟩,
      ⟨some 38, (some (35, true)), .prim (.iadrs 1 (.tmp 36) (.tmp 37))⟩,
      ⟨some 39, (some (35, true)), .prim (.load 1 false (.tmp 38))⟩,
      ⟨some 40, (some (35, true)), .prim (.mov (.tmp 1))⟩,
      ⟨some 41, (some (35, true)), .prim (.bin false .eql (.tmp 39) (.tmp 40))⟩,
      ⟨some 42, (some (35, true)), .prim (.mov (.tmp 41))⟩,
      ⟨some 43, (some (42, false)), .prim (.mov (.tmp 0))⟩,
      ⟨some 44, (some (42, false)), .prim (.mov (.tmp 7))⟩,
      ⟨some 45, (some (42, false)), .prim (.iadrs 1 (.tmp 43) (.tmp 44))⟩,
      ⟨some 46, (some (42, false)), .prim (.load 1 false (.tmp 45))⟩,
      ⟨some 47, (some (42, false)), .call (.func 103) [(.tmp 46)]⟩,
      ⟨some 48, (some (42, false)), .prim (.mov (.tmp 47))⟩,
      ⟨some 49, (some (48, true)), .prim (.mov (.tmp 1))⟩,
      ⟨some 50, (some (48, true)), .call (.func 103) [(.tmp 49)]⟩,
      ⟨some 51, (some (42, false)), .prim (.pick (.tmp 48) (.tmp 50) (.const (Go.Value.bool Bool.false)))⟩,
      ⟨some 52, (some (35, true)), .prim (.pick (.tmp 42) (.const (Go.Value.bool Bool.true)) (.tmp 51))⟩,
      ⟨some 53, none, .prim (.pick (.tmp 35) (.tmp 52) (.const (Go.Value.bool Bool.false)))⟩,
      ⟨some 4, none, .prim (.mov (.tmp 31))⟩,
      ⟨some 5, none, .prim (.mov (.tmp 53))⟩])
    .ret)))))
def o75 : List Tmp := []
def r75 : List RV := [.tmp 4, .tmp 5]
theorem t75 : Text Tryz.prog 75 o75 c75 r75 54 := ⟨⟨Tryz.f75, _, by kernel_rfl, by kernel_rfl, rfl, by kernel_rfl, by kernel_rfl, rfl⟩, by kernel_rfl⟩

/-- sordine/rows.Not -/
def c76 : ACode :=
  (.seq (.ops [⟨some 3, none, .prim (.boxr (.tmp 1))⟩,
      ⟨some 4, none, .prim (.mov (.const (Go.Value.slice Option.none 0 0)))⟩])
    (.seq (.ops [⟨some 5, none, .prim (.mov (.tmp 0))⟩,
      ⟨some 6, none, .prim (.mkfn 105 [] [(.tmp 3)])⟩,
      ⟨some 7, none, .call (.func 104) [(.tmp 5), (.tmp 6)]⟩,
      ⟨some 4, none, .prim (.mov (.tmp 7))⟩])
    (.ghost (.shut 4) .ret)))
def o76 : List Tmp := []
def r76 : List RV := [.tmp 4]
theorem t76 : Text Tryz.prog 76 o76 c76 r76 8 := ⟨⟨Tryz.f76, _, by kernel_rfl, by kernel_rfl, rfl, by kernel_rfl, by kernel_rfl, rfl⟩, by kernel_rfl⟩

/-- slices.IndexFunc[[]sordine/token.owned,sordine/token.owned] -/
def c77 : ACode :=
  (.seq (.ops [⟨some 4, none, .prim (.mov (.const (Go.Value.int Go.IntKind.i64 0)))⟩])
    (.seq (.seq (.ops [⟨some 6, none, .prim (.mov (.tmp 0))⟩,
      ⟨some 7, none, .prim (.lenv (.tmp 6))⟩,
      ⟨some 8, none, .prim (.mov (.const (Go.Value.int Go.IntKind.i64 0)))⟩])
    (.block 0 (.loop [2, 3, 4, 5, 6, 9, 10, 11, 12, 13, 14, 15, 16, 17, 18] (.seq (.ops [⟨some 9, none, .prim (.bin false .lss (.tmp 8) (.tmp 7))⟩])
    (.seq (.cond (.tmp 9)
    .skip
    (.exit 0))
    (.seq (.block 1 (.seq (.ops [⟨some 10, none, .prim (.mov (.tmp 8))⟩,
      ⟨some 5, none, .prim (.mov (.tmp 10))⟩])
    (.seq (.ops [⟨some 11, none, .prim (.mov (.tmp 1))⟩,
      ⟨some 12, none, .prim (.mov (.tmp 0))⟩,
      ⟨some 13, none, .prim (.mov (.tmp 5))⟩,
      ⟨some 14, none, .prim (.iadrs 2 (.tmp 12) (.tmp 13))⟩,
      ⟨some 15, none, .prim (.load 2 true (.tmp 14))⟩,
      ⟨some 16, none, .call (.tmp 11) [(.tmp 15)]⟩])
    (.cond (.tmp 16)
    (.seq (.ops [⟨some 17, none, .prim (.mov (.tmp 5))⟩,
      ⟨some 4, none, .prim (.mov (.tmp 17))⟩])
    .ret)
    .skip))))
    (.ops [⟨some 18, none, .prim (.bin false .add (.tmp 8) (.const (Go.Value.int Go.IntKind.i64 1)))⟩,
      ⟨some 8, none, .prim (.mov (.tmp 18))⟩])))))))
    (.seq (.ops [⟨some 4, none, .prim (.mov (.const (Go.Value.int Go.IntKind.i64 (-1))))⟩])
    .ret)))
def o77 : List Tmp := []
def r77 : List RV := [.tmp 4]
theorem t77 : Text Tryz.prog 77 o77 c77 r77 19 := ⟨⟨Tryz.f77, _, by kernel_rfl, by kernel_rfl, rfl, by kernel_rfl, by kernel_rfl, rfl⟩, by kernel_rfl⟩

/-- sordine/sha.spread -/
def c78 : ACode :=
  (.seq (.ops [⟨some 1, none, .prim (.boxr (.tmp 0))⟩,
      ⟨some 2, none, .prim (.allocm [.pl (.int .u32 0), .pl (.int .u32 0), .pl (.int .u32 0), .pl (.int .u32 0), .pl (.int .u32 0), .pl (.int .u32 0), .pl (.int .u32 0), .pl (.int .u32 0), .pl (.int .u32 0), .pl (.int .u32 0), .pl (.int .u32 0), .pl (.int .u32 0), .pl (.int .u32 0), .pl (.int .u32 0), .pl (.int .u32 0), .pl (.int .u32 0), .pl (.int .u32 0), .pl (.int .u32 0), .pl (.int .u32 0), .pl (.int .u32 0), .pl (.int .u32 0), .pl (.int .u32 0), .pl (.int .u32 0), .pl (.int .u32 0), .pl (.int .u32 0), .pl (.int .u32 0), .pl (.int .u32 0), .pl (.int .u32 0), .pl (.int .u32 0), .pl (.int .u32 0), .pl (.int .u32 0), .pl (.int .u32 0), .pl (.int .u32 0), .pl (.int .u32 0), .pl (.int .u32 0), .pl (.int .u32 0), .pl (.int .u32 0), .pl (.int .u32 0), .pl (.int .u32 0), .pl (.int .u32 0), .pl (.int .u32 0), .pl (.int .u32 0), .pl (.int .u32 0), .pl (.int .u32 0), .pl (.int .u32 0), .pl (.int .u32 0), .pl (.int .u32 0), .pl (.int .u32 0), .pl (.int .u32 0), .pl (.int .u32 0), .pl (.int .u32 0), .pl (.int .u32 0), .pl (.int .u32 0), .pl (.int .u32 0), .pl (.int .u32 0), .pl (.int .u32 0), .pl (.int .u32 0), .pl (.int .u32 0), .pl (.int .u32 0), .pl (.int .u32 0), .pl (.int .u32 0), .pl (.int .u32 0), .pl (.int .u32 0), .pl (.int .u32 0)])⟩])
    (.seq (.ops [⟨some 3, none, .prim (.allocm [.pl (.int .u32 0), .pl (.int .u32 0), .pl (.int .u32 0), .pl (.int .u32 0), .pl (.int .u32 0), .pl (.int .u32 0), .pl (.int .u32 0), .pl (.int .u32 0), .pl (.int .u32 0), .pl (.int .u32 0), .pl (.int .u32 0), .pl (.int .u32 0), .pl (.int .u32 0), .pl (.int .u32 0), .pl (.int .u32 0), .pl (.int .u32 0), .pl (.int .u32 0), .pl (.int .u32 0), .pl (.int .u32 0), .pl (.int .u32 0), .pl (.int .u32 0), .pl (.int .u32 0), .pl (.int .u32 0), .pl (.int .u32 0), .pl (.int .u32 0), .pl (.int .u32 0), .pl (.int .u32 0), .pl (.int .u32 0), .pl (.int .u32 0), .pl (.int .u32 0), .pl (.int .u32 0), .pl (.int .u32 0), .pl (.int .u32 0), .pl (.int .u32 0), .pl (.int .u32 0), .pl (.int .u32 0), .pl (.int .u32 0), .pl (.int .u32 0), .pl (.int .u32 0), .pl (.int .u32 0), .pl (.int .u32 0), .pl (.int .u32 0), .pl (.int .u32 0), .pl (.int .u32 0), .pl (.int .u32 0), .pl (.int .u32 0), .pl (.int .u32 0), .pl (.int .u32 0), .pl (.int .u32 0), .pl (.int .u32 0), .pl (.int .u32 0), .pl (.int .u32 0), .pl (.int .u32 0), .pl (.int .u32 0), .pl (.int .u32 0), .pl (.int .u32 0), .pl (.int .u32 0), .pl (.int .u32 0), .pl (.int .u32 0), .pl (.int .u32 0), .pl (.int .u32 0), .pl (.int .u32 0), .pl (.int .u32 0), .pl (.int .u32 0)])⟩])
    (.seq (.seq (.ops [⟨some 10, none, .prim (.mov (.const (Go.Value.int Go.IntKind.i64 0)))⟩])
    (.block 0 (.loop [0, 4, 5, 6, 7, 8, 9, 11, 12, 13, 14, 15, 16, 17, 18, 19, 20, 21, 22, 23, 24, 25, 26, 27, 28, 29, 30, 31, 32, 33, 34, 35, 36, 37, 38, 39, 40, 41, 42, 43, 44, 45, 46, 47, 48, 49, 50, 51, 52, 53, 54, 55, 56, 57, 58, 59, 60, 61, 62, 63, 64, 65, 66, 67, 68, 69, 70, 71, 72, 73, 74, 75, 76, 77, 78, 79, 80, 81, 82, 83, 84, 85, 86, 87, 88] (.seq (.ops [⟨some 11, none, .prim (.bin false .lss (.tmp 10) (.const (Go.Value.int Go.IntKind.i64 16)))⟩])
    (.seq (.cond (.tmp 11)
    .skip
    (.exit 0))
    (.seq (.block 1 (.seq (.ops [⟨some 12, none, .prim (.mov (.tmp 10))⟩,
      ⟨some 4, none, .prim (.mov (.tmp 12))⟩])
    (.draw [⟨⟨some 13, none, .prim (.mov (.tmp 4))⟩, [], false, 0, 0⟩,
      ⟨⟨some 14, none, .prim (.mov (.tmp 4))⟩, [], false, 0, 0⟩,
      ⟨⟨some 15, none, .prim (.bin false .mul (.const (Go.Value.int Go.IntKind.i64 4)) (.tmp 14))⟩, [1], false, 0, 0⟩,
      ⟨⟨some 16, none, .prim (.iadra 1 64 (.tmp 1) (.tmp 15))⟩, [1, 2], false, 0, 0⟩,
      ⟨⟨some 17, none, .prim (.load 1 false (.tmp 16))⟩, [1, 2, 3], false, 0, 0⟩,
      ⟨⟨some 18, none, .prim (.convi .u32 (.tmp 17))⟩, [1, 2, 3, 4], false, 0, 0⟩,
      ⟨⟨some 19, none, .prim (.bin false .shl (.tmp 18) (.const (Go.Value.int Go.IntKind.u64 24)))⟩, [1, 2, 3, 4, 5], false, 0, 0⟩,
      ⟨⟨some 20, none, .prim (.mov (.tmp 4))⟩, [], false, 0, 0⟩,
      ⟨⟨some 21, none, .prim (.bin false .mul (.const (Go.Value.int Go.IntKind.i64 4)) (.tmp 20))⟩, [7], false, 0, 0⟩,
      ⟨⟨some 22, none, .prim (.bin false .add (.tmp 21) (.const (Go.Value.int Go.IntKind.i64 1)))⟩, [7, 8], false, 0, 0⟩,
      ⟨⟨some 23, none, .prim (.iadra 1 64 (.tmp 1) (.tmp 22))⟩, [7, 8, 9], false, 0, 0⟩,
      ⟨⟨some 24, none, .prim (.load 1 false (.tmp 23))⟩, [7, 8, 9, 10], false, 0, 0⟩,
      ⟨⟨some 25, none, .prim (.convi .u32 (.tmp 24))⟩, [7, 8, 9, 10, 11], false, 0, 0⟩,
      ⟨⟨some 26, none, .prim (.bin false .shl (.tmp 25) (.const (Go.Value.int Go.IntKind.u64 16)))⟩, [7, 8, 9, 10, 11, 12], false, 0, 0⟩,
      ⟨⟨some 27, none, .prim (.bin false .or (.tmp 19) (.tmp 26))⟩, [1, 2, 3, 4, 5, 6, 7, 8, 9, 10, 11, 12, 13], false, 0, 0⟩,
      ⟨⟨some 28, none, .prim (.mov (.tmp 4))⟩, [], false, 0, 0⟩,
      ⟨⟨some 29, none, .prim (.bin false .mul (.const (Go.Value.int Go.IntKind.i64 4)) (.tmp 28))⟩, [15], false, 0, 0⟩,
      ⟨⟨some 30, none, .prim (.bin false .add (.tmp 29) (.const (Go.Value.int Go.IntKind.i64 2)))⟩, [15, 16], false, 0, 0⟩,
      ⟨⟨some 31, none, .prim (.iadra 1 64 (.tmp 1) (.tmp 30))⟩, [15, 16, 17], false, 0, 0⟩,
      ⟨⟨some 32, none, .prim (.load 1 false (.tmp 31))⟩, [15, 16, 17, 18], false, 0, 0⟩,
      ⟨⟨some 33, none, .prim (.convi .u32 (.tmp 32))⟩, [15, 16, 17, 18, 19], false, 0, 0⟩,
      ⟨⟨some 34, none, .prim (.bin false .shl (.tmp 33) (.const (Go.Value.int Go.IntKind.u64 8)))⟩, [15, 16, 17, 18, 19, 20], false, 0, 0⟩,
      ⟨⟨some 35, none, .prim (.bin false .or (.tmp 27) (.tmp 34))⟩, [1, 2, 3, 4, 5, 6, 7, 8, 9, 10, 11, 12, 13, 14, 15, 16, 17, 18, 19, 20, 21], false, 0, 0⟩,
      ⟨⟨some 36, none, .prim (.mov (.tmp 4))⟩, [], false, 0, 0⟩,
      ⟨⟨some 37, none, .prim (.bin false .mul (.const (Go.Value.int Go.IntKind.i64 4)) (.tmp 36))⟩, [23], false, 0, 0⟩,
      ⟨⟨some 38, none, .prim (.bin false .add (.tmp 37) (.const (Go.Value.int Go.IntKind.i64 3)))⟩, [23, 24], false, 0, 0⟩,
      ⟨⟨some 39, none, .prim (.iadra 1 64 (.tmp 1) (.tmp 38))⟩, [23, 24, 25], false, 0, 0⟩,
      ⟨⟨some 40, none, .prim (.load 1 false (.tmp 39))⟩, [23, 24, 25, 26], false, 0, 0⟩,
      ⟨⟨some 41, none, .prim (.convi .u32 (.tmp 40))⟩, [23, 24, 25, 26, 27], false, 0, 0⟩,
      ⟨⟨some 42, none, .prim (.bin false .or (.tmp 35) (.tmp 41))⟩, [1, 2, 3, 4, 5, 6, 7, 8, 9, 10, 11, 12, 13, 14, 15, 16, 17, 18, 19, 20, 21, 22, 23, 24, 25, 26, 27, 28], false, 0, 0⟩,
      ⟨⟨some 43, none, .prim (.iadra 1 64 (.tmp 3) (.tmp 13))⟩, [0, 1, 2, 3, 4, 5, 6, 7, 8, 9, 10, 11, 12, 13, 14, 15, 16, 17, 18, 19, 20, 21, 22, 23, 24, 25, 26, 27, 28, 29], false, 0, 0⟩,
      ⟨⟨none, none, .prim (.store 1 (.tmp 43) (.tmp 42))⟩, [0, 1, 2, 3, 4, 5, 6, 7, 8, 9, 10, 11, 12, 13, 14, 15, 16, 17, 18, 19, 20, 21, 22, 23, 24, 25, 26, 27, 28, 29, 30], true, 0, 0⟩])))
    (.ops [⟨some 44, none, .prim (.bin false .add (.tmp 10) (.const (Go.Value.int Go.IntKind.i64 1)))⟩,
      ⟨some 10, none, .prim (.mov (.tmp 44))⟩])))))))
    (.seq (.seq (.ops [⟨some 5, none, .prim (.mov (.const (Go.Value.int Go.IntKind.i64 16)))⟩])
    (.block 2 (.loop [0, 1, 4, 6, 7, 8, 9, 10, 11, 12, 13, 14, 15, 16, 17, 18, 19, 20, 21, 22, 23, 24, 25, 26, 27, 28, 29, 30, 31, 32, 33, 34, 35, 36, 37, 38, 39, 40, 41, 42, 43, 44, 45, 46, 47, 48, 49, 50, 51, 52, 53, 54, 55, 56, 57, 58, 59, 60, 61, 62, 63, 64, 65, 66, 67, 68, 69, 70, 71, 72, 73, 74, 75, 76, 77, 78, 79, 80, 81, 82, 83, 84, 85, 86, 87, 88] (.seq (.seq (.ops [⟨some 45, none, .prim (.mov (.tmp 5))⟩,
      ⟨some 46, none, .prim (.bin false .lss (.tmp 45) (.const (Go.Value.int Go.IntKind.i64 64)))⟩])
    (.cond (.tmp 46)
    .skip
    (.exit 2)))
    (.seq (.block 3 (.seq (.draw [⟨⟨some 49, none, .prim (.mov (.tmp 5))⟩, [], false, 0, 0⟩,
      ⟨⟨some 50, none, .prim (.bin false .sub (.tmp 49) (.const (Go.Value.int Go.IntKind.i64 15)))⟩, [0], false, 0, 0⟩,
      ⟨⟨some 51, none, .prim (.iadra 1 64 (.tmp 3) (.tmp 50))⟩, [0, 1], false, 0, 0⟩,
      ⟨⟨some 52, none, .prim (.load 1 false (.tmp 51))⟩, [0, 1, 2], false, 0, 0⟩,
      ⟨⟨some 53, none, .prim (.mov (.tmp 5))⟩, [], false, 0, 0⟩,
      ⟨⟨some 54, none, .prim (.bin false .sub (.tmp 53) (.const (Go.Value.int Go.IntKind.i64 2)))⟩, [4], false, 0, 0⟩,
      ⟨⟨some 55, none, .prim (.iadra 1 64 (.tmp 3) (.tmp 54))⟩, [4, 5], false, 0, 0⟩,
      ⟨⟨some 56, none, .prim (.load 1 false (.tmp 55))⟩, [4, 5, 6], false, 0, 0⟩,
      ⟨⟨some 6, none, .prim (.mov (.tmp 52))⟩, [0, 1, 2, 3], false, 0, 0⟩,
      ⟨⟨some 7, none, .prim (.mov (.tmp 56))⟩, [0, 1, 2, 3, 4, 5, 6, 7, 8], false, 0, 0⟩])
    (.seq (.ops [⟨some 57, none, .prim (.mov (.tmp 6))⟩,
      ⟨some 58, none, .call (.func 79) [(.tmp 57), (.const (Go.Value.int Go.IntKind.i64 (-7)))]⟩,
      ⟨some 59, none, .prim (.mov (.tmp 6))⟩,
      ⟨some 60, none, .call (.func 79) [(.tmp 59), (.const (Go.Value.int Go.IntKind.i64 (-18)))]⟩,
      ⟨some 61, none, .prim (.bin false .xor (.tmp 58) (.tmp 60))⟩,
      ⟨some 62, none, .prim (.mov (.tmp 6))⟩,
      ⟨some 63, none, .prim (.bin false .shr (.tmp 62) (.const (Go.Value.int Go.IntKind.u64 3)))⟩,
      ⟨some 64, none, .prim (.bin false .xor (.tmp 61) (.tmp 63))⟩,
      ⟨some 8, none, .prim (.mov (.tmp 64))⟩])
    (.seq (.ops [⟨some 65, none, .prim (.mov (.tmp 7))⟩,
      ⟨some 66, none, .call (.func 79) [(.tmp 65), (.const (Go.Value.int Go.IntKind.i64 (-17)))]⟩,
      ⟨some 67, none, .prim (.mov (.tmp 7))⟩,
      ⟨some 68, none, .call (.func 79) [(.tmp 67), (.const (Go.Value.int Go.IntKind.i64 (-19)))]⟩,
      ⟨some 69, none, .prim (.bin false .xor (.tmp 66) (.tmp 68))⟩,
      ⟨some 70, none, .prim (.mov (.tmp 7))⟩,
      ⟨some 71, none, .prim (.bin false .shr (.tmp 70) (.const (Go.Value.int Go.IntKind.u64 10)))⟩,
      ⟨some 72, none, .prim (.bin false .xor (.tmp 69) (.tmp 71))⟩,
      ⟨some 9, none, .prim (.mov (.tmp 72))⟩])
    (.draw [⟨⟨some 73, none, .prim (.mov (.tmp 5))⟩, [], false, 0, 0⟩,
      ⟨⟨some 74, none, .prim (.mov (.tmp 5))⟩, [], false, 0, 0⟩,
      ⟨⟨some 75, none, .prim (.bin false .sub (.tmp 74) (.const (Go.Value.int Go.IntKind.i64 16)))⟩, [1], false, 0, 0⟩,
      ⟨⟨some 76, none, .prim (.iadra 1 64 (.tmp 3) (.tmp 75))⟩, [1, 2], false, 0, 0⟩,
      ⟨⟨some 77, none, .prim (.load 1 false (.tmp 76))⟩, [1, 2, 3], false, 0, 0⟩,
      ⟨⟨some 78, none, .prim (.mov (.tmp 8))⟩, [], false, 0, 0⟩,
      ⟨⟨some 79, none, .prim (.bin false .add (.tmp 77) (.tmp 78))⟩, [1, 2, 3, 4, 5], false, 0, 0⟩,
      ⟨⟨some 80, none, .prim (.mov (.tmp 5))⟩, [], false, 0, 0⟩,
      ⟨⟨some 81, none, .prim (.bin false .sub (.tmp 80) (.const (Go.Value.int Go.IntKind.i64 7)))⟩, [7], false, 0, 0⟩,
      ⟨⟨some 82, none, .prim (.iadra 1 64 (.tmp 3) (.tmp 81))⟩, [7, 8], false, 0, 0⟩,
      ⟨⟨some 83, none, .prim (.load 1 false (.tmp 82))⟩, [7, 8, 9], false, 0, 0⟩,
      ⟨⟨some 84, none, .prim (.bin false .add (.tmp 79) (.tmp 83))⟩, [1, 2, 3, 4, 5, 6, 7, 8, 9, 10], false, 0, 0⟩,
      ⟨⟨some 85, none, .prim (.mov (.tmp 9))⟩, [], false, 0, 0⟩,
      ⟨⟨some 86, none, .prim (.bin false .add (.tmp 84) (.tmp 85))⟩, [1, 2, 3, 4, 5, 6, 7, 8, 9, 10, 11, 12], false, 0, 0⟩,
      ⟨⟨some 87, none, .prim (.iadra 1 64 (.tmp 3) (.tmp 73))⟩, [0, 1, 2, 3, 4, 5, 6, 7, 8, 9, 10, 11, 12, 13], false, 0, 0⟩,
      ⟨⟨none, none, .prim (.store 1 (.tmp 87) (.tmp 86))⟩, [0, 1, 2, 3, 4, 5, 6, 7, 8, 9, 10, 11, 12, 13, 14], true, 0, 0⟩])))))
    (.ops [⟨some 47, none, .prim (.mov (.tmp 5))⟩,
      ⟨some 48, none, .prim (.bin false .add (.tmp 47) (.const (Go.Value.int Go.IntKind.i64 1)))⟩,
      ⟨some 5, none, .prim (.mov (.tmp 48))⟩]))))))
    (.seq (.ops [⟨some 88, none, .prim (.load 64 true (.tmp 3))⟩,
      ⟨none, none, .prim (.store 64 (.tmp 2) (.tmp 88))⟩])
    .ret)))))
def o78 : List Tmp := [2, 3]
def r78 : List RV := [.cell 2 64 true]
theorem t78 : Text Tryz.prog 78 o78 c78 r78 89 := ⟨⟨Tryz.f78, _, by kernel_rfl, by kernel_rfl, rfl, by kernel_rfl, by kernel_rfl, rfl⟩, by kernel_rfl⟩

/-- math/bits.RotateLeft32 -/
def c79 : ACode :=
  (.seq (.ops [⟨some 4, none, .prim (.mov (.const (Go.Value.int Go.IntKind.u32 0)))⟩])
    (.seq (.ops [⟨some 6, none, .prim (.mov (.tmp 1))⟩,
      ⟨some 7, none, .prim (.convi .u64 (.tmp 6))⟩,
      ⟨some 8, none, .prim (.bin false .and (.tmp 7) (.const (Go.Value.int Go.IntKind.u64 31)))⟩,
      ⟨some 5, none, .prim (.mov (.tmp 8))⟩])
    (.seq (.ops [⟨some 9, none, .prim (.mov (.tmp 0))⟩,
      ⟨some 10, none, .prim (.mov (.tmp 5))⟩,
      ⟨some 11, none, .prim (.bin false .shl (.tmp 9) (.tmp 10))⟩,
      ⟨some 12, none, .prim (.mov (.tmp 0))⟩,
      ⟨some 13, none, .prim (.mov (.tmp 5))⟩,
      ⟨some 14, none, .prim (.bin false .sub (.const (Go.Value.int Go.IntKind.u64 32)) (.tmp 13))⟩,
      ⟨some 15, none, .prim (.bin false .shr (.tmp 12) (.tmp 14))⟩,
      ⟨some 16, none, .prim (.bin false .or (.tmp 11) (.tmp 15))⟩,
      ⟨some 4, none, .prim (.mov (.tmp 16))⟩])
    .ret)))
def o79 : List Tmp := []
def r79 : List RV := [.tmp 4]
theorem t79 : Text Tryz.prog 79 o79 c79 r79 17 := ⟨⟨Tryz.f79, _, by kernel_rfl, by kernel_rfl, rfl, by kernel_rfl, by kernel_rfl, rfl⟩, by kernel_rfl⟩

/-- slices.insertionSortOrdered[string] -/
def c80 : ACode :=
  (.seq (.ops [⟨some 8, none, .prim (.mov (.tmp 1))⟩,
      ⟨some 9, none, .prim (.bin false .add (.tmp 8) (.const (Go.Value.int Go.IntKind.i64 1)))⟩,
      ⟨some 6, none, .prim (.mov (.tmp 9))⟩])
    (.block 0 (.loop [3, 4, 5, 7, 8, 9, 10, 11, 12, 13, 14, 15, 16, 17, 18, 19, 20, 21, 22, 23, 24, 25, 26, 27, 28, 29, 30, 31, 32, 33, 34, 35, 36, 37, 38, 39, 40, 41, 42, 43, 44, 45, 46, 47, 48] (.seq (.seq (.ops [⟨some 10, none, .prim (.mov (.tmp 6))⟩,
      ⟨some 11, none, .prim (.mov (.tmp 2))⟩,
      ⟨some 12, none, .prim (.bin false .lss (.tmp 10) (.tmp 11))⟩])
    (.cond (.tmp 12)
    .skip
    (.exit 0)))
    (.seq (.block 1 (.seq (.ops [⟨some 15, none, .prim (.mov (.tmp 6))⟩,
      ⟨some 7, none, .prim (.mov (.tmp 15))⟩])
    (.block 2 (.loop [3, 4, 5, 8, 9, 10, 11, 12, 13, 14, 15, 16, 17, 18, 19, 20, 21, 22, 23, 24, 25, 26, 27, 28, 29, 30, 31, 32, 33, 34, 35, 36, 37, 38, 39, 40, 41, 42, 43, 44, 45, 46, 47, 48] (.seq (.seq (.draw [⟨⟨some 16, none, .prim (.mov (.tmp 7))⟩, [], false, 0, 0⟩,
      ⟨⟨some 17, none, .prim (.mov (.tmp 1))⟩, [], false, 0, 0⟩,
      ⟨⟨some 18, none, .prim (.bin false .gtr (.tmp 16) (.tmp 17))⟩, [0, 1], false, 0, 0⟩,
      ⟨⟨some 19, none, .prim (.mov (.tmp 18))⟩, [0, 1, 2], false, 0, 0⟩,
      ⟨⟨some 20, (some (19, true)), .prim (.mov (.tmp 0))⟩, [0, 1, 2, 3], false, 0, 0⟩,
      ⟨⟨some 21, (some (19, true)), .prim (.mov (.tmp 7))⟩, [0, 1, 2, 3], false, 0, 0⟩,
      ⟨⟨some 22, (some (19, true)), .prim (.iadrs 1 (.tmp 20) (.tmp 21))⟩, [0, 1, 2, 3, 4, 5], false, 0, 0⟩,
      ⟨⟨some 23, (some (19, true)), .prim (.load 1 false (.tmp 22))⟩, [0, 1, 2, 3, 4, 5, 6], false, 0, 0⟩,
      ⟨⟨some 24, (some (19, true)), .prim (.mov (.tmp 0))⟩, [0, 1, 2, 3], false, 0, 0⟩,
      ⟨⟨some 25, (some (19, true)), .prim (.mov (.tmp 7))⟩, [0, 1, 2, 3], false, 0, 0⟩,
      ⟨⟨some 26, (some (19, true)), .prim (.bin false .sub (.tmp 25) (.const (Go.Value.int Go.IntKind.i64 1)))⟩, [0, 1, 2, 3, 9], false, 0, 0⟩,
      ⟨⟨some 27, (some (19, true)), .prim (.iadrs 1 (.tmp 24) (.tmp 26))⟩, [0, 1, 2, 3, 8, 9, 10], false, 0, 0⟩,
      ⟨⟨some 28, (some (19, true)), .prim (.load 1 false (.tmp 27))⟩, [0, 1, 2, 3, 8, 9, 10, 11], false, 0, 0⟩,
      ⟨⟨some 29, (some (19, true)), .call (.func 86) [(.tmp 23), (.tmp 28)]⟩, [0, 1, 2, 3, 4, 5, 6, 7, 8, 9, 10, 11, 12], true, 0, 0⟩,
      ⟨⟨some 30, none, .prim (.pick (.tmp 19) (.tmp 29) (.const (Go.Value.bool Bool.false)))⟩, [0, 1, 2, 3, 4, 5, 6, 7, 8, 9, 10, 11, 12, 13], false, 1, 1⟩])
    (.cond (.tmp 30)
    .skip
    (.exit 2)))
    (.seq (.block 3 (.draw [⟨⟨some 33, none, .prim (.mov (.tmp 0))⟩, [], false, 0, 0⟩,
      ⟨⟨some 34, none, .prim (.mov (.tmp 7))⟩, [], false, 0, 0⟩,
      ⟨⟨some 35, none, .prim (.mov (.tmp 0))⟩, [], false, 0, 1⟩,
      ⟨⟨some 36, none, .prim (.mov (.tmp 7))⟩, [], false, 0, 1⟩,
      ⟨⟨some 37, none, .prim (.bin false .sub (.tmp 36) (.const (Go.Value.int Go.IntKind.i64 1)))⟩, [3], false, 0, 1⟩,
      ⟨⟨some 38, none, .prim (.mov (.tmp 0))⟩, [], false, 0, 0⟩,
      ⟨⟨some 39, none, .prim (.mov (.tmp 7))⟩, [], false, 0, 0⟩,
      ⟨⟨some 40, none, .prim (.bin false .sub (.tmp 39) (.const (Go.Value.int Go.IntKind.i64 1)))⟩, [6], false, 0, 0⟩,
      ⟨⟨some 41, none, .prim (.iadrs 1 (.tmp 38) (.tmp 40))⟩, [5, 6, 7], false, 0, 0⟩,
      ⟨⟨some 42, none, .prim (.load 1 false (.tmp 41))⟩, [5, 6, 7, 8], false, 0, 0⟩,
      ⟨⟨some 43, none, .prim (.mov (.tmp 0))⟩, [], false, 0, 0⟩,
      ⟨⟨some 44, none, .prim (.mov (.tmp 7))⟩, [], false, 0, 0⟩,
      ⟨⟨some 45, none, .prim (.iadrs 1 (.tmp 43) (.tmp 44))⟩, [10, 11], false, 0, 0⟩,
      ⟨⟨some 46, none, .prim (.load 1 false (.tmp 45))⟩, [10, 11, 12], false, 0, 0⟩,
      ⟨⟨some 47, none, .prim (.iadrs 1 (.tmp 33) (.tmp 34))⟩, [0, 1, 5, 6, 7, 8, 9, 10, 11, 12, 13], false, 0, 0⟩,
      ⟨⟨none, none, .prim (.store 1 (.tmp 47) (.tmp 42))⟩, [0, 1, 5, 6, 7, 8, 9, 10, 11, 12, 13, 14], true, 0, 0⟩,
      ⟨⟨some 48, none, .prim (.iadrs 1 (.tmp 35) (.tmp 37))⟩, [0, 1, 2, 3, 4, 5, 6, 7, 8, 9, 10, 11, 12, 13, 14, 15], false, 1, 1⟩,
      ⟨⟨none, none, .prim (.store 1 (.tmp 48) (.tmp 46))⟩, [0, 1, 2, 3, 4, 5, 6, 7, 8, 9, 10, 11, 12, 13, 14, 15, 16], true, 0, 0⟩]))
    (.ops [⟨some 31, none, .prim (.mov (.tmp 7))⟩,
      ⟨some 32, none, .prim (.bin false .sub (.tmp 31) (.const (Go.Value.int Go.IntKind.i64 1)))⟩,
      ⟨some 7, none, .prim (.mov (.tmp 32))⟩])))))))
    (.ops [⟨some 13, none, .prim (.mov (.tmp 6))⟩,
      ⟨some 14, none, .prim (.bin false .add (.tmp 13) (.const (Go.Value.int Go.IntKind.i64 1)))⟩,
      ⟨some 6, none, .prim (.mov (.tmp 14))⟩]))))))
def o80 : List Tmp := []
def r80 : List RV := []
theorem t80 : Text Tryz.prog 80 o80 c80 r80 49 := ⟨⟨Tryz.f80, _, by kernel_rfl, by kernel_rfl, rfl, by kernel_rfl, by kernel_rfl, rfl⟩, by kernel_rfl⟩

/-- slices.heapSortOrdered[string] -/
def c81 : ACode :=
  (.seq (.ops [⟨some 11, none, .prim (.mov (.tmp 1))⟩,
      ⟨some 6, none, .prim (.mov (.tmp 11))⟩])
    (.seq (.ops [⟨some 7, none, .prim (.mov (.const (Go.Value.int Go.IntKind.i64 0)))⟩])
    (.seq (.ops [⟨some 12, none, .prim (.mov (.tmp 2))⟩,
      ⟨some 13, none, .prim (.mov (.tmp 1))⟩,
      ⟨some 14, none, .prim (.bin false .sub (.tmp 12) (.tmp 13))⟩,
      ⟨some 8, none, .prim (.mov (.tmp 14))⟩])
    (.seq (.seq (.ops [⟨some 15, none, .prim (.mov (.tmp 8))⟩,
      ⟨some 16, none, .prim (.bin false .sub (.tmp 15) (.const (Go.Value.int Go.IntKind.i64 1)))⟩,
      ⟨some 17, none, .prim (.bin false .quo (.tmp 16) (.const (Go.Value.int Go.IntKind.i64 2)))⟩,
      ⟨some 9, none, .prim (.mov (.tmp 17))⟩])
    (.block 0 (.loop [1, 2, 3, 4, 5, 10, 11, 12, 13, 14, 15, 16, 17, 18, 19, 20, 21, 22, 23, 24, 25, 26, 27, 28, 29, 30, 31, 32, 33, 34, 35, 36, 37, 38, 39, 40, 41, 42, 43, 44, 45, 46, 47, 48, 49, 50, 51, 52, 53, 54, 55] (.seq (.seq (.ops [⟨some 18, none, .prim (.mov (.tmp 9))⟩,
      ⟨some 19, none, .prim (.bin false .geq (.tmp 18) (.const (Go.Value.int Go.IntKind.i64 0)))⟩])
    (.cond (.tmp 19)
    .skip
    (.exit 0)))
    (.seq (.block 1 (.ops [⟨some 22, none, .prim (.mov (.tmp 0))⟩,
      ⟨some 23, none, .prim (.mov (.tmp 9))⟩,
      ⟨some 24, none, .prim (.mov (.tmp 8))⟩,
      ⟨some 25, none, .prim (.mov (.tmp 6))⟩,
      ⟨some 26, none, .call (.func 107) [(.tmp 22), (.tmp 23), (.tmp 24), (.tmp 25)]⟩]))
    (.ops [⟨some 20, none, .prim (.mov (.tmp 9))⟩,
      ⟨some 21, none, .prim (.bin false .sub (.tmp 20) (.const (Go.Value.int Go.IntKind.i64 1)))⟩,
      ⟨some 9, none, .prim (.mov (.tmp 21))⟩]))))))
    (.seq (.ops [⟨some 27, none, .prim (.mov (.tmp 8))⟩,
      ⟨some 28, none, .prim (.bin false .sub (.tmp 27) (.const (Go.Value.int Go.IntKind.i64 1)))⟩,
      ⟨some 10, none, .prim (.mov (.tmp 28))⟩])
    (.block 2 (.loop [1, 2, 3, 4, 5, 8, 9, 11, 12, 13, 14, 15, 16, 17, 18, 19, 20, 21, 22, 23, 24, 25, 26, 27, 28, 29, 30, 31, 32, 33, 34, 35, 36, 37, 38, 39, 40, 41, 42, 43, 44, 45, 46, 47, 48, 49, 50, 51, 52, 53, 54, 55] (.seq (.seq (.ops [⟨some 29, none, .prim (.mov (.tmp 10))⟩,
      ⟨some 30, none, .prim (.bin false .geq (.tmp 29) (.const (Go.Value.int Go.IntKind.i64 0)))⟩])
    (.cond (.tmp 30)
    .skip
    (.exit 2)))
    (.seq (.block 3 (.seq (.draw [⟨⟨some 33, none, .prim (.mov (.tmp 0))⟩, [], false, 0, 0⟩,
      ⟨⟨some 34, none, .prim (.mov (.tmp 6))⟩, [], false, 0, 0⟩,
      ⟨⟨some 35, none, .prim (.mov (.tmp 0))⟩, [], false, 0, 1⟩,
      ⟨⟨some 36, none, .prim (.mov (.tmp 6))⟩, [], false, 0, 1⟩,
      ⟨⟨some 37, none, .prim (.mov (.tmp 10))⟩, [], false, 0, 1⟩,
      ⟨⟨some 38, none, .prim (.bin false .add (.tmp 36) (.tmp 37))⟩, [3, 4], false, 0, 1⟩,
      ⟨⟨some 39, none, .prim (.mov (.tmp 0))⟩, [], false, 0, 0⟩,
      ⟨⟨some 40, none, .prim (.mov (.tmp 6))⟩, [], false, 0, 0⟩,
      ⟨⟨some 41, none, .prim (.mov (.tmp 10))⟩, [], false, 0, 0⟩,
      ⟨⟨some 42, none, .prim (.bin false .add (.tmp 40) (.tmp 41))⟩, [7, 8], false, 0, 0⟩,
      ⟨⟨some 43, none, .prim (.iadrs 1 (.tmp 39) (.tmp 42))⟩, [6, 7, 8, 9], false, 0, 0⟩,
      ⟨⟨some 44, none, .prim (.load 1 false (.tmp 43))⟩, [6, 7, 8, 9, 10], false, 0, 0⟩,
      ⟨⟨some 45, none, .prim (.mov (.tmp 0))⟩, [], false, 0, 0⟩,
      ⟨⟨some 46, none, .prim (.mov (.tmp 6))⟩, [], false, 0, 0⟩,
      ⟨⟨some 47, none, .prim (.iadrs 1 (.tmp 45) (.tmp 46))⟩, [12, 13], false, 0, 0⟩,
      ⟨⟨some 48, none, .prim (.load 1 false (.tmp 47))⟩, [12, 13, 14], false, 0, 0⟩,
      ⟨⟨some 49, none, .prim (.iadrs 1 (.tmp 33) (.tmp 34))⟩, [0, 1, 6, 7, 8, 9, 10, 11, 12, 13, 14, 15], false, 0, 0⟩,
      ⟨⟨none, none, .prim (.store 1 (.tmp 49) (.tmp 44))⟩, [0, 1, 6, 7, 8, 9, 10, 11, 12, 13, 14, 15, 16], true, 0, 0⟩,
      ⟨⟨some 50, none, .prim (.iadrs 1 (.tmp 35) (.tmp 38))⟩, [0, 1, 2, 3, 4, 5, 6, 7, 8, 9, 10, 11, 12, 13, 14, 15, 16, 17], false, 1, 1⟩,
      ⟨⟨none, none, .prim (.store 1 (.tmp 50) (.tmp 48))⟩, [0, 1, 2, 3, 4, 5, 6, 7, 8, 9, 10, 11, 12, 13, 14, 15, 16, 17, 18], true, 0, 0⟩])
    (.ops [⟨some 51, none, .prim (.mov (.tmp 0))⟩,
      ⟨some 52, none, .prim (.mov (.tmp 7))⟩,
      ⟨some 53, none, .prim (.mov (.tmp 10))⟩,
      ⟨some 54, none, .prim (.mov (.tmp 6))⟩,
      ⟨some 55, none, .call (.func 107) [(.tmp 51), (.tmp 52), (.tmp 53), (.tmp 54)]⟩])))
    (.ops [⟨some 31, none, .prim (.mov (.tmp 10))⟩,
      ⟨some 32, none, .prim (.bin false .sub (.tmp 31) (.const (Go.Value.int Go.IntKind.i64 1)))⟩,
      ⟨some 10, none, .prim (.mov (.tmp 32))⟩]))))))))))
def o81 : List Tmp := []
def r81 : List RV := []
theorem t81 : Text Tryz.prog 81 o81 c81 r81 56 := ⟨⟨Tryz.f81, _, by kernel_rfl, by kernel_rfl, rfl, by kernel_rfl, by kernel_rfl, rfl⟩, by kernel_rfl⟩

/-- slices.breakPatternsOrdered[string] -/
def c82 : ACode :=
  (.seq (.ops [⟨some 11, none, .prim (.mov (.tmp 2))⟩,
      ⟨some 12, none, .prim (.mov (.tmp 1))⟩,
      ⟨some 13, none, .prim (.bin false .sub (.tmp 11) (.tmp 12))⟩,
      ⟨some 6, none, .prim (.mov (.tmp 13))⟩])
    (.seq (.ops [⟨some 14, none, .prim (.mov (.tmp 6))⟩,
      ⟨some 15, none, .prim (.bin false .geq (.tmp 14) (.const (Go.Value.int Go.IntKind.i64 8)))⟩])
    (.cond (.tmp 15)
    (.seq (.ops [⟨some 16, none, .prim (.mov (.tmp 6))⟩,
      ⟨some 17, none, .prim (.convi .u64 (.tmp 16))⟩,
      ⟨some 7, none, .prim (.allocm [.pl (.int .u64 0)])⟩,
      ⟨none, none, .prim (.store 1 (.tmp 7) (.tmp 17))⟩])
    (.seq (.ops [⟨some 18, none, .prim (.mov (.tmp 6))⟩,
      ⟨some 19, none, .call (.func 108) [(.tmp 18)]⟩,
      ⟨some 8, none, .prim (.mov (.tmp 19))⟩])
    (.seq (.ops [⟨some 20, none, .prim (.mov (.tmp 1))⟩,
      ⟨some 21, none, .prim (.mov (.tmp 6))⟩,
      ⟨some 22, none, .prim (.bin false .quo (.tmp 21) (.const (Go.Value.int Go.IntKind.i64 4)))⟩,
      ⟨some 23, none, .prim (.bin false .mul (.tmp 22) (.const (Go.Value.int Go.IntKind.i64 2)))⟩,
      ⟨some 24, none, .prim (.bin false .add (.tmp 20) (.tmp 23))⟩,
      ⟨some 25, none, .prim (.bin false .sub (.tmp 24) (.const (Go.Value.int Go.IntKind.i64 1)))⟩,
      ⟨some 9, none, .prim (.mov (.tmp 25))⟩])
    (.block 0 (.loop [2, 3, 4, 5, 10, 11, 12, 13, 14, 15, 16, 17, 18, 19, 20, 21, 22, 23, 24, 25, 26, 27, 28, 29, 30, 31, 32, 33, 34, 35, 36, 37, 38, 39, 40, 41, 42, 43, 44, 45, 46, 47, 48, 49, 50, 51, 52, 53, 54, 55, 56, 57, 58, 59, 60, 61, 62, 63, 64] (.seq (.seq (.ops [⟨some 26, none, .prim (.mov (.tmp 9))⟩,
      ⟨some 27, none, .prim (.mov (.tmp 1))⟩,
      ⟨some 28, none, .prim (.mov (.tmp 6))⟩,
      ⟨some 29, none, .prim (.bin false .quo (.tmp 28) (.const (Go.Value.int Go.IntKind.i64 4)))⟩,
      ⟨some 30, none, .prim (.bin false .mul (.tmp 29) (.const (Go.Value.int Go.IntKind.i64 2)))⟩,
      ⟨some 31, none, .prim (.bin false .add (.tmp 27) (.tmp 30))⟩,
      ⟨some 32, none, .prim (.bin false .add (.tmp 31) (.const (Go.Value.int Go.IntKind.i64 1)))⟩,
      ⟨some 33, none, .prim (.bin false .leq (.tmp 26) (.tmp 32))⟩])
    (.cond (.tmp 33)
    .skip
    (.exit 0)))
    (.seq (.block 1 (.seq (.ops [⟨some 36, none, .call (.func 109) [(.tmp 7)]⟩,
      ⟨some 37, none, .prim (.mov (.tmp 8))⟩,
      ⟨some 38, none, .prim (.bin false .sub (.tmp 37) (.const (Go.Value.int Go.IntKind.u64 1)))⟩,
      ⟨some 39, none, .prim (.bin false .and (.tmp 36) (.tmp 38))⟩,
      ⟨some 40, none, .prim (.convi .i64 (.tmp 39))⟩,
      ⟨some 10, none, .prim (.mov (.tmp 40))⟩])
    (.seq (.seq (.ops [⟨some 41, none, .prim (.mov (.tmp 10))⟩,
      ⟨some 42, none, .prim (.mov (.tmp 6))⟩,
      ⟨some 43, none, .prim (.bin false .geq (.tmp 41) (.tmp 42))⟩])
    (.cond (.tmp 43)
    (.ops [⟨some 44, none, .prim (.mov (.tmp 10))⟩,
      ⟨some 45, none, .prim (.mov (.tmp 6))⟩,
      ⟨some 46, none, .prim (.bin false .sub (.tmp 44) (.tmp 45))⟩,
      ⟨some 10, none, .prim (.mov (.tmp 46))⟩])
    .skip))
    (.draw [⟨⟨some 47, none, .prim (.mov (.tmp 0))⟩, [], false, 0, 0⟩,
      ⟨⟨some 48, none, .prim (.mov (.tmp 9))⟩, [], false, 0, 0⟩,
      ⟨⟨some 49, none, .prim (.mov (.tmp 0))⟩, [], false, 0, 1⟩,
      ⟨⟨some 50, none, .prim (.mov (.tmp 1))⟩, [], false, 0, 1⟩,
      ⟨⟨some 51, none, .prim (.mov (.tmp 10))⟩, [], false, 0, 1⟩,
      ⟨⟨some 52, none, .prim (.bin false .add (.tmp 50) (.tmp 51))⟩, [3, 4], false, 0, 1⟩,
      ⟨⟨some 53, none, .prim (.mov (.tmp 0))⟩, [], false, 0, 0⟩,
      ⟨⟨some 54, none, .prim (.mov (.tmp 1))⟩, [], false, 0, 0⟩,
      ⟨⟨some 55, none, .prim (.mov (.tmp 10))⟩, [], false, 0, 0⟩,
      ⟨⟨some 56, none, .prim (.bin false .add (.tmp 54) (.tmp 55))⟩, [7, 8], false, 0, 0⟩,
      ⟨⟨some 57, none, .prim (.iadrs 1 (.tmp 53) (.tmp 56))⟩, [6, 7, 8, 9], false, 0, 0⟩,
      ⟨⟨some 58, none, .prim (.load 1 false (.tmp 57))⟩, [6, 7, 8, 9, 10], false, 0, 0⟩,
      ⟨⟨some 59, none, .prim (.mov (.tmp 0))⟩, [], false, 0, 0⟩,
      ⟨⟨some 60, none, .prim (.mov (.tmp 9))⟩, [], false, 0, 0⟩,
      ⟨⟨some 61, none, .prim (.iadrs 1 (.tmp 59) (.tmp 60))⟩, [12, 13], false, 0, 0⟩,
      ⟨⟨some 62, none, .prim (.load 1 false (.tmp 61))⟩, [12, 13, 14], false, 0, 0⟩,
      ⟨⟨some 63, none, .prim (.iadrs 1 (.tmp 47) (.tmp 48))⟩, [0, 1, 6, 7, 8, 9, 10, 11, 12, 13, 14, 15], false, 0, 0⟩,
      ⟨⟨none, none, .prim (.store 1 (.tmp 63) (.tmp 58))⟩, [0, 1, 6, 7, 8, 9, 10, 11, 12, 13, 14, 15, 16], true, 0, 0⟩,
      ⟨⟨some 64, none, .prim (.iadrs 1 (.tmp 49) (.tmp 52))⟩, [0, 1, 2, 3, 4, 5, 6, 7, 8, 9, 10, 11, 12, 13, 14, 15, 16, 17], false, 1, 1⟩,
      ⟨⟨none, none, .prim (.store 1 (.tmp 64) (.tmp 62))⟩, [0, 1, 2, 3, 4, 5, 6, 7, 8, 9, 10, 11, 12, 13, 14, 15, 16, 17, 18], true, 0, 0⟩]))))
    (.ops [⟨some 34, none, .prim (.mov (.tmp 9))⟩,
      ⟨some 35, none, .prim (.bin false .add (.tmp 34) (.const (Go.Value.int Go.IntKind.i64 1)))⟩,
      ⟨some 9, none, .prim (.mov (.tmp 35))⟩]))))))))
    .skip)))
def o82 : List Tmp := [7]
def r82 : List RV := []
theorem t82 : Text Tryz.prog 82 o82 c82 r82 65 := ⟨⟨Tryz.f82, _, by kernel_rfl, by kernel_rfl, rfl, by kernel_rfl, by kernel_rfl, rfl⟩, by kernel_rfl⟩

/-- slices.choosePivotOrdered[string] -/
def c83 : ACode :=
  (.seq (.ops [⟨some 6, none, .prim (.mov (.const (Go.Value.int Go.IntKind.i64 0)))⟩,
      ⟨some 7, none, .prim (.mov (.const (Go.Value.int Go.IntKind.i64 0)))⟩])
    (.seq (.ops [⟨some 13, none, .prim (.mov (.tmp 2))⟩,
      ⟨some 14, none, .prim (.mov (.tmp 1))⟩,
      ⟨some 15, none, .prim (.bin false .sub (.tmp 13) (.tmp 14))⟩,
      ⟨some 8, none, .prim (.mov (.tmp 15))⟩])
    (.seq (.ops [⟨some 9, none, .prim (.allocm [.pl (.int .i64 0)])⟩])
    (.seq (.ops [⟨some 16, none, .prim (.mov (.tmp 1))⟩,
      ⟨some 17, none, .prim (.mov (.tmp 8))⟩,
      ⟨some 18, none, .prim (.bin false .quo (.tmp 17) (.const (Go.Value.int Go.IntKind.i64 4)))⟩,
      ⟨some 19, none, .prim (.bin false .mul (.tmp 18) (.const (Go.Value.int Go.IntKind.i64 1)))⟩,
      ⟨some 20, none, .prim (.bin false .add (.tmp 16) (.tmp 19))⟩,
      ⟨some 10, none, .prim (.mov (.tmp 20))⟩])
    (.seq (.ops [⟨some 21, none, .prim (.mov (.tmp 1))⟩,
      ⟨some 22, none, .prim (.mov (.tmp 8))⟩,
      ⟨some 23, none, .prim (.bin false .quo (.tmp 22) (.const (Go.Value.int Go.IntKind.i64 4)))⟩,
      ⟨some 24, none, .prim (.bin false .mul (.tmp 23) (.const (Go.Value.int Go.IntKind.i64 2)))⟩,
      ⟨some 25, none, .prim (.bin false .add (.tmp 21) (.tmp 24))⟩,
      ⟨some 11, none, .prim (.mov (.tmp 25))⟩])
    (.seq (.ops [⟨some 26, none, .prim (.mov (.tmp 1))⟩,
      ⟨some 27, none, .prim (.mov (.tmp 8))⟩,
      ⟨some 28, none, .prim (.bin false .quo (.tmp 27) (.const (Go.Value.int Go.IntKind.i64 4)))⟩,
      ⟨some 29, none, .prim (.bin false .mul (.tmp 28) (.const (Go.Value.int Go.IntKind.i64 3)))⟩,
      ⟨some 30, none, .prim (.bin false .add (.tmp 26) (.tmp 29))⟩,
      ⟨some 12, none, .prim (.mov (.tmp 30))⟩])
    (.seq (.seq (.ops [⟨some 31, none, .prim (.mov (.tmp 8))⟩,
      ⟨some 32, none, .prim (.bin false .geq (.tmp 31) (.const (Go.Value.int Go.IntKind.i64 8)))⟩])
    (.cond (.tmp 32)
    (.seq (.seq (.ops [⟨some 33, none, .prim (.mov (.tmp 8))⟩,
      ⟨some 34, none, .prim (.bin false .geq (.tmp 33) (.const (Go.Value.int Go.IntKind.i64 50)))⟩])
    (.cond (.tmp 34)
    (.seq (.ops [⟨some 35, none, .prim (.mov (.tmp 0))⟩,
      ⟨some 36, none, .prim (.mov (.tmp 10))⟩,
      ⟨some 37, none, .call (.func 110) [(.tmp 35), (.tmp 36), (.tmp 9)]⟩,
      ⟨some 10, none, .prim (.mov (.tmp 37))⟩])
    (.seq (.ops [⟨some 38, none, .prim (.mov (.tmp 0))⟩,
      ⟨some 39, none, .prim (.mov (.tmp 11))⟩,
      ⟨some 40, none, .call (.func 110) [(.tmp 38), (.tmp 39), (.tmp 9)]⟩,
      ⟨some 11, none, .prim (.mov (.tmp 40))⟩])
    (.ops [⟨some 41, none, .prim (.mov (.tmp 0))⟩,
      ⟨some 42, none, .prim (.mov (.tmp 12))⟩,
      ⟨some 43, none, .call (.func 110) [(.tmp 41), (.tmp 42), (.tmp 9)]⟩,
      ⟨some 12, none, .prim (.mov (.tmp 43))⟩])))
    .skip))
    (.ops [⟨some 44, none, .prim (.mov (.tmp 0))⟩,
      ⟨some 45, none, .prim (.mov (.tmp 10))⟩,
      ⟨some 46, none, .prim (.mov (.tmp 11))⟩,
      ⟨some 47, none, .prim (.mov (.tmp 12))⟩,
      ⟨some 48, none, .call (.func 111) [(.tmp 44), (.tmp 45), (.tmp 46), (.tmp 47), (.tmp 9)]⟩,
      ⟨some 11, none, .prim (.mov (.tmp 48))⟩]))
    .skip))
    (.seq (.ops [⟨some 49, none, .prim (.load 1 false (.tmp 9))⟩])
    (.block 0 (.seq (.ops [⟨some 52, none, .prim (.bin false .eql (.tmp 49) (.const (Go.Value.int Go.IntKind.i64 0)))⟩,
      ⟨some 51, none, .prim (.mov (.tmp 52))⟩])
    (.cond (.tmp 51)
    (.seq (.ops [⟨some 53, none, .prim (.mov (.tmp 11))⟩,
      ⟨some 6, none, .prim (.mov (.tmp 53))⟩,
      ⟨some 7, none, .prim (.mov (.const (Go.Value.int Go.IntKind.i64 1)))⟩])
    .ret)
    (.seq (.ops [⟨some 55, none, .prim (.bin false .eql (.tmp 49) (.const (Go.Value.int Go.IntKind.i64 12)))⟩,
      ⟨some 54, none, .prim (.mov (.tmp 55))⟩])
    (.cond (.tmp 54)
    (.seq (.ops [⟨some 56, none, .prim (.mov (.tmp 11))⟩,
      ⟨some 6, none, .prim (.mov (.tmp 56))⟩,
      ⟨some 7, none, .prim (.mov (.const (Go.Value.int Go.IntKind.i64 2)))⟩])
    .ret)
    (.seq (.ops [⟨some 50, none, .prim (.mov (.tmp 11))⟩,
      ⟨some 6, none, .prim (.mov (.tmp 50))⟩,
      ⟨some 7, none, .prim (.mov (.const (Go.Value.int Go.IntKind.i64 0)))⟩])
    .ret))))))))))))))
def o83 : List Tmp := [9]
def r83 : List RV := [.tmp 6, .tmp 7]
theorem t83 : Text Tryz.prog 83 o83 c83 r83 57 := ⟨⟨Tryz.f83, _, by kernel_rfl, by kernel_rfl, rfl, by kernel_rfl, by kernel_rfl, rfl⟩, by kernel_rfl⟩

/-- slices.reverseRangeOrdered[string] -/
def c84 : ACode :=
  (.seq (.ops [⟨some 8, none, .prim (.mov (.tmp 1))⟩,
      ⟨some 6, none, .prim (.mov (.tmp 8))⟩])
    (.seq (.ops [⟨some 9, none, .prim (.mov (.tmp 2))⟩,
      ⟨some 10, none, .prim (.bin false .sub (.tmp 9) (.const (Go.Value.int Go.IntKind.i64 1)))⟩,
      ⟨some 7, none, .prim (.mov (.tmp 10))⟩])
    (.block 0 (.loop [1, 2, 3, 4, 5, 8, 9, 10, 11, 12, 13, 14, 15, 16, 17, 18, 19, 20, 21, 22, 23, 24, 25, 26, 27, 28, 29, 30, 31] (.seq (.seq (.ops [⟨some 11, none, .prim (.mov (.tmp 6))⟩,
      ⟨some 12, none, .prim (.mov (.tmp 7))⟩,
      ⟨some 13, none, .prim (.bin false .lss (.tmp 11) (.tmp 12))⟩])
    (.cond (.tmp 13)
    .skip
    (.exit 0)))
    (.block 1 (.seq (.draw [⟨⟨some 14, none, .prim (.mov (.tmp 0))⟩, [], false, 0, 0⟩,
      ⟨⟨some 15, none, .prim (.mov (.tmp 6))⟩, [], false, 0, 0⟩,
      ⟨⟨some 16, none, .prim (.mov (.tmp 0))⟩, [], false, 0, 1⟩,
      ⟨⟨some 17, none, .prim (.mov (.tmp 7))⟩, [], false, 0, 1⟩,
      ⟨⟨some 18, none, .prim (.mov (.tmp 0))⟩, [], false, 0, 0⟩,
      ⟨⟨some 19, none, .prim (.mov (.tmp 7))⟩, [], false, 0, 0⟩,
      ⟨⟨some 20, none, .prim (.iadrs 1 (.tmp 18) (.tmp 19))⟩, [4, 5], false, 0, 0⟩,
      ⟨⟨some 21, none, .prim (.load 1 false (.tmp 20))⟩, [4, 5, 6], false, 0, 0⟩,
      ⟨⟨some 22, none, .prim (.mov (.tmp 0))⟩, [], false, 0, 0⟩,
      ⟨⟨some 23, none, .prim (.mov (.tmp 6))⟩, [], false, 0, 0⟩,
      ⟨⟨some 24, none, .prim (.iadrs 1 (.tmp 22) (.tmp 23))⟩, [8, 9], false, 0, 0⟩,
      ⟨⟨some 25, none, .prim (.load 1 false (.tmp 24))⟩, [8, 9, 10], false, 0, 0⟩,
      ⟨⟨some 26, none, .prim (.iadrs 1 (.tmp 14) (.tmp 15))⟩, [0, 1, 4, 5, 6, 7, 8, 9, 10, 11], false, 0, 0⟩,
      ⟨⟨none, none, .prim (.store 1 (.tmp 26) (.tmp 21))⟩, [0, 1, 4, 5, 6, 7, 8, 9, 10, 11, 12], true, 0, 0⟩,
      ⟨⟨some 27, none, .prim (.iadrs 1 (.tmp 16) (.tmp 17))⟩, [0, 1, 2, 3, 4, 5, 6, 7, 8, 9, 10, 11, 12, 13], false, 1, 1⟩,
      ⟨⟨none, none, .prim (.store 1 (.tmp 27) (.tmp 25))⟩, [0, 1, 2, 3, 4, 5, 6, 7, 8, 9, 10, 11, 12, 13, 14], true, 0, 0⟩])
    (.seq (.ops [⟨some 28, none, .prim (.mov (.tmp 6))⟩,
      ⟨some 29, none, .prim (.bin false .add (.tmp 28) (.const (Go.Value.int Go.IntKind.i64 1)))⟩,
      ⟨some 6, none, .prim (.mov (.tmp 29))⟩])
    (.ops [⟨some 30, none, .prim (.mov (.tmp 7))⟩,
      ⟨some 31, none, .prim (.bin false .sub (.tmp 30) (.const (Go.Value.int Go.IntKind.i64 1)))⟩,
      ⟨some 7, none, .prim (.mov (.tmp 31))⟩])))))))))
def o84 : List Tmp := []
def r84 : List RV := []
theorem t84 : Text Tryz.prog 84 o84 c84 r84 32 := ⟨⟨Tryz.f84, _, by kernel_rfl, by kernel_rfl, rfl, by kernel_rfl, by kernel_rfl, rfl⟩, by kernel_rfl⟩

/-- slices.partialInsertionSortOrdered[string] -/
def c85 : ACode :=
  (.seq (.ops [⟨some 6, none, .prim (.mov (.const (Go.Value.bool Bool.false)))⟩])
    (.seq (.ops [⟨some 11, none, .prim (.mov (.tmp 1))⟩,
      ⟨some 12, none, .prim (.bin false .add (.tmp 11) (.const (Go.Value.int Go.IntKind.i64 1)))⟩,
      ⟨some 7, none, .prim (.mov (.tmp 12))⟩])
    (.seq (.seq (.ops [⟨some 8, none, .prim (.mov (.const (Go.Value.int Go.IntKind.i64 0)))⟩])
    (.block 0 (.loop [3, 4, 5, 6, 9, 10, 11, 12, 13, 14, 15, 16, 17, 18, 19, 20, 21, 22, 23, 24, 25, 26, 27, 28, 29, 30, 31, 32, 33, 34, 35, 36, 37, 38, 39, 40, 41, 42, 43, 44, 45, 46, 47, 48, 49, 50, 51, 52, 53, 54, 55, 56, 57, 58, 59, 60, 61, 62, 63, 64, 65, 66, 67, 68, 69, 70, 71, 72, 73, 74, 75, 76, 77, 78, 79, 80, 81, 82, 83, 84, 85, 86, 87, 88, 89, 90, 91, 92, 93, 94, 95, 96, 97, 98, 99, 100, 101, 102, 103, 104, 105, 106, 107, 108, 109, 110, 111, 112, 113, 114, 115, 116, 117, 118, 119, 120, 121, 122, 123, 124, 125, 126, 127, 128, 129, 130, 131, 132] (.seq (.seq (.ops [⟨some 13, none, .prim (.mov (.tmp 8))⟩,
      ⟨some 14, none, .prim (.bin false .lss (.tmp 13) (.const (Go.Value.int Go.IntKind.i64 5)))⟩])
    (.cond (.tmp 14)
    .skip
    (.exit 0)))
    (.seq (.block 1 (.seq (.block 2 (.loop [3, 4, 5, 6, 9, 10, 11, 12, 13, 14, 15, 16, 17, 18, 19, 20, 21, 22, 23, 24, 25, 26, 27, 28, 29, 30, 31, 32, 33, 34, 35, 36, 37, 38, 39, 40, 41, 42, 43, 44, 45, 46, 47, 48, 49, 50, 51, 52, 53, 54, 55, 56, 57, 58, 59, 60, 61, 62, 63, 64, 65, 66, 67, 68, 69, 70, 71, 72, 73, 74, 75, 76, 77, 78, 79, 80, 81, 82, 83, 84, 85, 86, 87, 88, 89, 90, 91, 92, 93, 94, 95, 96, 97, 98, 99, 100, 101, 102, 103, 104, 105, 106, 107, 108, 109, 110, 111, 112, 113, 114, 115, 116, 117, 118, 119, 120, 121, 122, 123, 124, 125, 126, 127, 128, 129, 130, 131, 132] (.seq (.seq (.draw [⟨⟨some 17, none, .prim (.mov (.tmp 7))⟩, [], false, 0, 0⟩,
      ⟨⟨some 18, none, .prim (.mov (.tmp 2))⟩, [], false, 0, 0⟩,
      ⟨⟨some 19, none, .prim (.bin false .lss (.tmp 17) (.tmp 18))⟩, [0, 1], false, 0, 0⟩,
      ⟨⟨some 20, none, .prim (.mov (.tmp 19))⟩, [0, 1, 2], false, 0, 0⟩,
      ⟨⟨some 21, (some (20, true)), .prim (.mov (.tmp 0))⟩, [0, 1, 2, 3], false, 0, 0⟩,
      ⟨⟨some 22, (some (20, true)), .prim (.mov (.tmp 7))⟩, [0, 1, 2, 3], false, 0, 0⟩,
      ⟨⟨some 23, (some (20, true)), .prim (.iadrs 1 (.tmp 21) (.tmp 22))⟩, [0, 1, 2, 3, 4, 5], false, 0, 0⟩,
      ⟨⟨some 24, (some (20, true)), .prim (.load 1 false (.tmp 23))⟩, [0, 1, 2, 3, 4, 5, 6], false, 0, 0⟩,
      ⟨⟨some 25, (some (20, true)), .prim (.mov (.tmp 0))⟩, [0, 1, 2, 3], false, 0, 0⟩,
      ⟨⟨some 26, (some (20, true)), .prim (.mov (.tmp 7))⟩, [0, 1, 2, 3], false, 0, 0⟩,
      ⟨⟨some 27, (some (20, true)), .prim (.bin false .sub (.tmp 26) (.const (Go.Value.int Go.IntKind.i64 1)))⟩, [0, 1, 2, 3, 9], false, 0, 0⟩,
      ⟨⟨some 28, (some (20, true)), .prim (.iadrs 1 (.tmp 25) (.tmp 27))⟩, [0, 1, 2, 3, 8, 9, 10], false, 0, 0⟩,
      ⟨⟨some 29, (some (20, true)), .prim (.load 1 false (.tmp 28))⟩, [0, 1, 2, 3, 8, 9, 10, 11], false, 0, 0⟩,
      ⟨⟨some 30, (some (20, true)), .call (.func 86) [(.tmp 24), (.tmp 29)]⟩, [0, 1, 2, 3, 4, 5, 6, 7, 8, 9, 10, 11, 12], true, 0, 0⟩,
      ⟨⟨some 31, (some (20, true)), .prim (.un .not (.tmp 30))⟩, [0, 1, 2, 3, 4, 5, 6, 7, 8, 9, 10, 11, 12, 13], false, 1, 1⟩,
      ⟨⟨some 32, none, .prim (.pick (.tmp 20) (.tmp 31) (.const (Go.Value.bool Bool.false)))⟩, [0, 1, 2, 3, 4, 5, 6, 7, 8, 9, 10, 11, 12, 13, 14], false, 1, 1⟩])
    (.cond (.tmp 32)
    .skip
    (.exit 2)))
    (.block 3 (.ops [⟨some 33, none, .prim (.mov (.tmp 7))⟩,
      ⟨some 34, none, .prim (.bin false .add (.tmp 33) (.const (Go.Value.int Go.IntKind.i64 1)))⟩,
      ⟨some 7, none, .prim (.mov (.tmp 34))⟩])))))
    (.seq (.seq (.ops [⟨some 35, none, .prim (.mov (.tmp 7))⟩,
      ⟨some 36, none, .prim (.mov (.tmp 2))⟩,
      ⟨some 37, none, .prim (.bin false .eql (.tmp 35) (.tmp 36))⟩])
    (.cond (.tmp 37)
    (.seq (.ops [⟨some 6, none, .prim (.mov (.const (Go.Value.bool Bool.true)))⟩])
    .ret)
    .skip))
    (.seq (.seq (.ops [⟨some 38, none, .prim (.mov (.tmp 2))⟩,
      ⟨some 39, none, .prim (.mov (.tmp 1))⟩,
      ⟨some 40, none, .prim (.bin false .sub (.tmp 38) (.tmp 39))⟩,
      ⟨some 41, none, .prim (.bin false .lss (.tmp 40) (.const (Go.Value.int Go.IntKind.i64 50)))⟩])
    (.cond (.tmp 41)
    (.seq (.ops [⟨some 6, none, .prim (.mov (.const (Go.Value.bool Bool.false)))⟩])
    .ret)
    .skip))
    (.seq (.draw [⟨⟨some 42, none, .prim (.mov (.tmp 0))⟩, [], false, 0, 0⟩,
      ⟨⟨some 43, none, .prim (.mov (.tmp 7))⟩, [], false, 0, 0⟩,
      ⟨⟨some 44, none, .prim (.mov (.tmp 0))⟩, [], false, 0, 1⟩,
      ⟨⟨some 45, none, .prim (.mov (.tmp 7))⟩, [], false, 0, 1⟩,
      ⟨⟨some 46, none, .prim (.bin false .sub (.tmp 45) (.const (Go.Value.int Go.IntKind.i64 1)))⟩, [3], false, 0, 1⟩,
      ⟨⟨some 47, none, .prim (.mov (.tmp 0))⟩, [], false, 0, 0⟩,
      ⟨⟨some 48, none, .prim (.mov (.tmp 7))⟩, [], false, 0, 0⟩,
      ⟨⟨some 49, none, .prim (.bin false .sub (.tmp 48) (.const (Go.Value.int Go.IntKind.i64 1)))⟩, [6], false, 0, 0⟩,
      ⟨⟨some 50, none, .prim (.iadrs 1 (.tmp 47) (.tmp 49))⟩, [5, 6, 7], false, 0, 0⟩,
      ⟨⟨some 51, none, .prim (.load 1 false (.tmp 50))⟩, [5, 6, 7, 8], false, 0, 0⟩,
      ⟨⟨some 52, none, .prim (.mov (.tmp 0))⟩, [], false, 0, 0⟩,
      ⟨⟨some 53, none, .prim (.mov (.tmp 7))⟩, [], false, 0, 0⟩,
      ⟨⟨some 54, none, .prim (.iadrs 1 (.tmp 52) (.tmp 53))⟩, [10, 11], false, 0, 0⟩,
      ⟨⟨some 55, none, .prim (.load 1 false (.tmp 54))⟩, [10, 11, 12], false, 0, 0⟩,
      ⟨⟨some 56, none, .prim (.iadrs 1 (.tmp 42) (.tmp 43))⟩, [0, 1, 5, 6, 7, 8, 9, 10, 11, 12, 13], false, 0, 0⟩,
      ⟨⟨none, none, .prim (.store 1 (.tmp 56) (.tmp 51))⟩, [0, 1, 5, 6, 7, 8, 9, 10, 11, 12, 13, 14], true, 0, 0⟩,
      ⟨⟨some 57, none, .prim (.iadrs 1 (.tmp 44) (.tmp 46))⟩, [0, 1, 2, 3, 4, 5, 6, 7, 8, 9, 10, 11, 12, 13, 14, 15], false, 1, 1⟩,
      ⟨⟨none, none, .prim (.store 1 (.tmp 57) (.tmp 55))⟩, [0, 1, 2, 3, 4, 5, 6, 7, 8, 9, 10, 11, 12, 13, 14, 15, 16], true, 0, 0⟩])
    (.seq (.seq (.ops [⟨some 58, none, .prim (.mov (.tmp 7))⟩,
      ⟨some 59, none, .prim (.mov (.tmp 1))⟩,
      ⟨some 60, none, .prim (.bin false .sub (.tmp 58) (.tmp 59))⟩,
      ⟨some 61, none, .prim (.bin false .geq (.tmp 60) (.const (Go.Value.int Go.IntKind.i64 2)))⟩])
    (.cond (.tmp 61)
    (.seq (.ops [⟨some 62, none, .prim (.mov (.tmp 7))⟩,
      ⟨some 63, none, .prim (.bin false .sub (.tmp 62) (.const (Go.Value.int Go.IntKind.i64 1)))⟩,
      ⟨some 9, none, .prim (.mov (.tmp 63))⟩])
    (.block 4 (.loop [3, 4, 5, 6, 10, 11, 12, 13, 14, 15, 16, 17, 18, 19, 20, 21, 22, 23, 24, 25, 26, 27, 28, 29, 30, 31, 32, 33, 34, 35, 36, 37, 38, 39, 40, 41, 42, 43, 44, 45, 46, 47, 48, 49, 50, 51, 52, 53, 54, 55, 56, 57, 58, 59, 60, 61, 62, 63, 64, 65, 66, 67, 68, 69, 70, 71, 72, 73, 74, 75, 76, 77, 78, 79, 80, 81, 82, 83, 84, 85, 86, 87, 88, 89, 90, 91, 92, 93, 94, 95, 96, 97, 98, 99, 100, 101, 102, 103, 104, 105, 106, 107, 108, 109, 110, 111, 112, 113, 114, 115, 116, 117, 118, 119, 120, 121, 122, 123, 124, 125, 126, 127, 128, 129, 130, 131, 132] (.seq (.seq (.ops [⟨some 64, none, .prim (.mov (.tmp 9))⟩,
      ⟨some 65, none, .prim (.bin false .geq (.tmp 64) (.const (Go.Value.int Go.IntKind.i64 1)))⟩])
    (.cond (.tmp 65)
    .skip
    (.exit 4)))
    (.seq (.block 5 (.seq (.seq (.draw [⟨⟨some 68, none, .prim (.mov (.tmp 0))⟩, [], false, 0, 0⟩,
      ⟨⟨some 69, none, .prim (.mov (.tmp 9))⟩, [], false, 0, 0⟩,
      ⟨⟨some 70, none, .prim (.iadrs 1 (.tmp 68) (.tmp 69))⟩, [0, 1], false, 0, 0⟩,
      ⟨⟨some 71, none, .prim (.load 1 false (.tmp 70))⟩, [0, 1, 2], false, 0, 0⟩,
      ⟨⟨some 72, none, .prim (.mov (.tmp 0))⟩, [], false, 0, 0⟩,
      ⟨⟨some 73, none, .prim (.mov (.tmp 9))⟩, [], false, 0, 0⟩,
      ⟨⟨some 74, none, .prim (.bin false .sub (.tmp 73) (.const (Go.Value.int Go.IntKind.i64 1)))⟩, [5], false, 0, 0⟩,
      ⟨⟨some 75, none, .prim (.iadrs 1 (.tmp 72) (.tmp 74))⟩, [4, 5, 6], false, 0, 0⟩,
      ⟨⟨some 76, none, .prim (.load 1 false (.tmp 75))⟩, [4, 5, 6, 7], false, 0, 0⟩,
      ⟨⟨some 77, none, .call (.func 86) [(.tmp 71), (.tmp 76)]⟩, [0, 1, 2, 3, 4, 5, 6, 7, 8], true, 0, 0⟩,
      ⟨⟨some 78, none, .prim (.un .not (.tmp 77))⟩, [0, 1, 2, 3, 4, 5, 6, 7, 8, 9], false, 1, 1⟩])
    (.cond (.tmp 78)
    (.exit 4)
    .skip))
    (.draw [⟨⟨some 79, none, .prim (.mov (.tmp 0))⟩, [], false, 0, 0⟩,
      ⟨⟨some 80, none, .prim (.mov (.tmp 9))⟩, [], false, 0, 0⟩,
      ⟨⟨some 81, none, .prim (.mov (.tmp 0))⟩, [], false, 0, 1⟩,
      ⟨⟨some 82, none, .prim (.mov (.tmp 9))⟩, [], false, 0, 1⟩,
      ⟨⟨some 83, none, .prim (.bin false .sub (.tmp 82) (.const (Go.Value.int Go.IntKind.i64 1)))⟩, [3], false, 0, 1⟩,
      ⟨⟨some 84, none, .prim (.mov (.tmp 0))⟩, [], false, 0, 0⟩,
      ⟨⟨some 85, none, .prim (.mov (.tmp 9))⟩, [], false, 0, 0⟩,
      ⟨⟨some 86, none, .prim (.bin false .sub (.tmp 85) (.const (Go.Value.int Go.IntKind.i64 1)))⟩, [6], false, 0, 0⟩,
      ⟨⟨some 87, none, .prim (.iadrs 1 (.tmp 84) (.tmp 86))⟩, [5, 6, 7], false, 0, 0⟩,
      ⟨⟨some 88, none, .prim (.load 1 false (.tmp 87))⟩, [5, 6, 7, 8], false, 0, 0⟩,
      ⟨⟨some 89, none, .prim (.mov (.tmp 0))⟩, [], false, 0, 0⟩,
      ⟨⟨some 90, none, .prim (.mov (.tmp 9))⟩, [], false, 0, 0⟩,
      ⟨⟨some 91, none, .prim (.iadrs 1 (.tmp 89) (.tmp 90))⟩, [10, 11], false, 0, 0⟩,
      ⟨⟨some 92, none, .prim (.load 1 false (.tmp 91))⟩, [10, 11, 12], false, 0, 0⟩,
      ⟨⟨some 93, none, .prim (.iadrs 1 (.tmp 79) (.tmp 80))⟩, [0, 1, 5, 6, 7, 8, 9, 10, 11, 12, 13], false, 0, 0⟩,
      ⟨⟨none, none, .prim (.store 1 (.tmp 93) (.tmp 88))⟩, [0, 1, 5, 6, 7, 8, 9, 10, 11, 12, 13, 14], true, 0, 0⟩,
      ⟨⟨some 94, none, .prim (.iadrs 1 (.tmp 81) (.tmp 83))⟩, [0, 1, 2, 3, 4, 5, 6, 7, 8, 9, 10, 11, 12, 13, 14, 15], false, 1, 1⟩,
      ⟨⟨none, none, .prim (.store 1 (.tmp 94) (.tmp 92))⟩, [0, 1, 2, 3, 4, 5, 6, 7, 8, 9, 10, 11, 12, 13, 14, 15, 16], true, 0, 0⟩])))
    (.ops [⟨some 66, none, .prim (.mov (.tmp 9))⟩,
      ⟨some 67, none, .prim (.bin false .sub (.tmp 66) (.const (Go.Value.int Go.IntKind.i64 1)))⟩,
      ⟨some 9, none, .prim (.mov (.tmp 67))⟩]))))))
    .skip))
    (.seq (.ops [⟨some 95, none, .prim (.mov (.tmp 2))⟩,
      ⟨some 96, none, .prim (.mov (.tmp 7))⟩,
      ⟨some 97, none, .prim (.bin false .sub (.tmp 95) (.tmp 96))⟩,
      ⟨some 98, none, .prim (.bin false .geq (.tmp 97) (.const (Go.Value.int Go.IntKind.i64 2)))⟩])
    (.cond (.tmp 98)
    (.seq (.ops [⟨some 99, none, .prim (.mov (.tmp 7))⟩,
      ⟨some 100, none, .prim (.bin false .add (.tmp 99) (.const (Go.Value.int Go.IntKind.i64 1)))⟩,
      ⟨some 10, none, .prim (.mov (.tmp 100))⟩])
    (.block 6 (.loop [3, 4, 5, 6, 9, 11, 12, 13, 14, 15, 16, 17, 18, 19, 20, 21, 22, 23, 24, 25, 26, 27, 28, 29, 30, 31, 32, 33, 34, 35, 36, 37, 38, 39, 40, 41, 42, 43, 44, 45, 46, 47, 48, 49, 50, 51, 52, 53, 54, 55, 56, 57, 58, 59, 60, 61, 62, 63, 64, 65, 66, 67, 68, 69, 70, 71, 72, 73, 74, 75, 76, 77, 78, 79, 80, 81, 82, 83, 84, 85, 86, 87, 88, 89, 90, 91, 92, 93, 94, 95, 96, 97, 98, 99, 100, 101, 102, 103, 104, 105, 106, 107, 108, 109, 110, 111, 112, 113, 114, 115, 116, 117, 118, 119, 120, 121, 122, 123, 124, 125, 126, 127, 128, 129, 130, 131, 132] (.seq (.seq (.ops [⟨some 101, none, .prim (.mov (.tmp 10))⟩,
      ⟨some 102, none, .prim (.mov (.tmp 2))⟩,
      ⟨some 103, none, .prim (.bin false .lss (.tmp 101) (.tmp 102))⟩])
    (.cond (.tmp 103)
    .skip
    (.exit 6)))
    (.seq (.block 7 (.seq (.seq (.draw [⟨⟨some 106, none, .prim (.mov (.tmp 0))⟩, [], false, 0, 0⟩,
      ⟨⟨some 107, none, .prim (.mov (.tmp 10))⟩, [], false, 0, 0⟩,
      ⟨⟨some 108, none, .prim (.iadrs 1 (.tmp 106) (.tmp 107))⟩, [0, 1], false, 0, 0⟩,
      ⟨⟨some 109, none, .prim (.load 1 false (.tmp 108))⟩, [0, 1, 2], false, 0, 0⟩,
      ⟨⟨some 110, none, .prim (.mov (.tmp 0))⟩, [], false, 0, 0⟩,
      ⟨⟨some 111, none, .prim (.mov (.tmp 10))⟩, [], false, 0, 0⟩,
      ⟨⟨some 112, none, .prim (.bin false .sub (.tmp 111) (.const (Go.Value.int Go.IntKind.i64 1)))⟩, [5], false, 0, 0⟩,
      ⟨⟨some 113, none, .prim (.iadrs 1 (.tmp 110) (.tmp 112))⟩, [4, 5, 6], false, 0, 0⟩,
      ⟨⟨some 114, none, .prim (.load 1 false (.tmp 113))⟩, [4, 5, 6, 7], false, 0, 0⟩,
      ⟨⟨some 115, none, .call (.func 86) [(.tmp 109), (.tmp 114)]⟩, [0, 1, 2, 3, 4, 5, 6, 7, 8], true, 0, 0⟩,
      ⟨⟨some 116, none, .prim (.un .not (.tmp 115))⟩, [0, 1, 2, 3, 4, 5, 6, 7, 8, 9], false, 1, 1⟩])
    (.cond (.tmp 116)
    (.exit 6)
    .skip))
    (.draw [⟨⟨some 117, none, .prim (.mov (.tmp 0))⟩, [], false, 0, 0⟩,
      ⟨⟨some 118, none, .prim (.mov (.tmp 10))⟩, [], false, 0, 0⟩,
      ⟨⟨some 119, none, .prim (.mov (.tmp 0))⟩, [], false, 0, 1⟩,
      ⟨⟨some 120, none, .prim (.mov (.tmp 10))⟩, [], false, 0, 1⟩,
      ⟨⟨some 121, none, .prim (.bin false .sub (.tmp 120) (.const (Go.Value.int Go.IntKind.i64 1)))⟩, [3], false, 0, 1⟩,
      ⟨⟨some 122, none, .prim (.mov (.tmp 0))⟩, [], false, 0, 0⟩,
      ⟨⟨some 123, none, .prim (.mov (.tmp 10))⟩, [], false, 0, 0⟩,
      ⟨⟨some 124, none, .prim (.bin false .sub (.tmp 123) (.const (Go.Value.int Go.IntKind.i64 1)))⟩, [6], false, 0, 0⟩,
      ⟨⟨some 125, none, .prim (.iadrs 1 (.tmp 122) (.tmp 124))⟩, [5, 6, 7], false, 0, 0⟩,
      ⟨⟨some 126, none, .prim (.load 1 false (.tmp 125))⟩, [5, 6, 7, 8], false, 0, 0⟩,
      ⟨⟨some 127, none, .prim (.mov (.tmp 0))⟩, [], false, 0, 0⟩,
      ⟨⟨some 128, none, .prim (.mov (.tmp 10))⟩, [], false, 0, 0⟩,
      ⟨⟨some 129, none, .prim (.iadrs 1 (.tmp 127) (.tmp 128))⟩, [10, 11], false, 0, 0⟩,
      ⟨⟨some 130, none, .prim (.load 1 false (.tmp 129))⟩, [10, 11, 12], false, 0, 0⟩,
      ⟨⟨some 131, none, .prim (.iadrs 1 (.tmp 117) (.tmp 118))⟩, [0, 1, 5, 6, 7, 8, 9, 10, 11, 12, 13], false, 0, 0⟩,
      ⟨⟨none, none, .prim (.store 1 (.tmp 131) (.tmp 126))⟩, [0, 1, 5, 6, 7, 8, 9, 10, 11, 12, 13, 14], true, 0, 0⟩,
      ⟨⟨some 132, none, .prim (.iadrs 1 (.tmp 119) (.tmp 121))⟩, [0, 1, 2, 3, 4, 5, 6, 7, 8, 9, 10, 11, 12, 13, 14, 15], false, 1, 1⟩,
      ⟨⟨none, none, .prim (.store 1 (.tmp 132) (.tmp 130))⟩, [0, 1, 2, 3, 4, 5, 6, 7, 8, 9, 10, 11, 12, 13, 14, 15, 16], true, 0, 0⟩])))
    (.ops [⟨some 104, none, .prim (.mov (.tmp 10))⟩,
      ⟨some 105, none, .prim (.bin false .add (.tmp 104) (.const (Go.Value.int Go.IntKind.i64 1)))⟩,
      ⟨some 10, none, .prim (.mov (.tmp 105))⟩]))))))
    .skip))))))))
    (.ops [⟨some 15, none, .prim (.mov (.tmp 8))⟩,
      ⟨some 16, none, .prim (.bin false .add (.tmp 15) (.const (Go.Value.int Go.IntKind.i64 1)))⟩,
      ⟨some 8, none, .prim (.mov (.tmp 16))⟩]))))))
    (.seq (.ops [⟨some 6, none, .prim (.mov (.const (Go.Value.bool Bool.false)))⟩])
    .ret))))
def o85 : List Tmp := []
def r85 : List RV := [.tmp 6]
theorem t85 : Text Tryz.prog 85 o85 c85 r85 133 := ⟨⟨Tryz.f85, _, by kernel_rfl, by kernel_rfl, rfl, by kernel_rfl, by kernel_rfl, rfl⟩, by kernel_rfl⟩

/-- cmp.Less[string] -/
def c86 : ACode :=
  (.seq (.ops [⟨some 4, none, .prim (.mov (.const (Go.Value.bool Bool.false)))⟩])
    (.seq (.ops [⟨some 5, none, .prim (.mov (.tmp 0))⟩,
      ⟨some 6, none, .call (.func 112) [(.tmp 5)]⟩,
      ⟨some 7, none, .prim (.mov (.tmp 6))⟩,
      ⟨some 8, (some (7, true)), .prim (.mov (.tmp 1))⟩,
      ⟨some 9, (some (7, true)), .call (.func 112) [(.tmp 8)]⟩,
      ⟨some 10, (some (7, true)), .prim (.un .not (.tmp 9))⟩,
      ⟨some 11, none, .prim (.pick (.tmp 7) (.tmp 10) (.const (Go.Value.bool Bool.false)))⟩,
      ⟨some 12, none, .prim (.mov (.tmp 11))⟩,
      ⟨some 13, (some (12, false)), .prim (.mov (.tmp 0))⟩,
      ⟨some 14, (some (12, false)), .prim (.mov (.tmp 1))⟩,
      ⟨some 15, (some (12, false)), .prim (.bin false .lss (.tmp 13) (.tmp 14))⟩,
      ⟨some 16, none, .prim (.pick (.tmp 12) (.const (Go.Value.bool Bool.true)) (.tmp 15))⟩,
      ⟨some 4, none, .prim (.mov (.tmp 16))⟩])
    .ret))
def o86 : List Tmp := []
def r86 : List RV := [.tmp 4]
theorem t86 : Text Tryz.prog 86 o86 c86 r86 17 := ⟨⟨Tryz.f86, _, by kernel_rfl, by kernel_rfl, rfl, by kernel_rfl, by kernel_rfl, rfl⟩, by kernel_rfl⟩

end Go.Proofs.YtgnoebkcephdmabGreatDoor
