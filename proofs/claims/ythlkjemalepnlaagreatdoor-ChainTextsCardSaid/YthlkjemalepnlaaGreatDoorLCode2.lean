/- What the functions do, over abstract values: printed by a program, checked by the kernel. No condition. -/
import Derived.Test.YthlkjemalepnlaaGreatDoorProg
import Derived.Test.YthlkjemalepnlaaGreatDoorAbSpec
namespace Go.Proofs.YthlkjemalepnlaaGreatDoor
open Go Go.Ab
set_option maxRecDepth 100000

/-- (*sordine/rex.parser).atom -/
def c96 : ACode :=
  (.seq (.ops [⟨some 4, none, .prim (.allocm [.pl (.int .i64 0), .pl (.int .u64 0), .pl (.int .u64 0), .pl (.int .u64 0), .pl (.int .u64 0), .nils])⟩])
    (.seq (.ops [⟨some 7, none, .prim (.build [.pl (.int .i64 0), .pl (.int .u64 0), .pl (.int .u64 0), .pl (.int .u64 0), .pl (.int .u64 0), .nils] [(0, 1, (.const (Go.Value.int Go.IntKind.i64 1)))])⟩,
      ⟨some 5, none, .prim (.allocm [.pl (.int .i64 0), .pl (.int .u64 0), .pl (.int .u64 0), .pl (.int .u64 0), .pl (.int .u64 0), .nils])⟩,
      ⟨none, none, .prim (.store 6 (.tmp 5) (.tmp 7))⟩])
    (.seq (.seq (.ops [⟨some 8, none, .prim (.mov (.tmp 0))⟩,
      ⟨some 9, none, .call (.func 97) [(.tmp 8)]⟩,
      ⟨some 6, none, .prim (.mov (.tmp 9))⟩])
    (.seq (.ops [⟨some 10, none, .prim (.mov (.tmp 6))⟩])
    (.block 0 (.seq (.ops [⟨some 27, none, .prim (.bin false .eql (.tmp 10) (.const (Go.Value.int Go.IntKind.u8 40)))⟩,
      ⟨some 26, none, .prim (.mov (.tmp 27))⟩])
    (.cond (.tmp 26)
    (.seq (.ops [⟨some 28, none, .prim (.mov (.tmp 0))⟩,
      ⟨some 29, none, .prim (.mov (.tmp 0))⟩,
      ⟨some 30, none, .prim (.nilc (.tmp 29))⟩,
      ⟨some 31, none, .prim (.fadr 2 (.tmp 30))⟩,
      ⟨some 32, none, .prim (.load 1 false (.tmp 31))⟩,
      ⟨some 33, none, .prim (.mov (.tmp 32))⟩,
      ⟨some 34, (some (33, false)), .prim (.mov (.tmp 1))⟩,
      ⟨some 35, (some (33, false)), .prim (.bin false .eql (.tmp 34) (.const (Go.Value.int Go.IntKind.i64 8)))⟩,
      ⟨some 36, none, .prim (.pick (.tmp 33) (.const (Go.Value.bool Bool.true)) (.tmp 35))⟩,
      ⟨some 37, none, .prim (.nilc (.tmp 28))⟩,
      ⟨some 38, none, .prim (.fadr 2 (.tmp 37))⟩,
      ⟨none, none, .prim (.store 1 (.tmp 38) (.tmp 36))⟩])
    (.seq (.seq (.ops [⟨some 39, none, .prim (.mov (.tmp 0))⟩,
      ⟨some 40, none, .prim (.nilc (.tmp 39))⟩,
      ⟨some 41, none, .prim (.fadr 2 (.tmp 40))⟩,
      ⟨some 42, none, .prim (.load 1 false (.tmp 41))⟩,
      ⟨some 43, none, .prim (.un .not (.tmp 42))⟩])
    (.cond (.tmp 43)
    (.ops [⟨some 44, none, .prim (.mov (.tmp 0))⟩,
      ⟨some 45, none, .prim (.mov (.tmp 1))⟩,
      ⟨some 46, none, .prim (.bin false .add (.tmp 45) (.const (Go.Value.int Go.IntKind.i64 1)))⟩,
      ⟨some 47, none, .call (.func 87) [(.tmp 44), (.tmp 46)]⟩,
      ⟨none, none, .prim (.store 6 (.tmp 5) (.tmp 47))⟩])
    .skip))
    (.ops [⟨some 48, none, .prim (.mov (.tmp 0))⟩,
      ⟨some 49, none, .prim (.mov (.tmp 0))⟩,
      ⟨some 50, none, .call (.func 91) [(.tmp 49), (.const (Go.Value.int Go.IntKind.u8 41))]⟩,
      ⟨some 51, none, .prim (.un .not (.tmp 50))⟩,
      ⟨some 52, none, .prim (.mov (.tmp 51))⟩,
      ⟨some 53, (some (52, false)), .prim (.mov (.tmp 0))⟩,
      ⟨some 54, (some (52, false)), .prim (.nilc (.tmp 53))⟩,
      ⟨some 55, (some (52, false)), .prim (.fadr 2 (.tmp 54))⟩,
      ⟨some 56, (some (52, false)), .prim (.load 1 false (.tmp 55))⟩,
      ⟨some 57, none, .prim (.pick (.tmp 52) (.const (Go.Value.bool Bool.true)) (.tmp 56))⟩,
      ⟨some 58, none, .prim (.nilc (.tmp 48))⟩,
      ⟨some 59, none, .prim (.fadr 2 (.tmp 58))⟩,
      ⟨none, none, .prim (.store 1 (.tmp 59) (.tmp 57))⟩])))
    (.seq (.ops [⟨some 61, none, .prim (.bin false .eql (.tmp 10) (.const (Go.Value.int Go.IntKind.u8 91)))⟩,
      ⟨some 60, none, .prim (.mov (.tmp 61))⟩])
    (.cond (.tmp 60)
    (.ops [⟨some 62, none, .prim (.mov (.tmp 0))⟩,
      ⟨some 63, none, .call (.func 98) [(.tmp 62)]⟩,
      ⟨some 64, none, .prim (.fadr 1 (.tmp 5))⟩,
      ⟨none, none, .prim (.store 4 (.tmp 64) (.tmp 63))⟩])
    (.seq (.ops [⟨some 66, none, .prim (.bin false .eql (.tmp 10) (.const (Go.Value.int Go.IntKind.u8 46)))⟩,
      ⟨some 65, none, .prim (.mov (.tmp 66))⟩])
    (.cond (.tmp 65)
    (.ops [⟨some 67, none, .prim (.fadr 1 (.tmp 5))⟩,
      ⟨some 68, none, .prim (.load 4 true (.tmp 67))⟩,
      ⟨some 69, none, .call (.func 99) [(.tmp 68)]⟩,
      ⟨some 70, none, .prim (.fadr 1 (.tmp 5))⟩,
      ⟨none, none, .prim (.store 4 (.tmp 70) (.tmp 69))⟩])
    (.seq (.ops [⟨some 72, none, .prim (.bin false .eql (.tmp 10) (.const (Go.Value.int Go.IntKind.u8 92)))⟩,
      ⟨some 71, none, .prim (.mov (.tmp 72))⟩])
    (.cond (.tmp 71)
    (.ops [⟨some 73, none, .prim (.fadr 1 (.tmp 5))⟩,
      ⟨some 74, none, .prim (.mov (.tmp 0))⟩,
      ⟨some 75, none, .call (.func 101) [(.tmp 74)]⟩,
      ⟨some 76, none, .call (.func 100) [(.tmp 73), (.tmp 75)]⟩])
    (.seq (.ops [⟨some 11, none, .prim (.mov (.tmp 0))⟩,
      ⟨some 12, none, .prim (.mov (.tmp 0))⟩,
      ⟨some 13, none, .prim (.nilc (.tmp 12))⟩,
      ⟨some 14, none, .prim (.fadr 2 (.tmp 13))⟩,
      ⟨some 15, none, .prim (.load 1 false (.tmp 14))⟩,
      ⟨some 16, none, .prim (.mov (.tmp 15))⟩,
      ⟨some 17, (some (16, false)), .prim (.mov (.tmp 6))⟩,
      ⟨some 18, (some (16, false)), .call (.func 102) [(.const (Go.Value.string (ByteArray.mk #[42, 43, 63, 93]))), (.tmp 17)]⟩,
      ⟨some 19, (some (16, false)), .prim (.bin false .geq (.tmp 18) (.const (Go.Value.int Go.IntKind.i64 0)))⟩,
      ⟨some 20, none, .prim (.pick (.tmp 16) (.const (Go.Value.bool Bool.true)) (.tmp 19))⟩,
      ⟨some 21, none, .prim (.nilc (.tmp 11))⟩,
      ⟨some 22, none, .prim (.fadr 2 (.tmp 21))⟩,
      ⟨none, none, .prim (.store 1 (.tmp 22) (.tmp 20))⟩])
    (.ops [⟨some 23, none, .prim (.fadr 1 (.tmp 5))⟩,
      ⟨some 24, none, .prim (.mov (.tmp 6))⟩,
      ⟨some 25, none, .call (.func 100) [(.tmp 23), (.tmp 24)]⟩])))))))))))))
    (.seq (.ops [⟨some 77, none, .prim (.load 6 true (.tmp 5))⟩,
      ⟨none, none, .prim (.store 6 (.tmp 4) (.tmp 77))⟩])
    .ret))))
def o96 : List Tmp := [4, 5]
def r96 : List RV := [.cell 4 6 true]
theorem t96 : Text Tryz.prog 96 o96 c96 r96 78 := ⟨⟨Tryz.f96, _, by kernel_rfl, by kernel_rfl, rfl, by kernel_rfl, by kernel_rfl, rfl⟩, by kernel_rfl⟩

/-- (*sordine/rex.parser).byte -/
def c97 : ACode :=
  (.seq (.ops [⟨some 2, none, .prim (.mov (.const (Go.Value.int Go.IntKind.u8 0)))⟩])
    (.seq (.seq (.ops [⟨some 3, none, .prim (.mov (.tmp 0))⟩,
      ⟨some 4, none, .call (.func 93) [(.tmp 3)]⟩])
    (.cond (.tmp 4)
    (.seq (.ops [⟨some 5, none, .prim (.mov (.tmp 0))⟩,
      ⟨some 6, none, .prim (.nilc (.tmp 5))⟩,
      ⟨some 7, none, .prim (.fadr 2 (.tmp 6))⟩,
      ⟨none, none, .prim (.store 1 (.tmp 7) (.const (Go.Value.bool Bool.true)))⟩])
    (.seq (.ops [⟨some 2, none, .prim (.mov (.const (Go.Value.int Go.IntKind.u8 0)))⟩])
    .ret))
    .skip))
    (.seq (.ops [⟨some 8, none, .prim (.mov (.tmp 0))⟩,
      ⟨some 9, none, .prim (.nilc (.tmp 8))⟩,
      ⟨some 10, none, .prim (.fadr 1 (.tmp 9))⟩,
      ⟨some 11, none, .prim (.load 1 false (.tmp 10))⟩,
      ⟨some 12, none, .prim (.bin false .add (.tmp 11) (.const (Go.Value.int Go.IntKind.i64 1)))⟩,
      ⟨some 13, none, .prim (.nilc (.tmp 8))⟩,
      ⟨some 14, none, .prim (.fadr 1 (.tmp 13))⟩,
      ⟨none, none, .prim (.store 1 (.tmp 14) (.tmp 12))⟩])
    (.seq (.draw [⟨⟨some 15, none, .prim (.mov (.tmp 0))⟩, [], false, 0, 0⟩,
      ⟨⟨some 16, none, .prim (.nilc (.tmp 15))⟩, [0], false, 0, 0⟩,
      ⟨⟨some 17, none, .prim (.fadr 0 (.tmp 16))⟩, [0, 1], false, 0, 0⟩,
      ⟨⟨some 18, none, .prim (.load 1 false (.tmp 17))⟩, [0, 1, 2], false, 0, 0⟩,
      ⟨⟨some 19, none, .prim (.mov (.tmp 0))⟩, [], false, 0, 0⟩,
      ⟨⟨some 20, none, .prim (.nilc (.tmp 19))⟩, [4], false, 0, 0⟩,
      ⟨⟨some 21, none, .prim (.fadr 1 (.tmp 20))⟩, [4, 5], false, 0, 0⟩,
      ⟨⟨some 22, none, .prim (.load 1 false (.tmp 21))⟩, [4, 5, 6], false, 0, 0⟩,
      ⟨⟨some 23, none, .prim (.bin false .sub (.tmp 22) (.const (Go.Value.int Go.IntKind.i64 1)))⟩, [4, 5, 6, 7], false, 0, 0⟩,
      ⟨⟨some 24, none, .prim (.idxs (.tmp 18) (.tmp 23))⟩, [0, 1, 2, 3, 4, 5, 6, 7, 8], false, 0, 0⟩,
      ⟨⟨some 2, none, .prim (.mov (.tmp 24))⟩, [0, 1, 2, 3, 4, 5, 6, 7, 8, 9], false, 0, 0⟩])
    .ret))))
def o97 : List Tmp := []
def r97 : List RV := [.tmp 2]
theorem t97 : Text Tryz.prog 97 o97 c97 r97 25 := ⟨⟨Tryz.f97, _, by kernel_rfl, by kernel_rfl, rfl, by kernel_rfl, by kernel_rfl, rfl⟩, by kernel_rfl⟩

/-- (*sordine/rex.parser).class -/
def c98 : ACode :=
  (.seq (.ops [⟨some 2, none, .prim (.allocm [.pl (.int .u64 0), .pl (.int .u64 0), .pl (.int .u64 0), .pl (.int .u64 0)])⟩])
    (.seq (.ops [⟨some 3, none, .prim (.allocm [.pl (.int .u64 0), .pl (.int .u64 0), .pl (.int .u64 0), .pl (.int .u64 0)])⟩])
    (.seq (.ops [⟨some 9, none, .prim (.mov (.tmp 0))⟩,
      ⟨some 10, none, .call (.func 91) [(.tmp 9), (.const (Go.Value.int Go.IntKind.u8 94))]⟩,
      ⟨some 4, none, .prim (.mov (.tmp 10))⟩])
    (.seq (.seq (.ops [⟨some 5, none, .prim (.mov (.const (Go.Value.bool Bool.true)))⟩])
    (.block 0 (.loop [1, 6, 7, 8, 9, 10, 11, 12, 13, 14, 15, 16, 17, 18, 19, 20, 21, 22, 23, 24, 25, 26, 27, 28, 29, 30, 31, 32, 33, 34, 35, 36, 37, 38, 39, 40, 41, 42, 43, 44, 45, 46, 47, 48, 49, 50, 51, 52, 53, 54, 55, 56, 57, 58, 59, 60, 61, 62, 63, 64, 65, 66, 67] (.seq (.seq (.ops [⟨some 11, none, .prim (.mov (.tmp 5))⟩,
      ⟨some 12, none, .prim (.mov (.tmp 11))⟩,
      ⟨some 13, (some (12, false)), .prim (.mov (.tmp 0))⟩,
      ⟨some 14, (some (12, false)), .call (.func 93) [(.tmp 13)]⟩,
      ⟨some 15, (some (12, false)), .prim (.un .not (.tmp 14))⟩,
      ⟨some 16, (some (12, false)), .prim (.mov (.tmp 15))⟩,
      ⟨some 17, (some (16, true)), .prim (.mov (.tmp 0))⟩,
      ⟨some 18, (some (16, true)), .call (.func 94) [(.tmp 17), (.const (Go.Value.int Go.IntKind.u8 93))]⟩,
      ⟨some 19, (some (16, true)), .prim (.un .not (.tmp 18))⟩,
      ⟨some 20, (some (12, false)), .prim (.pick (.tmp 16) (.tmp 19) (.const (Go.Value.bool Bool.false)))⟩,
      ⟨some 21, none, .prim (.pick (.tmp 12) (.const (Go.Value.bool Bool.true)) (.tmp 20))⟩])
    (.cond (.tmp 21)
    .skip
    (.exit 0)))
    (.seq (.block 1 (.seq (.ops [⟨some 22, none, .prim (.mov (.tmp 0))⟩,
      ⟨some 23, none, .call (.func 103) [(.tmp 22)]⟩,
      ⟨some 6, none, .prim (.mov (.tmp 23))⟩])
    (.seq (.ops [⟨some 24, none, .prim (.mov (.tmp 6))⟩,
      ⟨some 7, none, .prim (.mov (.tmp 24))⟩])
    (.seq (.seq (.ops [⟨some 25, none, .prim (.mov (.tmp 0))⟩,
      ⟨some 26, none, .call (.func 91) [(.tmp 25), (.const (Go.Value.int Go.IntKind.u8 45))]⟩])
    (.cond (.tmp 26)
    (.ops [⟨some 27, none, .prim (.mov (.tmp 0))⟩,
      ⟨some 28, none, .call (.func 103) [(.tmp 27)]⟩,
      ⟨some 7, none, .prim (.mov (.tmp 28))⟩])
    .skip))
    (.seq (.ops [⟨some 29, none, .prim (.mov (.tmp 0))⟩,
      ⟨some 30, none, .prim (.mov (.tmp 0))⟩,
      ⟨some 31, none, .prim (.nilc (.tmp 30))⟩,
      ⟨some 32, none, .prim (.fadr 2 (.tmp 31))⟩,
      ⟨some 33, none, .prim (.load 1 false (.tmp 32))⟩,
      ⟨some 34, none, .prim (.mov (.tmp 33))⟩,
      ⟨some 35, (some (34, false)), .prim (.mov (.tmp 7))⟩,
      ⟨some 36, (some (34, false)), .prim (.mov (.tmp 6))⟩,
      ⟨some 37, (some (34, false)), .prim (.bin false .lss (.tmp 35) (.tmp 36))⟩,
      ⟨some 38, none, .prim (.pick (.tmp 34) (.const (Go.Value.bool Bool.true)) (.tmp 37))⟩,
      ⟨some 39, none, .prim (.nilc (.tmp 29))⟩,
      ⟨some 40, none, .prim (.fadr 2 (.tmp 39))⟩,
      ⟨none, none, .prim (.store 1 (.tmp 40) (.tmp 38))⟩])
    (.seq (.ops [⟨some 41, none, .prim (.mov (.tmp 6))⟩,
      ⟨some 42, none, .prim (.convi .i64 (.tmp 41))⟩,
      ⟨some 8, none, .prim (.mov (.tmp 42))⟩])
    (.block 2 (.loop [1, 5, 6, 9, 10, 11, 12, 13, 14, 15, 16, 17, 18, 19, 20, 21, 22, 23, 24, 25, 26, 27, 28, 29, 30, 31, 32, 33, 34, 35, 36, 37, 38, 39, 40, 41, 42, 43, 44, 45, 46, 47, 48, 49, 50, 51, 52, 53, 54, 55, 56, 57, 58, 59, 60, 61, 62, 63, 64, 65, 66, 67] (.seq (.seq (.ops [⟨some 43, none, .prim (.mov (.tmp 8))⟩,
      ⟨some 44, none, .prim (.mov (.tmp 7))⟩,
      ⟨some 45, none, .prim (.convi .i64 (.tmp 44))⟩,
      ⟨some 46, none, .prim (.bin false .leq (.tmp 43) (.tmp 45))⟩])
    (.cond (.tmp 46)
    .skip
    (.exit 2)))
    (.seq (.block 3 (.ops [⟨some 49, none, .prim (.mov (.tmp 8))⟩,
      ⟨some 50, none, .prim (.convi .u8 (.tmp 49))⟩,
      ⟨some 51, none, .call (.func 100) [(.tmp 3), (.tmp 50)]⟩]))
    (.ops [⟨some 47, none, .prim (.mov (.tmp 8))⟩,
      ⟨some 48, none, .prim (.bin false .add (.tmp 47) (.const (Go.Value.int Go.IntKind.i64 1)))⟩,
      ⟨some 8, none, .prim (.mov (.tmp 48))⟩])))))))))))
    (.ops [⟨some 5, none, .prim (.mov (.const (Go.Value.bool Bool.false)))⟩]))))))
    (.seq (.ops [⟨some 52, none, .prim (.mov (.tmp 0))⟩,
      ⟨some 53, none, .prim (.mov (.tmp 0))⟩,
      ⟨some 54, none, .call (.func 91) [(.tmp 53), (.const (Go.Value.int Go.IntKind.u8 93))]⟩,
      ⟨some 55, none, .prim (.un .not (.tmp 54))⟩,
      ⟨some 56, none, .prim (.mov (.tmp 55))⟩,
      ⟨some 57, (some (56, false)), .prim (.mov (.tmp 0))⟩,
      ⟨some 58, (some (56, false)), .prim (.nilc (.tmp 57))⟩,
      ⟨some 59, (some (56, false)), .prim (.fadr 2 (.tmp 58))⟩,
      ⟨some 60, (some (56, false)), .prim (.load 1 false (.tmp 59))⟩,
      ⟨some 61, none, .prim (.pick (.tmp 56) (.const (Go.Value.bool Bool.true)) (.tmp 60))⟩,
      ⟨some 62, none, .prim (.nilc (.tmp 52))⟩,
      ⟨some 63, none, .prim (.fadr 2 (.tmp 62))⟩,
      ⟨none, none, .prim (.store 1 (.tmp 63) (.tmp 61))⟩])
    (.seq (.seq (.ops [⟨some 64, none, .prim (.mov (.tmp 4))⟩])
    (.cond (.tmp 64)
    (.seq (.ops [⟨some 65, none, .prim (.load 4 true (.tmp 3))⟩,
      ⟨some 66, none, .call (.func 99) [(.tmp 65)]⟩,
      ⟨none, none, .prim (.store 4 (.tmp 2) (.tmp 66))⟩])
    .ret)
    .skip))
    (.seq (.ops [⟨some 67, none, .prim (.load 4 true (.tmp 3))⟩,
      ⟨none, none, .prim (.store 4 (.tmp 2) (.tmp 67))⟩])
    .ret)))))))
def o98 : List Tmp := [2, 3]
def r98 : List RV := [.cell 2 4 true]
theorem t98 : Text Tryz.prog 98 o98 c98 r98 68 := ⟨⟨Tryz.f98, _, by kernel_rfl, by kernel_rfl, rfl, by kernel_rfl, by kernel_rfl, rfl⟩, by kernel_rfl⟩

/-- sordine/rex.turned -/
def c99 : ACode :=
  (.seq (.ops [⟨some 1, none, .prim (.boxm (.tmp 0))⟩,
      ⟨some 2, none, .prim (.allocm [.pl (.int .u64 0), .pl (.int .u64 0), .pl (.int .u64 0), .pl (.int .u64 0)])⟩])
    (.seq (.seq (.ops [⟨some 4, none, .prim (.mov (.const (Go.Value.int Go.IntKind.i64 0)))⟩])
    (.block 0 (.loop [0, 3, 5, 6, 7, 8, 9, 10, 11, 12, 13, 14] (.seq (.ops [⟨some 5, none, .prim (.bin false .lss (.tmp 4) (.const (Go.Value.int Go.IntKind.i64 4)))⟩])
    (.seq (.cond (.tmp 5)
    .skip
    (.exit 0))
    (.seq (.block 1 (.seq (.ops [⟨some 6, none, .prim (.mov (.tmp 4))⟩,
      ⟨some 3, none, .prim (.mov (.tmp 6))⟩])
    (.ops [⟨some 7, none, .prim (.mov (.tmp 3))⟩,
      ⟨some 8, none, .prim (.mov (.tmp 3))⟩,
      ⟨some 9, none, .prim (.iadra 1 4 (.tmp 1) (.tmp 8))⟩,
      ⟨some 10, none, .prim (.load 1 false (.tmp 9))⟩,
      ⟨some 11, none, .prim (.un .xor (.tmp 10))⟩,
      ⟨some 12, none, .prim (.iadra 1 4 (.tmp 1) (.tmp 7))⟩,
      ⟨none, none, .prim (.store 1 (.tmp 12) (.tmp 11))⟩])))
    (.ops [⟨some 13, none, .prim (.bin false .add (.tmp 4) (.const (Go.Value.int Go.IntKind.i64 1)))⟩,
      ⟨some 4, none, .prim (.mov (.tmp 13))⟩])))))))
    (.seq (.ops [⟨some 14, none, .prim (.load 4 true (.tmp 1))⟩,
      ⟨none, none, .prim (.store 4 (.tmp 2) (.tmp 14))⟩])
    .ret)))
def o99 : List Tmp := [1, 2]
def r99 : List RV := [.cell 2 4 true]
theorem t99 : Text Tryz.prog 99 o99 c99 r99 15 := ⟨⟨Tryz.f99, _, by kernel_rfl, by kernel_rfl, rfl, by kernel_rfl, by kernel_rfl, rfl⟩, by kernel_rfl⟩

/-- sordine/rex.add -/
def c100 : ACode :=
  (.draw [⟨⟨some 4, none, .prim (.mov (.tmp 0))⟩, [], false, 0, 0⟩,
      ⟨⟨some 5, none, .prim (.mov (.tmp 1))⟩, [], false, 0, 0⟩,
      ⟨⟨some 6, none, .prim (.bin false .quo (.tmp 5) (.const (Go.Value.int Go.IntKind.u8 64)))⟩, [1], false, 0, 0⟩,
      ⟨⟨some 7, none, .prim (.nilc (.tmp 4))⟩, [0], false, 0, 0⟩,
      ⟨⟨some 8, none, .prim (.iadra 1 4 (.tmp 7) (.tmp 6))⟩, [0, 1, 2, 3], false, 0, 0⟩,
      ⟨⟨some 9, none, .prim (.load 1 false (.tmp 8))⟩, [0, 1, 2, 3, 4], false, 0, 0⟩,
      ⟨⟨some 10, none, .prim (.mov (.tmp 1))⟩, [], false, 0, 0⟩,
      ⟨⟨some 11, none, .prim (.bin false .rem (.tmp 10) (.const (Go.Value.int Go.IntKind.u8 64)))⟩, [6], false, 0, 0⟩,
      ⟨⟨some 12, none, .prim (.bin false .shl (.const (Go.Value.int Go.IntKind.u64 1)) (.tmp 11))⟩, [6, 7], false, 0, 0⟩,
      ⟨⟨some 13, none, .prim (.bin false .or (.tmp 9) (.tmp 12))⟩, [0, 1, 2, 3, 4, 5, 6, 7, 8], false, 0, 0⟩,
      ⟨⟨some 14, none, .prim (.nilc (.tmp 4))⟩, [0], false, 0, 0⟩,
      ⟨⟨some 15, none, .prim (.iadra 1 4 (.tmp 14) (.tmp 6))⟩, [0, 1, 2, 3, 4, 5, 6, 7, 8, 9, 10], false, 0, 0⟩,
      ⟨⟨none, none, .prim (.store 1 (.tmp 15) (.tmp 13))⟩, [0, 1, 2, 3, 4, 5, 6, 7, 8, 9, 10, 11], true, 0, 0⟩])
def o100 : List Tmp := []
def r100 : List RV := []
theorem t100 : Text Tryz.prog 100 o100 c100 r100 16 := ⟨⟨Tryz.f100, _, by kernel_rfl, by kernel_rfl, rfl, by kernel_rfl, by kernel_rfl, rfl⟩, by kernel_rfl⟩

/-- (*sordine/rex.parser).sign -/
def c101 : ACode :=
  (.seq (.ops [⟨some 2, none, .prim (.mov (.const (Go.Value.int Go.IntKind.u8 0)))⟩])
    (.seq (.ops [⟨some 4, none, .prim (.mov (.tmp 0))⟩,
      ⟨some 5, none, .call (.func 97) [(.tmp 4)]⟩,
      ⟨some 3, none, .prim (.mov (.tmp 5))⟩])
    (.seq (.ops [⟨some 6, none, .prim (.mov (.tmp 0))⟩,
      ⟨some 7, none, .prim (.mov (.tmp 0))⟩,
      ⟨some 8, none, .prim (.nilc (.tmp 7))⟩,
      ⟨some 9, none, .prim (.fadr 2 (.tmp 8))⟩,
      ⟨some 10, none, .prim (.load 1 false (.tmp 9))⟩,
      ⟨some 11, none, .prim (.mov (.tmp 10))⟩,
      ⟨some 12, (some (11, false)), .prim (.mov (.tmp 3))⟩,
      ⟨some 13, (some (11, false)), .call (.func 102) [(.const (Go.Value.string (ByteArray.mk #[124, 42, 43, 63, 40, 41, 91, 93, 46, 92, 94, 45]))), (.tmp 12)]⟩,
      ⟨some 14, (some (11, false)), .prim (.bin false .lss (.tmp 13) (.const (Go.Value.int Go.IntKind.i64 0)))⟩,
      ⟨some 15, none, .prim (.pick (.tmp 11) (.const (Go.Value.bool Bool.true)) (.tmp 14))⟩,
      ⟨some 16, none, .prim (.nilc (.tmp 6))⟩,
      ⟨some 17, none, .prim (.fadr 2 (.tmp 16))⟩,
      ⟨none, none, .prim (.store 1 (.tmp 17) (.tmp 15))⟩])
    (.seq (.ops [⟨some 18, none, .prim (.mov (.tmp 3))⟩,
      ⟨some 2, none, .prim (.mov (.tmp 18))⟩])
    .ret))))
def o101 : List Tmp := []
def r101 : List RV := [.tmp 2]
theorem t101 : Text Tryz.prog 101 o101 c101 r101 19 := ⟨⟨Tryz.f101, _, by kernel_rfl, by kernel_rfl, rfl, by kernel_rfl, by kernel_rfl, rfl⟩, by kernel_rfl⟩

/-- strings.IndexByte -/
def c102 : ACode :=
  (.seq (.ops [⟨some 4, none, .prim (.mov (.const (Go.Value.int Go.IntKind.i64 0)))⟩])
    (.seq (.ops [⟨some 5, none, .prim (.mov (.tmp 0))⟩,
      ⟨some 6, none, .prim (.mov (.tmp 1))⟩,
      ⟨some 7, none, .call (.func 104) [(.tmp 5), (.tmp 6)]⟩,
      ⟨some 4, none, .prim (.mov (.tmp 7))⟩])
    .ret))
def o102 : List Tmp := []
def r102 : List RV := [.tmp 4]
theorem t102 : Text Tryz.prog 102 o102 c102 r102 8 := ⟨⟨Tryz.f102, _, by kernel_rfl, by kernel_rfl, rfl, by kernel_rfl, by kernel_rfl, rfl⟩, by kernel_rfl⟩

/-- (*sordine/rex.parser).member -/
def c103 : ACode :=
  (.seq (.ops [⟨some 2, none, .prim (.mov (.const (Go.Value.int Go.IntKind.u8 0)))⟩])
    (.seq (.ops [⟨some 4, none, .prim (.mov (.tmp 0))⟩,
      ⟨some 5, none, .call (.func 97) [(.tmp 4)]⟩,
      ⟨some 3, none, .prim (.mov (.tmp 5))⟩])
    (.seq (.seq (.ops [⟨some 6, none, .prim (.mov (.tmp 3))⟩,
      ⟨some 7, none, .prim (.bin false .eql (.tmp 6) (.const (Go.Value.int Go.IntKind.u8 92)))⟩])
    (.cond (.tmp 7)
    (.seq (.ops [⟨some 8, none, .prim (.mov (.tmp 0))⟩,
      ⟨some 9, none, .call (.func 101) [(.tmp 8)]⟩,
      ⟨some 2, none, .prim (.mov (.tmp 9))⟩])
    .ret)
    .skip))
    (.seq (.ops [⟨some 10, none, .prim (.mov (.tmp 0))⟩,
      ⟨some 11, none, .prim (.mov (.tmp 0))⟩,
      ⟨some 12, none, .prim (.nilc (.tmp 11))⟩,
      ⟨some 13, none, .prim (.fadr 2 (.tmp 12))⟩,
      ⟨some 14, none, .prim (.load 1 false (.tmp 13))⟩,
      ⟨some 15, none, .prim (.mov (.tmp 14))⟩,
      ⟨some 16, (some (15, false)), .prim (.mov (.tmp 3))⟩,
      ⟨some 17, (some (15, false)), .call (.func 102) [(.const (Go.Value.string (ByteArray.mk #[92, 93, 91, 94, 45]))), (.tmp 16)]⟩,
      ⟨some 18, (some (15, false)), .prim (.bin false .geq (.tmp 17) (.const (Go.Value.int Go.IntKind.i64 0)))⟩,
      ⟨some 19, none, .prim (.pick (.tmp 15) (.const (Go.Value.bool Bool.true)) (.tmp 18))⟩,
      ⟨some 20, none, .prim (.nilc (.tmp 10))⟩,
      ⟨some 21, none, .prim (.fadr 2 (.tmp 20))⟩,
      ⟨none, none, .prim (.store 1 (.tmp 21) (.tmp 19))⟩])
    (.seq (.ops [⟨some 22, none, .prim (.mov (.tmp 3))⟩,
      ⟨some 2, none, .prim (.mov (.tmp 22))⟩])
    .ret)))))
def o103 : List Tmp := []
def r103 : List RV := [.tmp 2]
theorem t103 : Text Tryz.prog 103 o103 c103 r103 23 := ⟨⟨Tryz.f103, _, by kernel_rfl, by kernel_rfl, rfl, by kernel_rfl, by kernel_rfl, rfl⟩, by kernel_rfl⟩

/-- internal/stringslite.IndexByte -/
def c104 : ACode :=
  (.seq (.ops [⟨some 4, none, .prim (.mov (.const (Go.Value.int Go.IntKind.i64 0)))⟩])
    (.seq (.ops [⟨some 5, none, .prim (.mov (.tmp 0))⟩,
      ⟨some 6, none, .prim (.mov (.tmp 1))⟩,
      ⟨some 7, none, .call (.func 105) [(.tmp 5), (.tmp 6)]⟩,
      ⟨some 4, none, .prim (.mov (.tmp 7))⟩])
    .ret))
def o104 : List Tmp := []
def r104 : List RV := [.tmp 4]
theorem t104 : Text Tryz.prog 104 o104 c104 r104 8 := ⟨⟨Tryz.f104, _, by kernel_rfl, by kernel_rfl, rfl, by kernel_rfl, by kernel_rfl, rfl⟩, by kernel_rfl⟩

/-- gosem.cut.vars -/
def c126 : ACode :=
  (.seq (.ops [⟨some 0, none, .prim (.build [.pl (.int .u32 0), .pl (.int .u32 0), .pl (.int .u32 0), .pl (.int .u32 0), .pl (.int .u32 0), .pl (.int .u32 0), .pl (.int .u32 0), .pl (.int .u32 0), .pl (.int .u32 0), .pl (.int .u32 0), .pl (.int .u32 0), .pl (.int .u32 0), .pl (.int .u32 0), .pl (.int .u32 0), .pl (.int .u32 0), .pl (.int .u32 0), .pl (.int .u32 0), .pl (.int .u32 0), .pl (.int .u32 0), .pl (.int .u32 0), .pl (.int .u32 0), .pl (.int .u32 0), .pl (.int .u32 0), .pl (.int .u32 0), .pl (.int .u32 0), .pl (.int .u32 0), .pl (.int .u32 0), .pl (.int .u32 0), .pl (.int .u32 0), .pl (.int .u32 0), .pl (.int .u32 0), .pl (.int .u32 0), .pl (.int .u32 0), .pl (.int .u32 0), .pl (.int .u32 0), .pl (.int .u32 0), .pl (.int .u32 0), .pl (.int .u32 0), .pl (.int .u32 0), .pl (.int .u32 0), .pl (.int .u32 0), .pl (.int .u32 0), .pl (.int .u32 0), .pl (.int .u32 0), .pl (.int .u32 0), .pl (.int .u32 0), .pl (.int .u32 0), .pl (.int .u32 0), .pl (.int .u32 0), .pl (.int .u32 0), .pl (.int .u32 0), .pl (.int .u32 0), .pl (.int .u32 0), .pl (.int .u32 0), .pl (.int .u32 0), .pl (.int .u32 0), .pl (.int .u32 0), .pl (.int .u32 0), .pl (.int .u32 0), .pl (.int .u32 0), .pl (.int .u32 0), .pl (.int .u32 0), .pl (.int .u32 0), .pl (.int .u32 0)] [(0, 1, (.const (Go.Value.int Go.IntKind.u32 1116352408))), (1, 1, (.const (Go.Value.int Go.IntKind.u32 1899447441))), (2, 1, (.const (Go.Value.int Go.IntKind.u32 3049323471))), (3, 1, (.const (Go.Value.int Go.IntKind.u32 3921009573))), (4, 1, (.const (Go.Value.int Go.IntKind.u32 961987163))), (5, 1, (.const (Go.Value.int Go.IntKind.u32 1508970993))), (6, 1, (.const (Go.Value.int Go.IntKind.u32 2453635748))), (7, 1, (.const (Go.Value.int Go.IntKind.u32 2870763221))), (8, 1, (.const (Go.Value.int Go.IntKind.u32 3624381080))), (9, 1, (.const (Go.Value.int Go.IntKind.u32 310598401))), (10, 1, (.const (Go.Value.int Go.IntKind.u32 607225278))), (11, 1, (.const (Go.Value.int Go.IntKind.u32 1426881987))), (12, 1, (.const (Go.Value.int Go.IntKind.u32 1925078388))), (13, 1, (.const (Go.Value.int Go.IntKind.u32 2162078206))), (14, 1, (.const (Go.Value.int Go.IntKind.u32 2614888103))), (15, 1, (.const (Go.Value.int Go.IntKind.u32 3248222580))), (16, 1, (.const (Go.Value.int Go.IntKind.u32 3835390401))), (17, 1, (.const (Go.Value.int Go.IntKind.u32 4022224774))), (18, 1, (.const (Go.Value.int Go.IntKind.u32 264347078))), (19, 1, (.const (Go.Value.int Go.IntKind.u32 604807628))), (20, 1, (.const (Go.Value.int Go.IntKind.u32 770255983))), (21, 1, (.const (Go.Value.int Go.IntKind.u32 1249150122))), (22, 1, (.const (Go.Value.int Go.IntKind.u32 1555081692))), (23, 1, (.const (Go.Value.int Go.IntKind.u32 1996064986))), (24, 1, (.const (Go.Value.int Go.IntKind.u32 2554220882))), (25, 1, (.const (Go.Value.int Go.IntKind.u32 2821834349))), (26, 1, (.const (Go.Value.int Go.IntKind.u32 2952996808))), (27, 1, (.const (Go.Value.int Go.IntKind.u32 3210313671))), (28, 1, (.const (Go.Value.int Go.IntKind.u32 3336571891))), (29, 1, (.const (Go.Value.int Go.IntKind.u32 3584528711))), (30, 1, (.const (Go.Value.int Go.IntKind.u32 113926993))), (31, 1, (.const (Go.Value.int Go.IntKind.u32 338241895))), (32, 1, (.const (Go.Value.int Go.IntKind.u32 666307205))), (33, 1, (.const (Go.Value.int Go.IntKind.u32 773529912))), (34, 1, (.const (Go.Value.int Go.IntKind.u32 1294757372))), (35, 1, (.const (Go.Value.int Go.IntKind.u32 1396182291))), (36, 1, (.const (Go.Value.int Go.IntKind.u32 1695183700))), (37, 1, (.const (Go.Value.int Go.IntKind.u32 1986661051))), (38, 1, (.const (Go.Value.int Go.IntKind.u32 2177026350))), (39, 1, (.const (Go.Value.int Go.IntKind.u32 2456956037))), (40, 1, (.const (Go.Value.int Go.IntKind.u32 2730485921))), (41, 1, (.const (Go.Value.int Go.IntKind.u32 2820302411))), (42, 1, (.const (Go.Value.int Go.IntKind.u32 3259730800))), (43, 1, (.const (Go.Value.int Go.IntKind.u32 3345764771))), (44, 1, (.const (Go.Value.int Go.IntKind.u32 3516065817))), (45, 1, (.const (Go.Value.int Go.IntKind.u32 3600352804))), (46, 1, (.const (Go.Value.int Go.IntKind.u32 4094571909))), (47, 1, (.const (Go.Value.int Go.IntKind.u32 275423344))), (48, 1, (.const (Go.Value.int Go.IntKind.u32 430227734))), (49, 1, (.const (Go.Value.int Go.IntKind.u32 506948616))), (50, 1, (.const (Go.Value.int Go.IntKind.u32 659060556))), (51, 1, (.const (Go.Value.int Go.IntKind.u32 883997877))), (52, 1, (.const (Go.Value.int Go.IntKind.u32 958139571))), (53, 1, (.const (Go.Value.int Go.IntKind.u32 1322822218))), (54, 1, (.const (Go.Value.int Go.IntKind.u32 1537002063))), (55, 1, (.const (Go.Value.int Go.IntKind.u32 1747873779))), (56, 1, (.const (Go.Value.int Go.IntKind.u32 1955562222))), (57, 1, (.const (Go.Value.int Go.IntKind.u32 2024104815))), (58, 1, (.const (Go.Value.int Go.IntKind.u32 2227730452))), (59, 1, (.const (Go.Value.int Go.IntKind.u32 2361852424))), (60, 1, (.const (Go.Value.int Go.IntKind.u32 2428436474))), (61, 1, (.const (Go.Value.int Go.IntKind.u32 2756734187))), (62, 1, (.const (Go.Value.int Go.IntKind.u32 3204031479))), (63, 1, (.const (Go.Value.int Go.IntKind.u32 3329325298)))])⟩,
      ⟨none, none, .prim (.store 64 (.global 1) (.tmp 0))⟩])
    (.ops [⟨some 1, none, .prim (.build [.pl (.int .u32 0), .pl (.int .u32 0), .pl (.int .u32 0), .pl (.int .u32 0), .pl (.int .u32 0), .pl (.int .u32 0), .pl (.int .u32 0), .pl (.int .u32 0), .pl (.int .u32 0), .pl (.int .u32 0), .pl (.int .u32 0), .pl (.int .u32 0), .pl (.int .u32 0), .pl (.int .u32 0), .pl (.int .u32 0), .pl (.int .u32 0), .pl (.int .u32 0), .pl (.int .u32 0), .pl (.int .u32 0), .pl (.int .u32 0), .pl (.int .u32 0), .pl (.int .u32 0), .pl (.int .u32 0), .pl (.int .u32 0), .pl (.int .u32 0), .pl (.int .u32 0), .pl (.int .u32 0), .pl (.int .u32 0), .pl (.int .u32 0), .pl (.int .u32 0), .pl (.int .u32 0), .pl (.int .u32 0), .pl (.int .u32 0), .pl (.int .u32 0), .pl (.int .u32 0), .pl (.int .u32 0), .pl (.int .u32 0), .pl (.int .u32 0), .pl (.int .u32 0), .pl (.int .u32 0), .pl (.int .u32 0), .pl (.int .u32 0), .pl (.int .u32 0), .pl (.int .u32 0), .pl (.int .u32 0), .pl (.int .u32 0), .pl (.int .u32 0), .pl (.int .u32 0), .pl (.int .u32 0), .pl (.int .u32 0), .pl (.int .u32 0), .pl (.int .u32 0), .pl (.int .u32 0), .pl (.int .u32 0), .pl (.int .u32 0), .pl (.int .u32 0), .pl (.int .u32 0), .pl (.int .u32 0), .pl (.int .u32 0), .pl (.int .u32 0), .pl (.int .u32 0), .pl (.int .u32 0), .pl (.int .u32 0), .pl (.int .u32 0)] [(0, 1, (.const (Go.Value.int Go.IntKind.u32 1116352408))), (1, 1, (.const (Go.Value.int Go.IntKind.u32 1899447441))), (2, 1, (.const (Go.Value.int Go.IntKind.u32 3049323471))), (3, 1, (.const (Go.Value.int Go.IntKind.u32 3921009573))), (4, 1, (.const (Go.Value.int Go.IntKind.u32 961987163))), (5, 1, (.const (Go.Value.int Go.IntKind.u32 1508970993))), (6, 1, (.const (Go.Value.int Go.IntKind.u32 2453635748))), (7, 1, (.const (Go.Value.int Go.IntKind.u32 2870763221))), (8, 1, (.const (Go.Value.int Go.IntKind.u32 3624381080))), (9, 1, (.const (Go.Value.int Go.IntKind.u32 310598401))), (10, 1, (.const (Go.Value.int Go.IntKind.u32 607225278))), (11, 1, (.const (Go.Value.int Go.IntKind.u32 1426881987))), (12, 1, (.const (Go.Value.int Go.IntKind.u32 1925078388))), (13, 1, (.const (Go.Value.int Go.IntKind.u32 2162078206))), (14, 1, (.const (Go.Value.int Go.IntKind.u32 2614888103))), (15, 1, (.const (Go.Value.int Go.IntKind.u32 3248222580))), (16, 1, (.const (Go.Value.int Go.IntKind.u32 3835390401))), (17, 1, (.const (Go.Value.int Go.IntKind.u32 4022224774))), (18, 1, (.const (Go.Value.int Go.IntKind.u32 264347078))), (19, 1, (.const (Go.Value.int Go.IntKind.u32 604807628))), (20, 1, (.const (Go.Value.int Go.IntKind.u32 770255983))), (21, 1, (.const (Go.Value.int Go.IntKind.u32 1249150122))), (22, 1, (.const (Go.Value.int Go.IntKind.u32 1555081692))), (23, 1, (.const (Go.Value.int Go.IntKind.u32 1996064986))), (24, 1, (.const (Go.Value.int Go.IntKind.u32 2554220882))), (25, 1, (.const (Go.Value.int Go.IntKind.u32 2821834349))), (26, 1, (.const (Go.Value.int Go.IntKind.u32 2952996808))), (27, 1, (.const (Go.Value.int Go.IntKind.u32 3210313671))), (28, 1, (.const (Go.Value.int Go.IntKind.u32 3336571891))), (29, 1, (.const (Go.Value.int Go.IntKind.u32 3584528711))), (30, 1, (.const (Go.Value.int Go.IntKind.u32 113926993))), (31, 1, (.const (Go.Value.int Go.IntKind.u32 338241895))), (32, 1, (.const (Go.Value.int Go.IntKind.u32 666307205))), (33, 1, (.const (Go.Value.int Go.IntKind.u32 773529912))), (34, 1, (.const (Go.Value.int Go.IntKind.u32 1294757372))), (35, 1, (.const (Go.Value.int Go.IntKind.u32 1396182291))), (36, 1, (.const (Go.Value.int Go.IntKind.u32 1695183700))), (37, 1, (.const (Go.Value.int Go.IntKind.u32 1986661051))), (38, 1, (.const (Go.Value.int Go.IntKind.u32 2177026350))), (39, 1, (.const (Go.Value.int Go.IntKind.u32 2456956037))), (40, 1, (.const (Go.Value.int Go.IntKind.u32 2730485921))), (41, 1, (.const (Go.Value.int Go.IntKind.u32 2820302411))), (42, 1, (.const (Go.Value.int Go.IntKind.u32 3259730800))), (43, 1, (.const (Go.Value.int Go.IntKind.u32 3345764771))), (44, 1, (.const (Go.Value.int Go.IntKind.u32 3516065817))), (45, 1, (.const (Go.Value.int Go.IntKind.u32 3600352804))), (46, 1, (.const (Go.Value.int Go.IntKind.u32 4094571909))), (47, 1, (.const (Go.Value.int Go.IntKind.u32 275423344))), (48, 1, (.const (Go.Value.int Go.IntKind.u32 430227734))), (49, 1, (.const (Go.Value.int Go.IntKind.u32 506948616))), (50, 1, (.const (Go.Value.int Go.IntKind.u32 659060556))), (51, 1, (.const (Go.Value.int Go.IntKind.u32 883997877))), (52, 1, (.const (Go.Value.int Go.IntKind.u32 958139571))), (53, 1, (.const (Go.Value.int Go.IntKind.u32 1322822218))), (54, 1, (.const (Go.Value.int Go.IntKind.u32 1537002063))), (55, 1, (.const (Go.Value.int Go.IntKind.u32 1747873779))), (56, 1, (.const (Go.Value.int Go.IntKind.u32 1955562222))), (57, 1, (.const (Go.Value.int Go.IntKind.u32 2024104815))), (58, 1, (.const (Go.Value.int Go.IntKind.u32 2227730452))), (59, 1, (.const (Go.Value.int Go.IntKind.u32 2361852424))), (60, 1, (.const (Go.Value.int Go.IntKind.u32 2428436474))), (61, 1, (.const (Go.Value.int Go.IntKind.u32 2756734187))), (62, 1, (.const (Go.Value.int Go.IntKind.u32 3204031479))), (63, 1, (.const (Go.Value.int Go.IntKind.u32 3329325298)))])⟩,
      ⟨none, none, .prim (.store 64 (.global 0) (.tmp 1))⟩]))
def o126 : List Tmp := []
def r126 : List RV := []
theorem t126 : Text Tryz.prog 126 o126 c126 r126 2 := ⟨⟨Tryz.f126, _, by kernel_rfl, by kernel_rfl, rfl, by kernel_rfl, by kernel_rfl, rfl⟩, by kernel_rfl⟩

end Go.Proofs.YthlkjemalepnlaaGreatDoor
