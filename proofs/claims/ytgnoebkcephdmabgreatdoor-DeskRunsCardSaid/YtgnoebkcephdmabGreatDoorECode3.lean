/- What the functions do, over abstract values: printed by a program, checked by the kernel. No condition. -/
import Derived.Test.YtgnoebkcephdmabGreatDoorProg
import Derived.Test.YtgnoebkcephdmabGreatDoorAbSpec
namespace Go.Proofs.YtgnoebkcephdmabGreatDoor
open Go Go.Ab
set_option maxRecDepth 100000

/-- slices.medianOrdered[int] -/
def c172 : ACode :=
  (.seq (.ops [⟨some 10, none, .prim (.mov (.const (Go.Value.int Go.IntKind.i64 0)))⟩])
    (.seq (.ops [⟨some 12, none, .prim (.mov (.tmp 0))⟩,
      ⟨some 13, none, .prim (.mov (.tmp 1))⟩,
      ⟨some 14, none, .prim (.mov (.tmp 2))⟩,
      ⟨some 15, none, .prim (.mov (.tmp 4))⟩,
      ⟨some 16, none, .call (.func 179) [(.tmp 12), (.tmp 13), (.tmp 14), (.tmp 15)]⟩,
      ⟨some 11, none, .prim (.mov (.tmp 16))⟩,
      ⟨some 17, none, .prim (.extr 0 (.tmp 11))⟩,
      ⟨some 18, none, .prim (.extr 1 (.tmp 11))⟩,
      ⟨some 1, none, .prim (.mov (.tmp 17))⟩,
      ⟨some 2, none, .prim (.mov (.tmp 18))⟩])
    (.seq (.ops [⟨some 20, none, .prim (.mov (.tmp 0))⟩,
      ⟨some 21, none, .prim (.mov (.tmp 2))⟩,
      ⟨some 22, none, .prim (.mov (.tmp 3))⟩,
      ⟨some 23, none, .prim (.mov (.tmp 4))⟩,
      ⟨some 24, none, .call (.func 179) [(.tmp 20), (.tmp 21), (.tmp 22), (.tmp 23)]⟩,
      ⟨some 19, none, .prim (.mov (.tmp 24))⟩,
      ⟨some 25, none, .prim (.extr 0 (.tmp 19))⟩,
      ⟨some 26, none, .prim (.extr 1 (.tmp 19))⟩,
      ⟨some 2, none, .prim (.mov (.tmp 25))⟩,
      ⟨some 3, none, .prim (.mov (.tmp 26))⟩])
    (.seq (.ops [⟨some 28, none, .prim (.mov (.tmp 0))⟩,
      ⟨some 29, none, .prim (.mov (.tmp 1))⟩,
      ⟨some 30, none, .prim (.mov (.tmp 2))⟩,
      ⟨some 31, none, .prim (.mov (.tmp 4))⟩,
      ⟨some 32, none, .call (.func 179) [(.tmp 28), (.tmp 29), (.tmp 30), (.tmp 31)]⟩,
      ⟨some 27, none, .prim (.mov (.tmp 32))⟩,
      ⟨some 33, none, .prim (.extr 0 (.tmp 27))⟩,
      ⟨some 34, none, .prim (.extr 1 (.tmp 27))⟩,
      ⟨some 1, none, .prim (.mov (.tmp 33))⟩,
      ⟨some 2, none, .prim (.mov (.tmp 34))⟩])
    (.seq (.ops [⟨some 35, none, .prim (.mov (.tmp 2))⟩,
      ⟨some 10, none, .prim (.mov (.tmp 35))⟩])
    .ret)))))
def o172 : List Tmp := []
def r172 : List RV := [.tmp 10]
theorem t172 : Text Tryz.prog 172 o172 c172 r172 36 := ⟨⟨Tryz.f172, _, by kernel_rfl, by kernel_rfl, rfl, by kernel_rfl, by kernel_rfl, rfl⟩, by kernel_rfl⟩

/-- (*sordine/rex.parser).byte -/
def c173 : ACode :=
  (.seq (.ops [⟨some 2, none, .prim (.mov (.const (Go.Value.int Go.IntKind.u8 0)))⟩])
    (.seq (.seq (.ops [⟨some 3, none, .prim (.mov (.tmp 0))⟩,
      ⟨some 4, none, .call (.func 158) [(.tmp 3)]⟩])
    (.cond (.tmp 4)
    (.seq (.ops [⟨some 5, none, .prim (.mov (.tmp 0))⟩,
      ⟨some 6, none, .prim (.nilc (.tmp 5))⟩,
      ⟨some 7, none, .prim (.fadr 2 (.tmp 6))⟩,
      ⟨none, none, .prim (.store 1 (.tmp 7) (.const (Go.Value.bool Bool.true)))⟩])
    (.seq (.ops [⟨some 2, none, .prim (.mov (.const (Go.Value.int Go.IntKind.u8 0)))⟩])
    .ret))
    .skip))
    (.seq (.ops [⟨some 8, none, .prim (.mov (.tmp 0))⟩,
      ⟨some 9, none, .prim (.nilc (.tmp 8))⟩,
      ⟨some 10, none, .prim (.fadr 1 (.tmp 9))⟩,
      ⟨some 11, none, .prim (.load 1 false (.tmp 10))⟩,
      ⟨some 12, none, .prim (.bin false .add (.tmp 11) (.const (Go.Value.int Go.IntKind.i64 1)))⟩,
      ⟨some 13, none, .prim (.nilc (.tmp 8))⟩,
      ⟨some 14, none, .prim (.fadr 1 (.tmp 13))⟩,
      ⟨none, none, .prim (.store 1 (.tmp 14) (.tmp 12))⟩])
    (.seq (.draw [⟨⟨some 15, none, .prim (.mov (.tmp 0))⟩, [], false, 0, 0⟩,
      ⟨⟨some 16, none, .prim (.nilc (.tmp 15))⟩, [0], false, 0, 0⟩,
      ⟨⟨some 17, none, .prim (.fadr 0 (.tmp 16))⟩, [0, 1], false, 0, 0⟩,
      ⟨⟨some 18, none, .prim (.load 1 false (.tmp 17))⟩, [0, 1, 2], false, 0, 0⟩,
      ⟨⟨some 19, none, .prim (.mov (.tmp 0))⟩, [], false, 0, 0⟩,
      ⟨⟨some 20, none, .prim (.nilc (.tmp 19))⟩, [4], false, 0, 0⟩,
      ⟨⟨some 21, none, .prim (.fadr 1 (.tmp 20))⟩, [4, 5], false, 0, 0⟩,
      ⟨⟨some 22, none, .prim (.load 1 false (.tmp 21))⟩, [4, 5, 6], false, 0, 0⟩,
      ⟨⟨some 23, none, .prim (.bin false .sub (.tmp 22) (.const (Go.Value.int Go.IntKind.i64 1)))⟩, [4, 5, 6, 7], false, 0, 0⟩,
      ⟨⟨some 24, none, .prim (.idxs (.tmp 18) (.tmp 23))⟩, [0, 1, 2, 3, 4, 5, 6, 7, 8], false, 0, 0⟩,
      ⟨⟨some 2, none, .prim (.mov (.tmp 24))⟩, [0, 1, 2, 3, 4, 5, 6, 7, 8, 9], false, 0, 0⟩])
    .ret))))
def o173 : List Tmp := []
def r173 : List RV := [.tmp 2]
theorem t173 : Text Tryz.prog 173 o173 c173 r173 25 := ⟨⟨Tryz.f173, _, by kernel_rfl, by kernel_rfl, rfl, by kernel_rfl, by kernel_rfl, rfl⟩, by kernel_rfl⟩

/-- (*sordine/rex.parser).class -/
def c174 : ACode :=
  (.seq (.ops [⟨some 2, none, .prim (.allocm [.pl (.int .u64 0), .pl (.int .u64 0), .pl (.int .u64 0), .pl (.int .u64 0)])⟩])
    (.seq (.ops [⟨some 3, none, .prim (.allocm [.pl (.int .u64 0), .pl (.int .u64 0), .pl (.int .u64 0), .pl (.int .u64 0)])⟩])
    (.seq (.ops [⟨some 9, none, .prim (.mov (.tmp 0))⟩,
      ⟨some 10, none, .call (.func 155) [(.tmp 9), (.const (Go.Value.int Go.IntKind.u8 94))]⟩,
      ⟨some 4, none, .prim (.mov (.tmp 10))⟩])
    (.seq (.seq (.ops [⟨some 5, none, .prim (.mov (.const (Go.Value.bool Bool.true)))⟩])
    (.block 0 (.loop [1, 6, 7, 8, 9, 10, 11, 12, 13, 14, 15, 16, 17, 18, 19, 20, 21, 22, 23, 24, 25, 26, 27, 28, 29, 30, 31, 32, 33, 34, 35, 36, 37, 38, 39, 40, 41, 42, 43, 44, 45, 46, 47, 48, 49, 50, 51, 52, 53, 54, 55, 56, 57, 58, 59, 60, 61, 62, 63, 64, 65, 66, 67] (.seq (.seq (.ops [⟨some 11, none, .prim (.mov (.tmp 5))⟩,
      ⟨some 12, none, .prim (.mov (.tmp 11))⟩,
      ⟨some 13, (some (12, false)), .prim (.mov (.tmp 0))⟩,
      ⟨some 14, (some (12, false)), .call (.func 158) [(.tmp 13)]⟩,
      ⟨some 15, (some (12, false)), .prim (.un .not (.tmp 14))⟩,
      ⟨some 16, (some (12, false)), .prim (.mov (.tmp 15))⟩,
      ⟨some 17, (some (16, true)), .prim (.mov (.tmp 0))⟩,
      ⟨some 18, (some (16, true)), .call (.func 159) [(.tmp 17), (.const (Go.Value.int Go.IntKind.u8 93))]⟩,
      ⟨some 19, (some (16, true)), .prim (.un .not (.tmp 18))⟩,
      ⟨some 20, (some (12, false)), .prim (.pick (.tmp 16) (.tmp 19) (.const (Go.Value.bool Bool.false)))⟩,
      ⟨some 21, none, .prim (.pick (.tmp 12) (.const (Go.Value.bool Bool.true)) (.tmp 20))⟩])
    (.cond (.tmp 21)
    .skip
    (.exit 0)))
    (.seq (.block 1 (.seq (.ops [⟨some 22, none, .prim (.mov (.tmp 0))⟩,
      ⟨some 23, none, .call (.func 180) [(.tmp 22)]⟩,
      ⟨some 6, none, .prim (.mov (.tmp 23))⟩])
    (.seq (.ops [⟨some 24, none, .prim (.mov (.tmp 6))⟩,
      ⟨some 7, none, .prim (.mov (.tmp 24))⟩])
    (.seq (.seq (.ops [⟨some 25, none, .prim (.mov (.tmp 0))⟩,
      ⟨some 26, none, .call (.func 155) [(.tmp 25), (.const (Go.Value.int Go.IntKind.u8 45))]⟩])
    (.cond (.tmp 26)
    (.ops [⟨some 27, none, .prim (.mov (.tmp 0))⟩,
      ⟨some 28, none, .call (.func 180) [(.tmp 27)]⟩,
      ⟨some 7, none, .prim (.mov (.tmp 28))⟩])
    .skip))
    (.seq (.ops [⟨some 29, none, .prim (.mov (.tmp 0))⟩,
      ⟨some 30, none, .prim (.mov (.tmp 0))⟩,
      ⟨some 31, none, .prim (.nilc (.tmp 30))⟩,
      ⟨some 32, none, .prim (.fadr 2 (.tmp 31))⟩,
      ⟨some 33, none, .prim (.load 1 false (.tmp 32))⟩,
      ⟨some 34, none, .prim (.mov (.tmp 33))⟩,
      ⟨some 35, (some (34, false)), .prim (.mov (.tmp 7))⟩,
      ⟨some 36, (some (34, false)), .prim (.mov (.tmp 6))⟩,
      ⟨some 37, (some (34, false)), .prim (.bin false .lss (.tmp 35) (.tmp 36))⟩,
      ⟨some 38, none, .prim (.pick (.tmp 34) (.const (Go.Value.bool Bool.true)) (.tmp 37))⟩,
      ⟨some 39, none, .prim (.nilc (.tmp 29))⟩,
      ⟨some 40, none, .prim (.fadr 2 (.tmp 39))⟩,
      ⟨none, none, .prim (.store 1 (.tmp 40) (.tmp 38))⟩])
    (.seq (.ops [⟨some 41, none, .prim (.mov (.tmp 6))⟩,
      ⟨some 42, none, .prim (.convi .i64 (.tmp 41))⟩,
      ⟨some 8, none, .prim (.mov (.tmp 42))⟩])
    (.block 2 (.loop [1, 5, 6, 9, 10, 11, 12, 13, 14, 15, 16, 17, 18, 19, 20, 21, 22, 23, 24, 25, 26, 27, 28, 29, 30, 31, 32, 33, 34, 35, 36, 37, 38, 39, 40, 41, 42, 43, 44, 45, 46, 47, 48, 49, 50, 51, 52, 53, 54, 55, 56, 57, 58, 59, 60, 61, 62, 63, 64, 65, 66, 67] (.seq (.seq (.ops [⟨some 43, none, .prim (.mov (.tmp 8))⟩,
      ⟨some 44, none, .prim (.mov (.tmp 7))⟩,
      ⟨some 45, none, .prim (.convi .i64 (.tmp 44))⟩,
      ⟨some 46, none, .prim (.bin false .leq (.tmp 43) (.tmp 45))⟩])
    (.cond (.tmp 46)
    .skip
    (.exit 2)))
    (.seq (.block 3 (.ops [⟨some 49, none, .prim (.mov (.tmp 8))⟩,
      ⟨some 50, none, .prim (.convi .u8 (.tmp 49))⟩,
      ⟨some 51, none, .call (.func 176) [(.tmp 3), (.tmp 50)]⟩]))
    (.ops [⟨some 47, none, .prim (.mov (.tmp 8))⟩,
      ⟨some 48, none, .prim (.bin false .add (.tmp 47) (.const (Go.Value.int Go.IntKind.i64 1)))⟩,
      ⟨some 8, none, .prim (.mov (.tmp 48))⟩])))))))))))
    (.ops [⟨some 5, none, .prim (.mov (.const (Go.Value.bool Bool.false)))⟩]))))))
    (.seq (.ops [⟨some 52, none, .prim (.mov (.tmp 0))⟩,
      ⟨some 53, none, .prim (.mov (.tmp 0))⟩,
      ⟨some 54, none, .call (.func 155) [(.tmp 53), (.const (Go.Value.int Go.IntKind.u8 93))]⟩,
      ⟨some 55, none, .prim (.un .not (.tmp 54))⟩,
      ⟨some 56, none, .prim (.mov (.tmp 55))⟩,
      ⟨some 57, (some (56, false)), .prim (.mov (.tmp 0))⟩,
      ⟨some 58, (some (56, false)), .prim (.nilc (.tmp 57))⟩,
      ⟨some 59, (some (56, false)), .prim (.fadr 2 (.tmp 58))⟩,
      ⟨some 60, (some (56, false)), .prim (.load 1 false (.tmp 59))⟩,
      ⟨some 61, none, .prim (.pick (.tmp 56) (.const (Go.Value.bool Bool.true)) (.tmp 60))⟩,
      ⟨some 62, none, .prim (.nilc (.tmp 52))⟩,
      ⟨some 63, none, .prim (.fadr 2 (.tmp 62))⟩,
      ⟨none, none, .prim (.store 1 (.tmp 63) (.tmp 61))⟩])
    (.seq (.seq (.ops [⟨some 64, none, .prim (.mov (.tmp 4))⟩])
    (.cond (.tmp 64)
    (.seq (.ops [⟨some 65, none, .prim (.load 4 true (.tmp 3))⟩,
      ⟨some 66, none, .call (.func 175) [(.tmp 65)]⟩,
      ⟨none, none, .prim (.store 4 (.tmp 2) (.tmp 66))⟩])
    .ret)
    .skip))
    (.seq (.ops [⟨some 67, none, .prim (.load 4 true (.tmp 3))⟩,
      ⟨none, none, .prim (.store 4 (.tmp 2) (.tmp 67))⟩])
    .ret)))))))
def o174 : List Tmp := [2, 3]
def r174 : List RV := [.cell 2 4 true]
theorem t174 : Text Tryz.prog 174 o174 c174 r174 68 := ⟨⟨Tryz.f174, _, by kernel_rfl, by kernel_rfl, rfl, by kernel_rfl, by kernel_rfl, rfl⟩, by kernel_rfl⟩

/-- sordine/rex.turned -/
def c175 : ACode :=
  (.seq (.ops [⟨some 1, none, .prim (.boxm (.tmp 0))⟩,
      ⟨some 2, none, .prim (.allocm [.pl (.int .u64 0), .pl (.int .u64 0), .pl (.int .u64 0), .pl (.int .u64 0)])⟩])
    (.seq (.seq (.ops [⟨some 4, none, .prim (.mov (.const (Go.Value.int Go.IntKind.i64 0)))⟩])
    (.block 0 (.loop [0, 3, 5, 6, 7, 8, 9, 10, 11, 12, 13, 14] (.seq (.ops [⟨some 5, none, .prim (.bin false .lss (.tmp 4) (.const (Go.Value.int Go.IntKind.i64 4)))⟩])
    (.seq (.cond (.tmp 5)
    .skip
    (.exit 0))
    (.seq (.block 1 (.seq (.ops [⟨some 6, none, .prim (.mov (.tmp 4))⟩,
      ⟨some 3, none, .prim (.mov (.tmp 6))⟩])
    (.ops [⟨some 7, none, .prim (.mov (.tmp 3))⟩,
      ⟨some 8, none, .prim (.mov (.tmp 3))⟩,
      ⟨some 9, none, .prim (.iadra 1 4 (.tmp 1) (.tmp 8))⟩,
      ⟨some 10, none, .prim (.load 1 false (.tmp 9))⟩,
      ⟨some 11, none, .prim (.un .xor (.tmp 10))⟩,
      ⟨some 12, none, .prim (.iadra 1 4 (.tmp 1) (.tmp 7))⟩,
      ⟨none, none, .prim (.store 1 (.tmp 12) (.tmp 11))⟩])))
    (.ops [⟨some 13, none, .prim (.bin false .add (.tmp 4) (.const (Go.Value.int Go.IntKind.i64 1)))⟩,
      ⟨some 4, none, .prim (.mov (.tmp 13))⟩])))))))
    (.seq (.ops [⟨some 14, none, .prim (.load 4 true (.tmp 1))⟩,
      ⟨none, none, .prim (.store 4 (.tmp 2) (.tmp 14))⟩])
    .ret)))
def o175 : List Tmp := [1, 2]
def r175 : List RV := [.cell 2 4 true]
theorem t175 : Text Tryz.prog 175 o175 c175 r175 15 := ⟨⟨Tryz.f175, _, by kernel_rfl, by kernel_rfl, rfl, by kernel_rfl, by kernel_rfl, rfl⟩, by kernel_rfl⟩

/-- sordine/rex.add -/
def c176 : ACode :=
  (.draw [⟨⟨some 4, none, .prim (.mov (.tmp 0))⟩, [], false, 0, 0⟩,
      ⟨⟨some 5, none, .prim (.mov (.tmp 1))⟩, [], false, 0, 0⟩,
      ⟨⟨some 6, none, .prim (.bin false .quo (.tmp 5) (.const (Go.Value.int Go.IntKind.u8 64)))⟩, [1], false, 0, 0⟩,
      ⟨⟨some 7, none, .prim (.nilc (.tmp 4))⟩, [0], false, 0, 0⟩,
      ⟨⟨some 8, none, .prim (.iadra 1 4 (.tmp 7) (.tmp 6))⟩, [0, 1, 2, 3], false, 0, 0⟩,
      ⟨⟨some 9, none, .prim (.load 1 false (.tmp 8))⟩, [0, 1, 2, 3, 4], false, 0, 0⟩,
      ⟨⟨some 10, none, .prim (.mov (.tmp 1))⟩, [], false, 0, 0⟩,
      ⟨⟨some 11, none, .prim (.bin false .rem (.tmp 10) (.const (Go.Value.int Go.IntKind.u8 64)))⟩, [6], false, 0, 0⟩,
      ⟨⟨some 12, none, .prim (.bin false .shl (.const (Go.Value.int Go.IntKind.u64 1)) (.tmp 11))⟩, [6, 7], false, 0, 0⟩,
      ⟨⟨some 13, none, .prim (.bin false .or (.tmp 9) (.tmp 12))⟩, [0, 1, 2, 3, 4, 5, 6, 7, 8], false, 0, 0⟩,
      ⟨⟨some 14, none, .prim (.nilc (.tmp 4))⟩, [0], false, 0, 0⟩,
      ⟨⟨some 15, none, .prim (.iadra 1 4 (.tmp 14) (.tmp 6))⟩, [0, 1, 2, 3, 4, 5, 6, 7, 8, 9, 10], false, 0, 0⟩,
      ⟨⟨none, none, .prim (.store 1 (.tmp 15) (.tmp 13))⟩, [0, 1, 2, 3, 4, 5, 6, 7, 8, 9, 10, 11], true, 0, 0⟩])
def o176 : List Tmp := []
def r176 : List RV := []
theorem t176 : Text Tryz.prog 176 o176 c176 r176 16 := ⟨⟨Tryz.f176, _, by kernel_rfl, by kernel_rfl, rfl, by kernel_rfl, by kernel_rfl, rfl⟩, by kernel_rfl⟩

/-- (*sordine/rex.parser).sign -/
def c177 : ACode :=
  (.seq (.ops [⟨some 2, none, .prim (.mov (.const (Go.Value.int Go.IntKind.u8 0)))⟩])
    (.seq (.ops [⟨some 4, none, .prim (.mov (.tmp 0))⟩,
      ⟨some 5, none, .call (.func 173) [(.tmp 4)]⟩,
      ⟨some 3, none, .prim (.mov (.tmp 5))⟩])
    (.seq (.ops [⟨some 6, none, .prim (.mov (.tmp 0))⟩,
      ⟨some 7, none, .prim (.mov (.tmp 0))⟩,
      ⟨some 8, none, .prim (.nilc (.tmp 7))⟩,
      ⟨some 9, none, .prim (.fadr 2 (.tmp 8))⟩,
      ⟨some 10, none, .prim (.load 1 false (.tmp 9))⟩,
      ⟨some 11, none, .prim (.mov (.tmp 10))⟩,
      ⟨some 12, (some (11, false)), .prim (.mov (.tmp 3))⟩,
      ⟨some 13, (some (11, false)), .call (.func 178) [(.const (Go.Value.string (ByteArray.mk #[124, 42, 43, 63, 40, 41, 91, 93, 46, 92, 94, 45]))), (.tmp 12)]⟩,
      ⟨some 14, (some (11, false)), .prim (.bin false .lss (.tmp 13) (.const (Go.Value.int Go.IntKind.i64 0)))⟩,
      ⟨some 15, none, .prim (.pick (.tmp 11) (.const (Go.Value.bool Bool.true)) (.tmp 14))⟩,
      ⟨some 16, none, .prim (.nilc (.tmp 6))⟩,
      ⟨some 17, none, .prim (.fadr 2 (.tmp 16))⟩,
      ⟨none, none, .prim (.store 1 (.tmp 17) (.tmp 15))⟩])
    (.seq (.ops [⟨some 18, none, .prim (.mov (.tmp 3))⟩,
      ⟨some 2, none, .prim (.mov (.tmp 18))⟩])
    .ret))))
def o177 : List Tmp := []
def r177 : List RV := [.tmp 2]
theorem t177 : Text Tryz.prog 177 o177 c177 r177 19 := ⟨⟨Tryz.f177, _, by kernel_rfl, by kernel_rfl, rfl, by kernel_rfl, by kernel_rfl, rfl⟩, by kernel_rfl⟩

/-- strings.IndexByte -/
def c178 : ACode :=
  (.seq (.ops [⟨some 4, none, .prim (.mov (.const (Go.Value.int Go.IntKind.i64 0)))⟩])
    (.seq (.ops [⟨some 5, none, .prim (.mov (.tmp 0))⟩,
      ⟨some 6, none, .prim (.mov (.tmp 1))⟩,
      ⟨some 7, none, .call (.func 181) [(.tmp 5), (.tmp 6)]⟩,
      ⟨some 4, none, .prim (.mov (.tmp 7))⟩])
    .ret))
def o178 : List Tmp := []
def r178 : List RV := [.tmp 4]
theorem t178 : Text Tryz.prog 178 o178 c178 r178 8 := ⟨⟨Tryz.f178, _, by kernel_rfl, by kernel_rfl, rfl, by kernel_rfl, by kernel_rfl, rfl⟩, by kernel_rfl⟩

/-- slices.order2Ordered[int] -/
def c179 : ACode :=
  (.seq (.ops [⟨some 8, none, .prim (.mov (.const (Go.Value.int Go.IntKind.i64 0)))⟩,
      ⟨some 9, none, .prim (.mov (.const (Go.Value.int Go.IntKind.i64 0)))⟩])
    (.seq (.seq (.draw [⟨⟨some 10, none, .prim (.mov (.tmp 0))⟩, [], false, 0, 0⟩,
      ⟨⟨some 11, none, .prim (.mov (.tmp 2))⟩, [], false, 0, 0⟩,
      ⟨⟨some 12, none, .prim (.iadrs 1 (.tmp 10) (.tmp 11))⟩, [0, 1], false, 0, 0⟩,
      ⟨⟨some 13, none, .prim (.load 1 false (.tmp 12))⟩, [0, 1, 2], false, 0, 0⟩,
      ⟨⟨some 14, none, .prim (.mov (.tmp 0))⟩, [], false, 0, 0⟩,
      ⟨⟨some 15, none, .prim (.mov (.tmp 1))⟩, [], false, 0, 0⟩,
      ⟨⟨some 16, none, .prim (.iadrs 1 (.tmp 14) (.tmp 15))⟩, [4, 5], false, 0, 0⟩,
      ⟨⟨some 17, none, .prim (.load 1 false (.tmp 16))⟩, [4, 5, 6], false, 0, 0⟩,
      ⟨⟨some 18, none, .call (.func 102) [(.tmp 13), (.tmp 17)]⟩, [0, 1, 2, 3, 4, 5, 6, 7], true, 0, 0⟩])
    (.cond (.tmp 18)
    (.seq (.ops [⟨some 19, none, .prim (.mov (.tmp 3))⟩,
      ⟨some 20, none, .prim (.nilc (.tmp 19))⟩,
      ⟨some 21, none, .prim (.load 1 false (.tmp 20))⟩,
      ⟨some 22, none, .prim (.bin false .add (.tmp 21) (.const (Go.Value.int Go.IntKind.i64 1)))⟩,
      ⟨some 23, none, .prim (.nilc (.tmp 19))⟩,
      ⟨none, none, .prim (.store 1 (.tmp 23) (.tmp 22))⟩])
    (.seq (.ops [⟨some 24, none, .prim (.mov (.tmp 2))⟩,
      ⟨some 25, none, .prim (.mov (.tmp 1))⟩,
      ⟨some 8, none, .prim (.mov (.tmp 24))⟩,
      ⟨some 9, none, .prim (.mov (.tmp 25))⟩])
    .ret))
    .skip))
    (.seq (.ops [⟨some 26, none, .prim (.mov (.tmp 1))⟩,
      ⟨some 27, none, .prim (.mov (.tmp 2))⟩,
      ⟨some 8, none, .prim (.mov (.tmp 26))⟩,
      ⟨some 9, none, .prim (.mov (.tmp 27))⟩])
    .ret)))
def o179 : List Tmp := []
def r179 : List RV := [.tmp 8, .tmp 9]
theorem t179 : Text Tryz.prog 179 o179 c179 r179 28 := ⟨⟨Tryz.f179, _, by kernel_rfl, by kernel_rfl, rfl, by kernel_rfl, by kernel_rfl, rfl⟩, by kernel_rfl⟩

/-- (*sordine/rex.parser).member -/
def c180 : ACode :=
  (.seq (.ops [⟨some 2, none, .prim (.mov (.const (Go.Value.int Go.IntKind.u8 0)))⟩])
    (.seq (.ops [⟨some 4, none, .prim (.mov (.tmp 0))⟩,
      ⟨some 5, none, .call (.func 173) [(.tmp 4)]⟩,
      ⟨some 3, none, .prim (.mov (.tmp 5))⟩])
    (.seq (.seq (.ops [⟨some 6, none, .prim (.mov (.tmp 3))⟩,
      ⟨some 7, none, .prim (.bin false .eql (.tmp 6) (.const (Go.Value.int Go.IntKind.u8 92)))⟩])
    (.cond (.tmp 7)
    (.seq (.ops [⟨some 8, none, .prim (.mov (.tmp 0))⟩,
      ⟨some 9, none, .call (.func 177) [(.tmp 8)]⟩,
      ⟨some 2, none, .prim (.mov (.tmp 9))⟩])
    .ret)
    .skip))
    (.seq (.ops [⟨some 10, none, .prim (.mov (.tmp 0))⟩,
      ⟨some 11, none, .prim (.mov (.tmp 0))⟩,
      ⟨some 12, none, .prim (.nilc (.tmp 11))⟩,
      ⟨some 13, none, .prim (.fadr 2 (.tmp 12))⟩,
      ⟨some 14, none, .prim (.load 1 false (.tmp 13))⟩,
      ⟨some 15, none, .prim (.mov (.tmp 14))⟩,
      ⟨some 16, (some (15, false)), .prim (.mov (.tmp 3))⟩,
      ⟨some 17, (some (15, false)), .call (.func 178) [(.const (Go.Value.string (ByteArray.mk #[92, 93, 91, 94, 45]))), (.tmp 16)]⟩,
      ⟨some 18, (some (15, false)), .prim (.bin false .geq (.tmp 17) (.const (Go.Value.int Go.IntKind.i64 0)))⟩,
      ⟨some 19, none, .prim (.pick (.tmp 15) (.const (Go.Value.bool Bool.true)) (.tmp 18))⟩,
      ⟨some 20, none, .prim (.nilc (.tmp 10))⟩,
      ⟨some 21, none, .prim (.fadr 2 (.tmp 20))⟩,
      ⟨none, none, .prim (.store 1 (.tmp 21) (.tmp 19))⟩])
    (.seq (.ops [⟨some 22, none, .prim (.mov (.tmp 3))⟩,
      ⟨some 2, none, .prim (.mov (.tmp 22))⟩])
    .ret)))))
def o180 : List Tmp := []
def r180 : List RV := [.tmp 2]
theorem t180 : Text Tryz.prog 180 o180 c180 r180 23 := ⟨⟨Tryz.f180, _, by kernel_rfl, by kernel_rfl, rfl, by kernel_rfl, by kernel_rfl, rfl⟩, by kernel_rfl⟩

/-- internal/stringslite.IndexByte -/
def c181 : ACode :=
  (.seq (.ops [⟨some 4, none, .prim (.mov (.const (Go.Value.int Go.IntKind.i64 0)))⟩])
    (.seq (.ops [⟨some 5, none, .prim (.mov (.tmp 0))⟩,
      ⟨some 6, none, .prim (.mov (.tmp 1))⟩,
      ⟨some 7, none, .call (.func 182) [(.tmp 5), (.tmp 6)]⟩,
      ⟨some 4, none, .prim (.mov (.tmp 7))⟩])
    .ret))
def o181 : List Tmp := []
def r181 : List RV := [.tmp 4]
theorem t181 : Text Tryz.prog 181 o181 c181 r181 8 := ⟨⟨Tryz.f181, _, by kernel_rfl, by kernel_rfl, rfl, by kernel_rfl, by kernel_rfl, rfl⟩, by kernel_rfl⟩

/-- gosem.cut.vars -/
def c205 : ACode :=
  (.ops [⟨some 0, none, .prim (.build [.pl (.int .u32 0), .pl (.int .u32 0), .pl (.int .u32 0), .pl (.int .u32 0), .pl (.int .u32 0), .pl (.int .u32 0), .pl (.int .u32 0), .pl (.int .u32 0), .pl (.int .u32 0), .pl (.int .u32 0), .pl (.int .u32 0), .pl (.int .u32 0), .pl (.int .u32 0), .pl (.int .u32 0), .pl (.int .u32 0), .pl (.int .u32 0), .pl (.int .u32 0), .pl (.int .u32 0), .pl (.int .u32 0), .pl (.int .u32 0), .pl (.int .u32 0), .pl (.int .u32 0), .pl (.int .u32 0), .pl (.int .u32 0), .pl (.int .u32 0), .pl (.int .u32 0), .pl (.int .u32 0), .pl (.int .u32 0), .pl (.int .u32 0), .pl (.int .u32 0), .pl (.int .u32 0), .pl (.int .u32 0), .pl (.int .u32 0), .pl (.int .u32 0), .pl (.int .u32 0), .pl (.int .u32 0), .pl (.int .u32 0), .pl (.int .u32 0), .pl (.int .u32 0), .pl (.int .u32 0), .pl (.int .u32 0), .pl (.int .u32 0), .pl (.int .u32 0), .pl (.int .u32 0), .pl (.int .u32 0), .pl (.int .u32 0), .pl (.int .u32 0), .pl (.int .u32 0), .pl (.int .u32 0), .pl (.int .u32 0), .pl (.int .u32 0), .pl (.int .u32 0), .pl (.int .u32 0), .pl (.int .u32 0), .pl (.int .u32 0), .pl (.int .u32 0), .pl (.int .u32 0), .pl (.int .u32 0), .pl (.int .u32 0), .pl (.int .u32 0), .pl (.int .u32 0), .pl (.int .u32 0), .pl (.int .u32 0), .pl (.int .u32 0)] [(0, 1, (.const (Go.Value.int Go.IntKind.u32 1116352408))), (1, 1, (.const (Go.Value.int Go.IntKind.u32 1899447441))), (2, 1, (.const (Go.Value.int Go.IntKind.u32 3049323471))), (3, 1, (.const (Go.Value.int Go.IntKind.u32 3921009573))), (4, 1, (.const (Go.Value.int Go.IntKind.u32 961987163))), (5, 1, (.const (Go.Value.int Go.IntKind.u32 1508970993))), (6, 1, (.const (Go.Value.int Go.IntKind.u32 2453635748))), (7, 1, (.const (Go.Value.int Go.IntKind.u32 2870763221))), (8, 1, (.const (Go.Value.int Go.IntKind.u32 3624381080))), (9, 1, (.const (Go.Value.int Go.IntKind.u32 310598401))), (10, 1, (.const (Go.Value.int Go.IntKind.u32 607225278))), (11, 1, (.const (Go.Value.int Go.IntKind.u32 1426881987))), (12, 1, (.const (Go.Value.int Go.IntKind.u32 1925078388))), (13, 1, (.const (Go.Value.int Go.IntKind.u32 2162078206))), (14, 1, (.const (Go.Value.int Go.IntKind.u32 2614888103))), (15, 1, (.const (Go.Value.int Go.IntKind.u32 3248222580))), (16, 1, (.const (Go.Value.int Go.IntKind.u32 3835390401))), (17, 1, (.const (Go.Value.int Go.IntKind.u32 4022224774))), (18, 1, (.const (Go.Value.int Go.IntKind.u32 264347078))), (19, 1, (.const (Go.Value.int Go.IntKind.u32 604807628))), (20, 1, (.const (Go.Value.int Go.IntKind.u32 770255983))), (21, 1, (.const (Go.Value.int Go.IntKind.u32 1249150122))), (22, 1, (.const (Go.Value.int Go.IntKind.u32 1555081692))), (23, 1, (.const (Go.Value.int Go.IntKind.u32 1996064986))), (24, 1, (.const (Go.Value.int Go.IntKind.u32 2554220882))), (25, 1, (.const (Go.Value.int Go.IntKind.u32 2821834349))), (26, 1, (.const (Go.Value.int Go.IntKind.u32 2952996808))), (27, 1, (.const (Go.Value.int Go.IntKind.u32 3210313671))), (28, 1, (.const (Go.Value.int Go.IntKind.u32 3336571891))), (29, 1, (.const (Go.Value.int Go.IntKind.u32 3584528711))), (30, 1, (.const (Go.Value.int Go.IntKind.u32 113926993))), (31, 1, (.const (Go.Value.int Go.IntKind.u32 338241895))), (32, 1, (.const (Go.Value.int Go.IntKind.u32 666307205))), (33, 1, (.const (Go.Value.int Go.IntKind.u32 773529912))), (34, 1, (.const (Go.Value.int Go.IntKind.u32 1294757372))), (35, 1, (.const (Go.Value.int Go.IntKind.u32 1396182291))), (36, 1, (.const (Go.Value.int Go.IntKind.u32 1695183700))), (37, 1, (.const (Go.Value.int Go.IntKind.u32 1986661051))), (38, 1, (.const (Go.Value.int Go.IntKind.u32 2177026350))), (39, 1, (.const (Go.Value.int Go.IntKind.u32 2456956037))), (40, 1, (.const (Go.Value.int Go.IntKind.u32 2730485921))), (41, 1, (.const (Go.Value.int Go.IntKind.u32 2820302411))), (42, 1, (.const (Go.Value.int Go.IntKind.u32 3259730800))), (43, 1, (.const (Go.Value.int Go.IntKind.u32 3345764771))), (44, 1, (.const (Go.Value.int Go.IntKind.u32 3516065817))), (45, 1, (.const (Go.Value.int Go.IntKind.u32 3600352804))), (46, 1, (.const (Go.Value.int Go.IntKind.u32 4094571909))), (47, 1, (.const (Go.Value.int Go.IntKind.u32 275423344))), (48, 1, (.const (Go.Value.int Go.IntKind.u32 430227734))), (49, 1, (.const (Go.Value.int Go.IntKind.u32 506948616))), (50, 1, (.const (Go.Value.int Go.IntKind.u32 659060556))), (51, 1, (.const (Go.Value.int Go.IntKind.u32 883997877))), (52, 1, (.const (Go.Value.int Go.IntKind.u32 958139571))), (53, 1, (.const (Go.Value.int Go.IntKind.u32 1322822218))), (54, 1, (.const (Go.Value.int Go.IntKind.u32 1537002063))), (55, 1, (.const (Go.Value.int Go.IntKind.u32 1747873779))), (56, 1, (.const (Go.Value.int Go.IntKind.u32 1955562222))), (57, 1, (.const (Go.Value.int Go.IntKind.u32 2024104815))), (58, 1, (.const (Go.Value.int Go.IntKind.u32 2227730452))), (59, 1, (.const (Go.Value.int Go.IntKind.u32 2361852424))), (60, 1, (.const (Go.Value.int Go.IntKind.u32 2428436474))), (61, 1, (.const (Go.Value.int Go.IntKind.u32 2756734187))), (62, 1, (.const (Go.Value.int Go.IntKind.u32 3204031479))), (63, 1, (.const (Go.Value.int Go.IntKind.u32 3329325298)))])⟩,
      ⟨none, none, .prim (.store 64 (.global 0) (.tmp 0))⟩])
def o205 : List Tmp := []
def r205 : List RV := []
theorem t205 : Text Tryz.prog 205 o205 c205 r205 1 := ⟨⟨Tryz.f205, _, by kernel_rfl, by kernel_rfl, rfl, by kernel_rfl, by kernel_rfl, rfl⟩, by kernel_rfl⟩

end Go.Proofs.YtgnoebkcephdmabGreatDoor
